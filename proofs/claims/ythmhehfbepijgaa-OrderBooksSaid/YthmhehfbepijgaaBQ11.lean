import Derived.Test.YthmhehfbepijgaaBQ0
import Derived.Test.YthmhehfbepijgaaBQ2
import Derived.Test.YthmhehfbepijgaaBR12
import Derived.Test.YthmhehfbepijgaaBQ5
import Derived.Test.YthmhehfbepijgaaBQ6
import Derived.Test.YthmhehfbepijgaaBQ7
import Derived.Test.YthmhehfbepijgaaBQ8
import Derived.Test.YthmhehfbepijgaaBQ9
namespace Go.Proofs.Ythmhehfbepijgaa.Q
open Go.RowKit Go.Proofs.YthmhehfbepijgaaW.PrintWords Go.Proofs.YthmhehfbepijgaaW.PrintLast Go.Proofs.YthmhehfbepijgaaW.PrintMore
attribute [local go_sem] max2_int min2_int max_two min_two max_three min_three max_four min_four
set_option linter.unusedVariables false
set_option linter.unusedSimpArgs false
def papermillref51_Same.l0 : Nat → List (S41) → List (S41) → Int → Option (Bool)
  | 0, _, _, _ => none
  | k + 1, x0, x1, x5 => if x5 < (x0.length : Int) then (if 0 ≤ x5 then (if x5 < (x1.length : Int) then ((papermillref51_SameOne.f k ((rd_T41 x0 x5).f0.f0) ((rd_T41 x0 x5).f0.f1) ((rd_T41 x0 x5).f0.f2) ((rd_T41 x0 x5).f0.f3) ((rd_T41 x0 x5).f0.f4) ((rd_T41 x0 x5).f0.f5) ((rd_T41 x0 x5).f0.f6) ((rd_T41 x0 x5).f0.f7) ((rd_T41 x0 x5).f0.f8) ((rd_T41 x0 x5).f0.f9) ((rd_T41 x0 x5).f0.f10) ((rd_T41 x0 x5).f0.f11) ((rd_T41 x0 x5).f1) ((rd_T41 x0 x5).f2) ((rd_T41 x0 x5).f3) ((rd_T41 x1 x5).f0.f0) ((rd_T41 x1 x5).f0.f1) ((rd_T41 x1 x5).f0.f2) ((rd_T41 x1 x5).f0.f3) ((rd_T41 x1 x5).f0.f4) ((rd_T41 x1 x5).f0.f5) ((rd_T41 x1 x5).f0.f6) ((rd_T41 x1 x5).f0.f7) ((rd_T41 x1 x5).f0.f8) ((rd_T41 x1 x5).f0.f9) ((rd_T41 x1 x5).f0.f10) ((rd_T41 x1 x5).f0.f11) ((rd_T41 x1 x5).f1) ((rd_T41 x1 x5).f2) ((rd_T41 x1 x5).f3)).bind fun t253 => (if t253 = true then (papermillref51_Same.l0 k x0 x1 (wrap64 (x5 + 1))) else (some false))) else (none)) else (none)) else (some true)
def papermillref51_Same.f (k : Nat) (l0 : List (S41)) (l1 : List (S41)) : Option (Bool) := if (l0.length : Int) = (l1.length : Int) then (papermillref51_Same.l0 k l0 l1 0) else (some false)
theorem papermillref51_Same.mono_l : ∀ k, (∀ y0 y1 y2, LeO (papermillref51_Same.l0 k y0 y1 y2) (papermillref51_Same.l0 (k + 1) y0 y1 y2))
  | 0 => fun _ _ _ r h => by simp [papermillref51_Same.l0] at h
  | k + 1 => by
    have ih0 := papermillref51_Same.mono_l k
    · intro y0 y1 y2
      unfold papermillref51_Same.l0
      repeat' first
      | (with_reducible exact ih0 _ _ _)
      | (with_reducible exact papermillref51_SameOne.mono _ _ _ _ _ _ _ _ _ _ _ _ _ _ _ _ _ _ _ _ _ _ _ _ _ _ _ _ _ _ _)
      | (with_reducible exact LeO.refl _)
      | (with_reducible exact LeO.none _)
      | (with_reducible refine LeO.ite ?_ ?_)
      | (with_reducible refine LeO.bind ?_ (fun _ => ?_))
      | exact ih0 _ _ _
      | exact papermillref51_SameOne.mono _ _ _ _ _ _ _ _ _ _ _ _ _ _ _ _ _ _ _ _ _ _ _ _ _ _ _ _ _ _ _
      | exact LeO.none _
      | refine LeO.ite ?_ ?_
      | refine LeO.bind ?_ (fun _ => ?_)
theorem papermillref51_Same.mono : ∀ a0 a1 k, LeO (papermillref51_Same.f k a0 a1) (papermillref51_Same.f (k + 1) a0 a1) := by
  intro a0 a1 k
  have ih0 := papermillref51_Same.mono_l k
  unfold papermillref51_Same.f
  repeat' first
      | (with_reducible exact ih0 _ _ _)
      | (with_reducible exact papermillref51_SameOne.mono _ _ _ _ _ _ _ _ _ _ _ _ _ _ _ _ _ _ _ _ _ _ _ _ _ _ _ _ _ _ _)
      | (with_reducible exact LeO.refl _)
      | (with_reducible exact LeO.none _)
      | (with_reducible refine LeO.ite ?_ ?_)
      | (with_reducible refine LeO.bind ?_ (fun _ => ?_))
      | exact ih0 _ _ _
      | exact papermillref51_SameOne.mono _ _ _ _ _ _ _ _ _ _ _ _ _ _ _ _ _ _ _ _ _ _ _ _ _ _ _ _ _ _ _
      | exact LeO.none _
      | refine LeO.ite ?_ ?_
      | refine LeO.bind ?_ (fun _ => ?_)
def papermillref51_Same.T6 : Bool × List (List Nat × List Nat) := (true, [([], []), ([], []), ([0, 1], [0, 1]), ([2], [2]), ([], []), ([], []), ([4, 5], [4, 5]), ([6], [6]), ([3, 7], [3, 7]), ([8], [8])])
def papermillref51_Same.B6 : List Nat := [0, 0, 3, 7, 0, 0, 48, 112, 255, 511]
theorem papermillref51_Same.tab6 : rtab .any (opsOf Try.f26 6) = papermillref51_Same.T6 := by kernel_rfl
theorem papermillref51_Same.bits6 : waitsOk papermillref51_Same.T6.2 papermillref51_Same.B6 = true := by kernel_rfl
set_option maxHeartbeats 8000000 in
set_option maxRecDepth 100000 in
theorem papermillref51_Same.calls (k : Nat) (A0 : Option Addr) (c0 : Nat) (l0 : List (S41)) (A1 : Option Addr) (c1 : Nat) (l1 : List (S41)) (r : Bool) (w : World) (hr0 : Kd.C k41 w A0 l0.length l0) (hc0 : l0.length ≤ c0) (hr1 : Kd.C k41 w A1 l1.length l1) (hc1 : l1.length ≤ c1) (h : papermillref51_Same.f k l0 l1 = some r) :
    Calls Try.prog 26 #[.slice A0 l0.length c0, .slice A1 l1.length c1] w fun e w' => e = .returned (.bool r) ∧ Below w.heap.size w w' := by
  have hu41 := Try.underlying41
  have HR0 := Aside0.mk hr0
  have HC0 := Aside0.mk hc0
  clear hr0 hc0
  have HR1 := Aside0.mk hr1
  have HC1 := Aside0.mk hc1
  clear hr1 hc1
  have HB := Aside0.mk (Below.refl w.heap.size w)
  have H : (if (l0.length : Int) = (l1.length : Int) then (papermillref51_Same.l0 k l0 l1 0) else (some false)) = some r := h
  clear h
  by_cases c3 : (l0.length : Int) = (l1.length : Int)
  · rw [if_pos c3] at H
    have c3b0 : ((l0.length : Int) == (l1.length : Int)) = true := beq_iff_eq.mpr c3
    have c3b1 : ((l0.length : Int) != (l1.length : Int)) = false := bne_eq_false_iff_eq.mpr c3
    have c3b2 : (l0.length == l1.length) = true := by first | simpa using c3 | (simp at c3 ⊢; omega)
    clear c3
    have H' := Aside0.mk H
    clear H
    go_enter Try.func26, Try.ntmps26
    go_wp2
    go_loopg [5] k (fun kq v5 w' => ∃ (x5_1 : Int), v5 = .int .i64 x5_1 ∧ Aside0 (papermillref51_Same.l0 kq l0 l1 x5_1 = some r) ∧ Aside0 (kq ≤ k) ∧ Aside0 (Below w.heap.size w w'))
    case atStart => exact ⟨(0), (by first | rfl | (simp; done) | (simp [*]; done)), H', ⟨Nat.le_refl _⟩, ⟨by repeat (first | (with_reducible first | exact HB.out | apply below_alloc | apply pw_below_drewN | apply below_drew1) | exact HB.out)⟩⟩
    case round =>
      clear H'
      try clear c1
      try clear c2
      try clear p2
      try clear c3
      try clear c3b0
      try clear c3b1
      try clear c3b2
      obtain ⟨x5_1, rfl, HA, HK1, HB⟩ := hrel
      cases gk with
      | zero => exact absurd HA.out (by simp [papermillref51_Same.l0])
      | succ k1 =>
        have H := HA.out
        clear HA
        simp only [papermillref51_Same.l0] at H
        by_cases c4 : x5_1 < (l0.length : Int)
        · rw [if_pos c4] at H
          have c4b0 : decide (x5_1 < (l0.length : Int)) = true := decide_eq_true c4
          clear c4
          by_cases c5 : 0 ≤ x5_1
          · rw [if_pos c5] at H
            have c5b0 : decide (0 ≤ x5_1) = true := decide_eq_true c5
            clear c5
            by_cases c6 : x5_1 < (l1.length : Int)
            · rw [if_pos c6] at H
              have c6b0 : decide (x5_1 < (l1.length : Int)) = true := decide_eq_true c6
              clear c6
              replace H := Option.bind_eq_some_iff.mp H
              obtain ⟨t253, A70, H⟩ := H
              replace H : (if t253 = true then (papermillref51_Same.l0 k1 l0 l1 (wrap64 (x5_1 + 1))) else (some false)) = some r := H
              have A7 := Aside0.mk A70
              clear A70
              by_cases c8 : t253 = true
              · subst c8
                have H1 : (papermillref51_Same.l0 k1 l0 l1 (wrap64 (x5_1 + 1))) = some r := by rw [if_pos rfl] at H; exact H
                clear H
                have H := H1
                clear H1
                have H' := Aside0.mk H
                clear H
                try go_wp2
                have n0_ := Aside0.mk (below_drew1 HB.out)
                clear HB
                have HB := n0_
                clear n0_
                have p251 : 0 ≤ (x5_1 : Int) := of_decide_eq_true (by first | (with_reducible assumption) | assumption)
                have q251 : x5_1 < (l0.length : Int) := of_decide_eq_true (by first | (with_reducible assumption) | assumption)
                obtain ⟨ad251, A251_12, c251_12, A251_13, c251_13, e251, hx251_0, hx251_1, hx251_2, hx251_3, hx251_4, hx251_5, hx251_6, hx251_7, hx251_8, hx251_9, hx251_10, hx251_11, hx251_12, hx251_13, hx251_14, hl251_12, hi251_12, hl251_13, hi251_13⟩ := at_T41 HR0.out x5_1 p251 q251
                have hw251_14 := hx251_14
                have hw251_13 := hx251_13
                have hw251_12 := hx251_12
                have hw251_11 := hx251_11
                have hw251_10 := hx251_10
                have hw251_9 := hx251_9
                have hw251_8 := hx251_8
                have hw251_7 := hx251_7
                have hw251_6 := hx251_6
                have hw251_5 := hx251_5
                have hw251_4 := hx251_4
                have hw251_3 := hx251_3
                have hw251_2 := hx251_2
                have hw251_1 := hx251_1
                have hw251_0 := hx251_0
                cases e251
                replace hx251_0 := (HB.out.cell (World.block_lt_of_cell? w _ hx251_0)).trans hx251_0
                replace hx251_1 := (HB.out.cell (World.block_lt_of_cell? w _ hx251_1)).trans hx251_1
                replace hx251_2 := (HB.out.cell (World.block_lt_of_cell? w _ hx251_2)).trans hx251_2
                replace hx251_3 := (HB.out.cell (World.block_lt_of_cell? w _ hx251_3)).trans hx251_3
                replace hx251_4 := (HB.out.cell (World.block_lt_of_cell? w _ hx251_4)).trans hx251_4
                replace hx251_5 := (HB.out.cell (World.block_lt_of_cell? w _ hx251_5)).trans hx251_5
                replace hx251_6 := (HB.out.cell (World.block_lt_of_cell? w _ hx251_6)).trans hx251_6
                replace hx251_7 := (HB.out.cell (World.block_lt_of_cell? w _ hx251_7)).trans hx251_7
                replace hx251_8 := (HB.out.cell (World.block_lt_of_cell? w _ hx251_8)).trans hx251_8
                replace hx251_9 := (HB.out.cell (World.block_lt_of_cell? w _ hx251_9)).trans hx251_9
                replace hx251_10 := (HB.out.cell (World.block_lt_of_cell? w _ hx251_10)).trans hx251_10
                replace hx251_11 := (HB.out.cell (World.block_lt_of_cell? w _ hx251_11)).trans hx251_11
                replace hx251_12 := (HB.out.cell (World.block_lt_of_cell? w _ hx251_12)).trans hx251_12
                replace hx251_13 := (HB.out.cell (World.block_lt_of_cell? w _ hx251_13)).trans hx251_13
                replace hx251_14 := (HB.out.cell (World.block_lt_of_cell? w _ hx251_14)).trans hx251_14
                have HR251_12 := Aside0.mk hi251_12
                have HC251_12 := Aside0.mk hl251_12
                clear hi251_12 hl251_12
                have HR251_13 := Aside0.mk hi251_13
                have HC251_13 := Aside0.mk hl251_13
                clear hi251_13 hl251_13
                replace p251 := eq_true p251
                replace q251 := eq_true q251
                have p252 : 0 ≤ (x5_1 : Int) := of_decide_eq_true (by first | (with_reducible assumption) | assumption)
                have q252 : x5_1 < (l1.length : Int) := of_decide_eq_true (by first | (with_reducible assumption) | assumption)
                obtain ⟨ad252, A252_12, c252_12, A252_13, c252_13, e252, hx252_0, hx252_1, hx252_2, hx252_3, hx252_4, hx252_5, hx252_6, hx252_7, hx252_8, hx252_9, hx252_10, hx252_11, hx252_12, hx252_13, hx252_14, hl252_12, hi252_12, hl252_13, hi252_13⟩ := at_T41 HR1.out x5_1 p252 q252
                have hw252_14 := hx252_14
                have hw252_13 := hx252_13
                have hw252_12 := hx252_12
                have hw252_11 := hx252_11
                have hw252_10 := hx252_10
                have hw252_9 := hx252_9
                have hw252_8 := hx252_8
                have hw252_7 := hx252_7
                have hw252_6 := hx252_6
                have hw252_5 := hx252_5
                have hw252_4 := hx252_4
                have hw252_3 := hx252_3
                have hw252_2 := hx252_2
                have hw252_1 := hx252_1
                have hw252_0 := hx252_0
                cases e252
                replace hx252_0 := (HB.out.cell (World.block_lt_of_cell? w _ hx252_0)).trans hx252_0
                replace hx252_1 := (HB.out.cell (World.block_lt_of_cell? w _ hx252_1)).trans hx252_1
                replace hx252_2 := (HB.out.cell (World.block_lt_of_cell? w _ hx252_2)).trans hx252_2
                replace hx252_3 := (HB.out.cell (World.block_lt_of_cell? w _ hx252_3)).trans hx252_3
                replace hx252_4 := (HB.out.cell (World.block_lt_of_cell? w _ hx252_4)).trans hx252_4
                replace hx252_5 := (HB.out.cell (World.block_lt_of_cell? w _ hx252_5)).trans hx252_5
                replace hx252_6 := (HB.out.cell (World.block_lt_of_cell? w _ hx252_6)).trans hx252_6
                replace hx252_7 := (HB.out.cell (World.block_lt_of_cell? w _ hx252_7)).trans hx252_7
                replace hx252_8 := (HB.out.cell (World.block_lt_of_cell? w _ hx252_8)).trans hx252_8
                replace hx252_9 := (HB.out.cell (World.block_lt_of_cell? w _ hx252_9)).trans hx252_9
                replace hx252_10 := (HB.out.cell (World.block_lt_of_cell? w _ hx252_10)).trans hx252_10
                replace hx252_11 := (HB.out.cell (World.block_lt_of_cell? w _ hx252_11)).trans hx252_11
                replace hx252_12 := (HB.out.cell (World.block_lt_of_cell? w _ hx252_12)).trans hx252_12
                replace hx252_13 := (HB.out.cell (World.block_lt_of_cell? w _ hx252_13)).trans hx252_13
                replace hx252_14 := (HB.out.cell (World.block_lt_of_cell? w _ hx252_14)).trans hx252_14
                have HR252_12 := Aside0.mk hi252_12
                have HC252_12 := Aside0.mk hl252_12
                clear hi252_12 hl252_12
                have HR252_13 := Aside0.mk hi252_13
                have HC252_13 := Aside0.mk hl252_13
                clear hi252_13 hl252_13
                replace p252 := eq_true p252
                replace q252 := eq_true q252
                refine start_ (n := 10) (S := fun w' => w'.cell? (ad251.add ((x5_1).toNat * 15)) = some (.int .i64 ((rd_T41 l0 x5_1).f0.f0)) ∧ w'.cell? ⟨(ad251.add ((x5_1).toNat * 15)).block, (ad251.add ((x5_1).toNat * 15)).off + 1, none⟩ = some (.int .i64 ((rd_T41 l0 x5_1).f0.f1)) ∧ w'.cell? ⟨(ad251.add ((x5_1).toNat * 15)).block, (ad251.add ((x5_1).toNat * 15)).off + 2, none⟩ = some (.int .i64 ((rd_T41 l0 x5_1).f0.f2)) ∧ w'.cell? ⟨(ad251.add ((x5_1).toNat * 15)).block, (ad251.add ((x5_1).toNat * 15)).off + 3, none⟩ = some (.int .i64 ((rd_T41 l0 x5_1).f0.f3)) ∧ w'.cell? ⟨(ad251.add ((x5_1).toNat * 15)).block, (ad251.add ((x5_1).toNat * 15)).off + 4, none⟩ = some (.int .i64 ((rd_T41 l0 x5_1).f0.f4)) ∧ w'.cell? ⟨(ad251.add ((x5_1).toNat * 15)).block, (ad251.add ((x5_1).toNat * 15)).off + 5, none⟩ = some (.int .i64 ((rd_T41 l0 x5_1).f0.f5)) ∧ w'.cell? ⟨(ad251.add ((x5_1).toNat * 15)).block, (ad251.add ((x5_1).toNat * 15)).off + 6, none⟩ = some (.int .i64 ((rd_T41 l0 x5_1).f0.f6)) ∧ w'.cell? ⟨(ad251.add ((x5_1).toNat * 15)).block, (ad251.add ((x5_1).toNat * 15)).off + 7, none⟩ = some (.int .i64 ((rd_T41 l0 x5_1).f0.f7)) ∧ w'.cell? ⟨(ad251.add ((x5_1).toNat * 15)).block, (ad251.add ((x5_1).toNat * 15)).off + 8, none⟩ = some (.int .i64 ((rd_T41 l0 x5_1).f0.f8)) ∧ w'.cell? ⟨(ad251.add ((x5_1).toNat * 15)).block, (ad251.add ((x5_1).toNat * 15)).off + 9, none⟩ = some (.int .i64 ((rd_T41 l0 x5_1).f0.f9)) ∧ w'.cell? ⟨(ad251.add ((x5_1).toNat * 15)).block, (ad251.add ((x5_1).toNat * 15)).off + 10, none⟩ = some (.int .i64 ((rd_T41 l0 x5_1).f0.f10)) ∧ w'.cell? ⟨(ad251.add ((x5_1).toNat * 15)).block, (ad251.add ((x5_1).toNat * 15)).off + 11, none⟩ = some (.int .i64 ((rd_T41 l0 x5_1).f0.f11)) ∧ w'.cell? ⟨(ad251.add ((x5_1).toNat * 15)).block, (ad251.add ((x5_1).toNat * 15)).off + 12, none⟩ = some (.slice A251_12 ((rd_T41 l0 x5_1).f1).length c251_12) ∧ w'.cell? ⟨(ad251.add ((x5_1).toNat * 15)).block, (ad251.add ((x5_1).toNat * 15)).off + 13, none⟩ = some (.slice A251_13 ((rd_T41 l0 x5_1).f2).length c251_13) ∧ w'.cell? ⟨(ad251.add ((x5_1).toNat * 15)).block, (ad251.add ((x5_1).toNat * 15)).off + 14, none⟩ = some (.bool ((rd_T41 l0 x5_1).f3)) ∧ w'.cell? (ad252.add ((x5_1).toNat * 15)) = some (.int .i64 ((rd_T41 l1 x5_1).f0.f0)) ∧ w'.cell? ⟨(ad252.add ((x5_1).toNat * 15)).block, (ad252.add ((x5_1).toNat * 15)).off + 1, none⟩ = some (.int .i64 ((rd_T41 l1 x5_1).f0.f1)) ∧ w'.cell? ⟨(ad252.add ((x5_1).toNat * 15)).block, (ad252.add ((x5_1).toNat * 15)).off + 2, none⟩ = some (.int .i64 ((rd_T41 l1 x5_1).f0.f2)) ∧ w'.cell? ⟨(ad252.add ((x5_1).toNat * 15)).block, (ad252.add ((x5_1).toNat * 15)).off + 3, none⟩ = some (.int .i64 ((rd_T41 l1 x5_1).f0.f3)) ∧ w'.cell? ⟨(ad252.add ((x5_1).toNat * 15)).block, (ad252.add ((x5_1).toNat * 15)).off + 4, none⟩ = some (.int .i64 ((rd_T41 l1 x5_1).f0.f4)) ∧ w'.cell? ⟨(ad252.add ((x5_1).toNat * 15)).block, (ad252.add ((x5_1).toNat * 15)).off + 5, none⟩ = some (.int .i64 ((rd_T41 l1 x5_1).f0.f5)) ∧ w'.cell? ⟨(ad252.add ((x5_1).toNat * 15)).block, (ad252.add ((x5_1).toNat * 15)).off + 6, none⟩ = some (.int .i64 ((rd_T41 l1 x5_1).f0.f6)) ∧ w'.cell? ⟨(ad252.add ((x5_1).toNat * 15)).block, (ad252.add ((x5_1).toNat * 15)).off + 7, none⟩ = some (.int .i64 ((rd_T41 l1 x5_1).f0.f7)) ∧ w'.cell? ⟨(ad252.add ((x5_1).toNat * 15)).block, (ad252.add ((x5_1).toNat * 15)).off + 8, none⟩ = some (.int .i64 ((rd_T41 l1 x5_1).f0.f8)) ∧ w'.cell? ⟨(ad252.add ((x5_1).toNat * 15)).block, (ad252.add ((x5_1).toNat * 15)).off + 9, none⟩ = some (.int .i64 ((rd_T41 l1 x5_1).f0.f9)) ∧ w'.cell? ⟨(ad252.add ((x5_1).toNat * 15)).block, (ad252.add ((x5_1).toNat * 15)).off + 10, none⟩ = some (.int .i64 ((rd_T41 l1 x5_1).f0.f10)) ∧ w'.cell? ⟨(ad252.add ((x5_1).toNat * 15)).block, (ad252.add ((x5_1).toNat * 15)).off + 11, none⟩ = some (.int .i64 ((rd_T41 l1 x5_1).f0.f11)) ∧ w'.cell? ⟨(ad252.add ((x5_1).toNat * 15)).block, (ad252.add ((x5_1).toNat * 15)).off + 12, none⟩ = some (.slice A252_12 ((rd_T41 l1 x5_1).f1).length c252_12) ∧ w'.cell? ⟨(ad252.add ((x5_1).toNat * 15)).block, (ad252.add ((x5_1).toNat * 15)).off + 13, none⟩ = some (.slice A252_13 ((rd_T41 l1 x5_1).f2).length c252_13) ∧ w'.cell? ⟨(ad252.add ((x5_1).toNat * 15)).block, (ad252.add ((x5_1).toNat * 15)).off + 14, none⟩ = some (.bool ((rd_T41 l1 x5_1).f3))) (ds := []) #[false, false, false, false, false, false, false, false, false, false] (by kernel_rfl) rfl rfl ⟨((HB.out.cell (World.block_lt_of_cell? w _ hw251_0)).trans hw251_0), ((HB.out.cell (World.block_lt_of_cell? w _ hw251_1)).trans hw251_1), ((HB.out.cell (World.block_lt_of_cell? w _ hw251_2)).trans hw251_2), ((HB.out.cell (World.block_lt_of_cell? w _ hw251_3)).trans hw251_3), ((HB.out.cell (World.block_lt_of_cell? w _ hw251_4)).trans hw251_4), ((HB.out.cell (World.block_lt_of_cell? w _ hw251_5)).trans hw251_5), ((HB.out.cell (World.block_lt_of_cell? w _ hw251_6)).trans hw251_6), ((HB.out.cell (World.block_lt_of_cell? w _ hw251_7)).trans hw251_7), ((HB.out.cell (World.block_lt_of_cell? w _ hw251_8)).trans hw251_8), ((HB.out.cell (World.block_lt_of_cell? w _ hw251_9)).trans hw251_9), ((HB.out.cell (World.block_lt_of_cell? w _ hw251_10)).trans hw251_10), ((HB.out.cell (World.block_lt_of_cell? w _ hw251_11)).trans hw251_11), ((HB.out.cell (World.block_lt_of_cell? w _ hw251_12)).trans hw251_12), ((HB.out.cell (World.block_lt_of_cell? w _ hw251_13)).trans hw251_13), ((HB.out.cell (World.block_lt_of_cell? w _ hw251_14)).trans hw251_14), ((HB.out.cell (World.block_lt_of_cell? w _ hw252_0)).trans hw252_0), ((HB.out.cell (World.block_lt_of_cell? w _ hw252_1)).trans hw252_1), ((HB.out.cell (World.block_lt_of_cell? w _ hw252_2)).trans hw252_2), ((HB.out.cell (World.block_lt_of_cell? w _ hw252_3)).trans hw252_3), ((HB.out.cell (World.block_lt_of_cell? w _ hw252_4)).trans hw252_4), ((HB.out.cell (World.block_lt_of_cell? w _ hw252_5)).trans hw252_5), ((HB.out.cell (World.block_lt_of_cell? w _ hw252_6)).trans hw252_6), ((HB.out.cell (World.block_lt_of_cell? w _ hw252_7)).trans hw252_7), ((HB.out.cell (World.block_lt_of_cell? w _ hw252_8)).trans hw252_8), ((HB.out.cell (World.block_lt_of_cell? w _ hw252_9)).trans hw252_9), ((HB.out.cell (World.block_lt_of_cell? w _ hw252_10)).trans hw252_10), ((HB.out.cell (World.block_lt_of_cell? w _ hw252_11)).trans hw252_11), ((HB.out.cell (World.block_lt_of_cell? w _ hw252_12)).trans hw252_12), ((HB.out.cell (World.block_lt_of_cell? w _ hw252_13)).trans hw252_13), ((HB.out.cell (World.block_lt_of_cell? w _ hw252_14)).trans hw252_14)⟩ (fun hHeld => ?_); refine with_tabW papermillref51_Same.tab6 papermillref51_Same.bits6 (fun HT_ HW_ => ?_)
                generalize wr.drew = w9 at HB HR251_12 HR251_13 HR252_12 HR252_13 hx251_0 hx251_1 hx251_10 hx251_11 hx251_12 hx251_13 hx251_14 hx251_2 hx251_3 hx251_4 hx251_5 hx251_6 hx251_7 hx251_8 hx251_9 hx252_0 hx252_1 hx252_10 hx252_11 hx252_12 hx252_13 hx252_14 hx252_2 hx252_3 hx252_4 hx252_5 hx252_6 hx252_7 hx252_8 hx252_9 hHeld ⊢
                refine pure_ (i := 0) (N := some 17) (v := ?_) (a' := ?_) #[true, false, false, false, false, false, false, false, false, false] rfl rfl (any_of HT_.out (by kernel_rfl)) (fun _ _ _ h => h) (Or.inl ⟨by rfl, ?_⟩) ?_ ?_
                rotate_left
                · intro w'
                  go_simp
                  with_reducible rfl
                rotate_left
                · simp only [Act.put, List.setIfInBounds_toArray, List.set_cons_zero, List.set_cons_succ, i64_w, i32_w]
                  rfl
                refine pure_ (i := 1) (N := some 18) (v := ?_) (a' := ?_) #[true, true, false, false, false, false, false, false, false, false] rfl rfl (any_of HT_.out (by kernel_rfl)) (fun _ _ _ h => h) (Or.inl ⟨by rfl, ?_⟩) ?_ ?_
                rotate_left
                · intro w'
                  go_simp
                  with_reducible rfl
                rotate_left
                · simp only [Act.put, List.setIfInBounds_toArray, List.set_cons_zero, List.set_cons_succ, i64_w, i32_w]
                  rfl
                refine pure_ (i := 2) (N := some 19) (v := ?_) (a' := ?_) #[true, true, true, false, false, false, false, false, false, false] rfl rfl (any_of HT_.out (by kernel_rfl)) (fun _ _ _ h => h) (Or.inl ⟨by rfl, ?_⟩) ?_ ?_
                rotate_left
                · intro w'
                  go_simp
                  with_reducible rfl
                rotate_left
                · simp only [Act.put, List.setIfInBounds_toArray, List.set_cons_zero, List.set_cons_succ, i64_w, i32_w]
                  rfl
                refine pure_ (i := 4) (N := some 21) (v := ?_) (a' := ?_) #[true, true, true, false, true, false, false, false, false, false] rfl rfl (any_of HT_.out (by kernel_rfl)) (fun _ _ _ h => h) (Or.inl ⟨by rfl, ?_⟩) ?_ ?_
                rotate_left
                · intro w'
                  go_simp
                  with_reducible rfl
                rotate_left
                · simp only [Act.put, List.setIfInBounds_toArray, List.set_cons_zero, List.set_cons_succ, i64_w, i32_w]
                  rfl
                refine pure_ (i := 5) (N := some 22) (v := ?_) (a' := ?_) #[true, true, true, false, true, true, false, false, false, false] rfl rfl (any_of HT_.out (by kernel_rfl)) (fun _ _ _ h => h) (Or.inl ⟨by rfl, ?_⟩) ?_ ?_
                rotate_left
                · intro w'
                  go_simp
                  with_reducible rfl
                rotate_left
                · simp only [Act.put, List.setIfInBounds_toArray, List.set_cons_zero, List.set_cons_succ, i64_w, i32_w]
                  rfl
                refine pure_ (i := 6) (N := some 23) (v := ?_) (a' := ?_) #[true, true, true, false, true, true, true, false, false, false] rfl rfl (any_of HT_.out (by kernel_rfl)) (fun _ _ _ h => h) (Or.inl ⟨by rfl, ?_⟩) ?_ ?_
                rotate_left
                · intro w'
                  go_simp
                  with_reducible rfl
                rotate_left
                · simp only [Act.put, List.setIfInBounds_toArray, List.set_cons_zero, List.set_cons_succ, i64_w, i32_w]
                  rfl
                refine take_ (i := 3) (N := some 20) (v := ?_) (a' := ?_) #[true, true, true, true, true, true, true, false, false, false] rfl rfl (take_ofW HT_.out HW_.out (by kernel_rfl)) (fun _ _ _ h => h) (Or.inl ⟨by rfl, ?_⟩) hHeld ?_ ?_
                rotate_left
                · rintro w' ⟨s0, s1, s2, s3, s4, s5, s6, s7, s8, s9, s10, s11, s12, s13, s14, s15, s16, s17, s18, s19, s20, s21, s22, s23, s24, s25, s26, s27, s28, s29⟩
                  go_simp
                  with_reducible rfl
                rotate_left
                · simp only [Act.put, List.setIfInBounds_toArray, List.set_cons_zero, List.set_cons_succ, i64_w, i32_w]
                  rfl
                refine take_ (i := 7) (N := some 24) (v := ?_) (a' := ?_) #[true, true, true, true, true, true, true, true, false, false] rfl rfl (take_ofW HT_.out HW_.out (by kernel_rfl)) (fun _ _ _ h => h) (Or.inl ⟨by rfl, ?_⟩) hHeld ?_ ?_
                rotate_left
                · rintro w' ⟨s0, s1, s2, s3, s4, s5, s6, s7, s8, s9, s10, s11, s12, s13, s14, s15, s16, s17, s18, s19, s20, s21, s22, s23, s24, s25, s26, s27, s28, s29⟩
                  go_simp
                  with_reducible rfl
                rotate_left
                · simp only [Act.put, List.setIfInBounds_toArray, List.set_cons_zero, List.set_cons_succ, i64_w, i32_w]
                  rfl
                refine one_ (i := 8) (N := some 25) #[true, true, true, true, true, true, true, true, true, false] rfl rfl (one_of HT_.out (by kernel_rfl)) (by decide) (fun K hK => ?_)
                refine goes_ Try.func22 (by kernel_rfl) rfl #[.agg #[.int .i64 ((rd_T41 l0 x5_1).f0.f0), .int .i64 ((rd_T41 l0 x5_1).f0.f1), .int .i64 ((rd_T41 l0 x5_1).f0.f2), .int .i64 ((rd_T41 l0 x5_1).f0.f3), .int .i64 ((rd_T41 l0 x5_1).f0.f4), .int .i64 ((rd_T41 l0 x5_1).f0.f5), .int .i64 ((rd_T41 l0 x5_1).f0.f6), .int .i64 ((rd_T41 l0 x5_1).f0.f7), .int .i64 ((rd_T41 l0 x5_1).f0.f8), .int .i64 ((rd_T41 l0 x5_1).f0.f9), .int .i64 ((rd_T41 l0 x5_1).f0.f10), .int .i64 ((rd_T41 l0 x5_1).f0.f11), .slice A251_12 ((rd_T41 l0 x5_1).f1).length c251_12, .slice A251_13 ((rd_T41 l0 x5_1).f2).length c251_13, .bool ((rd_T41 l0 x5_1).f3)], .agg #[.int .i64 ((rd_T41 l1 x5_1).f0.f0), .int .i64 ((rd_T41 l1 x5_1).f0.f1), .int .i64 ((rd_T41 l1 x5_1).f0.f2), .int .i64 ((rd_T41 l1 x5_1).f0.f3), .int .i64 ((rd_T41 l1 x5_1).f0.f4), .int .i64 ((rd_T41 l1 x5_1).f0.f5), .int .i64 ((rd_T41 l1 x5_1).f0.f6), .int .i64 ((rd_T41 l1 x5_1).f0.f7), .int .i64 ((rd_T41 l1 x5_1).f0.f8), .int .i64 ((rd_T41 l1 x5_1).f0.f9), .int .i64 ((rd_T41 l1 x5_1).f0.f10), .int .i64 ((rd_T41 l1 x5_1).f0.f11), .slice A252_12 ((rd_T41 l1 x5_1).f1).length c252_12, .slice A252_13 ((rd_T41 l1 x5_1).f2).length c252_13, .bool ((rd_T41 l1 x5_1).f3)]] (by rfl) rfl rfl (by (try simp only [List.map_toArray, List.map_cons, List.map_nil]); first | done | rfl | (simp only [List.length_drop, List.length_take]; rfl)) ?_
                with_reducible refine (papermillref51_SameOne.calls k1 ((rd_T41 l0 x5_1).f0.f0) ((rd_T41 l0 x5_1).f0.f1) ((rd_T41 l0 x5_1).f0.f2) ((rd_T41 l0 x5_1).f0.f3) ((rd_T41 l0 x5_1).f0.f4) ((rd_T41 l0 x5_1).f0.f5) ((rd_T41 l0 x5_1).f0.f6) ((rd_T41 l0 x5_1).f0.f7) ((rd_T41 l0 x5_1).f0.f8) ((rd_T41 l0 x5_1).f0.f9) ((rd_T41 l0 x5_1).f0.f10) ((rd_T41 l0 x5_1).f0.f11) _ _ ((rd_T41 l0 x5_1).f1) _ _ ((rd_T41 l0 x5_1).f2) ((rd_T41 l0 x5_1).f3) ((rd_T41 l1 x5_1).f0.f0) ((rd_T41 l1 x5_1).f0.f1) ((rd_T41 l1 x5_1).f0.f2) ((rd_T41 l1 x5_1).f0.f3) ((rd_T41 l1 x5_1).f0.f4) ((rd_T41 l1 x5_1).f0.f5) ((rd_T41 l1 x5_1).f0.f6) ((rd_T41 l1 x5_1).f0.f7) ((rd_T41 l1 x5_1).f0.f8) ((rd_T41 l1 x5_1).f0.f9) ((rd_T41 l1 x5_1).f0.f10) ((rd_T41 l1 x5_1).f0.f11) _ _ ((rd_T41 l1 x5_1).f1) _ _ ((rd_T41 l1 x5_1).f2) ((rd_T41 l1 x5_1).f3) true _ ?side1 ?side2 ?side3 ?side4 ?side5 ?side6 ?side7 ?side8 A7.out).mono ?_
                (case side1 => repeat (first | exact (Kd.C_below HR251_12.out HB.out) | (with_reducible refine Kd.C_alloc ?_ _) | (with_reducible refine Kd.C_drewN ?_ _) | (with_reducible refine Kd.C_drew ?_)))
                (case side2 => exact HC251_12.out)
                (case side3 => repeat (first | exact (Kd.C_below HR251_13.out HB.out) | (with_reducible refine Kd.C_alloc ?_ _) | (with_reducible refine Kd.C_drewN ?_ _) | (with_reducible refine Kd.C_drew ?_)))
                (case side4 => exact HC251_13.out)
                (case side5 => repeat (first | exact (Kd.C_below HR252_12.out HB.out) | (with_reducible refine Kd.C_alloc ?_ _) | (with_reducible refine Kd.C_drewN ?_ _) | (with_reducible refine Kd.C_drew ?_)))
                (case side6 => exact HC252_12.out)
                (case side7 => repeat (first | exact (Kd.C_below HR252_13.out HB.out) | (with_reducible refine Kd.C_alloc ?_ _) | (with_reducible refine Kd.C_drewN ?_ _) | (with_reducible refine Kd.C_drew ?_)))
                (case side8 => exact HC252_13.out)
                rintro e w10 ⟨rfl, hb⟩
                refine ⟨_, rfl, ?_⟩
                have n0_ := Aside0.mk (below_step (by repeat (first | (with_reducible first | exact HB.out | apply below_alloc | apply pw_below_drewN | apply below_drew1) | exact HB.out)) hb)
                clear HB
                have HB := n0_
                clear n0_
                (try clear hb)
                (try clear hb2)
                (try clear hk)
                (try clear hi)
                refine hK.out _ _ ⟨((HB.out.cell (World.block_lt_of_cell? w _ hw251_0)).trans hw251_0), ((HB.out.cell (World.block_lt_of_cell? w _ hw251_1)).trans hw251_1), ((HB.out.cell (World.block_lt_of_cell? w _ hw251_2)).trans hw251_2), ((HB.out.cell (World.block_lt_of_cell? w _ hw251_3)).trans hw251_3), ((HB.out.cell (World.block_lt_of_cell? w _ hw251_4)).trans hw251_4), ((HB.out.cell (World.block_lt_of_cell? w _ hw251_5)).trans hw251_5), ((HB.out.cell (World.block_lt_of_cell? w _ hw251_6)).trans hw251_6), ((HB.out.cell (World.block_lt_of_cell? w _ hw251_7)).trans hw251_7), ((HB.out.cell (World.block_lt_of_cell? w _ hw251_8)).trans hw251_8), ((HB.out.cell (World.block_lt_of_cell? w _ hw251_9)).trans hw251_9), ((HB.out.cell (World.block_lt_of_cell? w _ hw251_10)).trans hw251_10), ((HB.out.cell (World.block_lt_of_cell? w _ hw251_11)).trans hw251_11), ((HB.out.cell (World.block_lt_of_cell? w _ hw251_12)).trans hw251_12), ((HB.out.cell (World.block_lt_of_cell? w _ hw251_13)).trans hw251_13), ((HB.out.cell (World.block_lt_of_cell? w _ hw251_14)).trans hw251_14), ((HB.out.cell (World.block_lt_of_cell? w _ hw252_0)).trans hw252_0), ((HB.out.cell (World.block_lt_of_cell? w _ hw252_1)).trans hw252_1), ((HB.out.cell (World.block_lt_of_cell? w _ hw252_2)).trans hw252_2), ((HB.out.cell (World.block_lt_of_cell? w _ hw252_3)).trans hw252_3), ((HB.out.cell (World.block_lt_of_cell? w _ hw252_4)).trans hw252_4), ((HB.out.cell (World.block_lt_of_cell? w _ hw252_5)).trans hw252_5), ((HB.out.cell (World.block_lt_of_cell? w _ hw252_6)).trans hw252_6), ((HB.out.cell (World.block_lt_of_cell? w _ hw252_7)).trans hw252_7), ((HB.out.cell (World.block_lt_of_cell? w _ hw252_8)).trans hw252_8), ((HB.out.cell (World.block_lt_of_cell? w _ hw252_9)).trans hw252_9), ((HB.out.cell (World.block_lt_of_cell? w _ hw252_10)).trans hw252_10), ((HB.out.cell (World.block_lt_of_cell? w _ hw252_11)).trans hw252_11), ((HB.out.cell (World.block_lt_of_cell? w _ hw252_12)).trans hw252_12), ((HB.out.cell (World.block_lt_of_cell? w _ hw252_13)).trans hw252_13), ((HB.out.cell (World.block_lt_of_cell? w _ hw252_14)).trans hw252_14)⟩ (fun hHeld => ?_)
                clear hK K
                refine norm_ (a' := ?_) ?_ ?_
                rotate_left
                · show Act.put _ (some 25) _ = _
                  simp only [Act.put, List.setIfInBounds_toArray, List.set_cons_zero, List.set_cons_succ, i64_w, i32_w]
                  rfl
                refine pure_ (i := 9) (N := some 26) (v := ?_) (a' := ?_) #[true, true, true, true, true, true, true, true, true, true] rfl rfl (any_of HT_.out (by kernel_rfl)) (fun _ _ _ h => h) (Or.inl ⟨by rfl, ?_⟩) ?_ ?_
                rotate_left
                · intro w'
                  go_simp
                  with_reducible rfl
                rotate_left
                · simp only [Act.put, List.setIfInBounds_toArray, List.set_cons_zero, List.set_cons_succ, i64_w, i32_w]
                  rfl
                refine done_ (done_of HT_.out (by kernel_rfl)) ?_
                try go_wp2
                go_roundg k1
                case measure => have := HK1.out; omega
                case rel => exact ⟨(wrap64 (x5_1 + 1)), (by first | rfl | (simp; done) | (simp [*]; done)), H', ⟨by have := HK1.out; omega⟩, ⟨by repeat (first | (with_reducible first | exact HB.out | apply below_alloc | apply pw_below_drewN | apply below_drew1) | exact HB.out)⟩⟩
              · replace c8 := Bool.eq_false_iff.mpr c8
                subst c8
                have H1 : (some false) = some r := by rw [if_neg (show ¬ (false = true) by decide)] at H; exact H
                clear H
                have H := H1
                clear H1
                obtain rfl := Option.some.inj H
                try go_wp2
                have n0_ := Aside0.mk (below_drew1 HB.out)
                clear HB
                have HB := n0_
                clear n0_
                have p251 : 0 ≤ (x5_1 : Int) := of_decide_eq_true (by first | (with_reducible assumption) | assumption)
                have q251 : x5_1 < (l0.length : Int) := of_decide_eq_true (by first | (with_reducible assumption) | assumption)
                obtain ⟨ad251, A251_12, c251_12, A251_13, c251_13, e251, hx251_0, hx251_1, hx251_2, hx251_3, hx251_4, hx251_5, hx251_6, hx251_7, hx251_8, hx251_9, hx251_10, hx251_11, hx251_12, hx251_13, hx251_14, hl251_12, hi251_12, hl251_13, hi251_13⟩ := at_T41 HR0.out x5_1 p251 q251
                have hw251_14 := hx251_14
                have hw251_13 := hx251_13
                have hw251_12 := hx251_12
                have hw251_11 := hx251_11
                have hw251_10 := hx251_10
                have hw251_9 := hx251_9
                have hw251_8 := hx251_8
                have hw251_7 := hx251_7
                have hw251_6 := hx251_6
                have hw251_5 := hx251_5
                have hw251_4 := hx251_4
                have hw251_3 := hx251_3
                have hw251_2 := hx251_2
                have hw251_1 := hx251_1
                have hw251_0 := hx251_0
                cases e251
                replace hx251_0 := (HB.out.cell (World.block_lt_of_cell? w _ hx251_0)).trans hx251_0
                replace hx251_1 := (HB.out.cell (World.block_lt_of_cell? w _ hx251_1)).trans hx251_1
                replace hx251_2 := (HB.out.cell (World.block_lt_of_cell? w _ hx251_2)).trans hx251_2
                replace hx251_3 := (HB.out.cell (World.block_lt_of_cell? w _ hx251_3)).trans hx251_3
                replace hx251_4 := (HB.out.cell (World.block_lt_of_cell? w _ hx251_4)).trans hx251_4
                replace hx251_5 := (HB.out.cell (World.block_lt_of_cell? w _ hx251_5)).trans hx251_5
                replace hx251_6 := (HB.out.cell (World.block_lt_of_cell? w _ hx251_6)).trans hx251_6
                replace hx251_7 := (HB.out.cell (World.block_lt_of_cell? w _ hx251_7)).trans hx251_7
                replace hx251_8 := (HB.out.cell (World.block_lt_of_cell? w _ hx251_8)).trans hx251_8
                replace hx251_9 := (HB.out.cell (World.block_lt_of_cell? w _ hx251_9)).trans hx251_9
                replace hx251_10 := (HB.out.cell (World.block_lt_of_cell? w _ hx251_10)).trans hx251_10
                replace hx251_11 := (HB.out.cell (World.block_lt_of_cell? w _ hx251_11)).trans hx251_11
                replace hx251_12 := (HB.out.cell (World.block_lt_of_cell? w _ hx251_12)).trans hx251_12
                replace hx251_13 := (HB.out.cell (World.block_lt_of_cell? w _ hx251_13)).trans hx251_13
                replace hx251_14 := (HB.out.cell (World.block_lt_of_cell? w _ hx251_14)).trans hx251_14
                have HR251_12 := Aside0.mk hi251_12
                have HC251_12 := Aside0.mk hl251_12
                clear hi251_12 hl251_12
                have HR251_13 := Aside0.mk hi251_13
                have HC251_13 := Aside0.mk hl251_13
                clear hi251_13 hl251_13
                replace p251 := eq_true p251
                replace q251 := eq_true q251
                have p252 : 0 ≤ (x5_1 : Int) := of_decide_eq_true (by first | (with_reducible assumption) | assumption)
                have q252 : x5_1 < (l1.length : Int) := of_decide_eq_true (by first | (with_reducible assumption) | assumption)
                obtain ⟨ad252, A252_12, c252_12, A252_13, c252_13, e252, hx252_0, hx252_1, hx252_2, hx252_3, hx252_4, hx252_5, hx252_6, hx252_7, hx252_8, hx252_9, hx252_10, hx252_11, hx252_12, hx252_13, hx252_14, hl252_12, hi252_12, hl252_13, hi252_13⟩ := at_T41 HR1.out x5_1 p252 q252
                have hw252_14 := hx252_14
                have hw252_13 := hx252_13
                have hw252_12 := hx252_12
                have hw252_11 := hx252_11
                have hw252_10 := hx252_10
                have hw252_9 := hx252_9
                have hw252_8 := hx252_8
                have hw252_7 := hx252_7
                have hw252_6 := hx252_6
                have hw252_5 := hx252_5
                have hw252_4 := hx252_4
                have hw252_3 := hx252_3
                have hw252_2 := hx252_2
                have hw252_1 := hx252_1
                have hw252_0 := hx252_0
                cases e252
                replace hx252_0 := (HB.out.cell (World.block_lt_of_cell? w _ hx252_0)).trans hx252_0
                replace hx252_1 := (HB.out.cell (World.block_lt_of_cell? w _ hx252_1)).trans hx252_1
                replace hx252_2 := (HB.out.cell (World.block_lt_of_cell? w _ hx252_2)).trans hx252_2
                replace hx252_3 := (HB.out.cell (World.block_lt_of_cell? w _ hx252_3)).trans hx252_3
                replace hx252_4 := (HB.out.cell (World.block_lt_of_cell? w _ hx252_4)).trans hx252_4
                replace hx252_5 := (HB.out.cell (World.block_lt_of_cell? w _ hx252_5)).trans hx252_5
                replace hx252_6 := (HB.out.cell (World.block_lt_of_cell? w _ hx252_6)).trans hx252_6
                replace hx252_7 := (HB.out.cell (World.block_lt_of_cell? w _ hx252_7)).trans hx252_7
                replace hx252_8 := (HB.out.cell (World.block_lt_of_cell? w _ hx252_8)).trans hx252_8
                replace hx252_9 := (HB.out.cell (World.block_lt_of_cell? w _ hx252_9)).trans hx252_9
                replace hx252_10 := (HB.out.cell (World.block_lt_of_cell? w _ hx252_10)).trans hx252_10
                replace hx252_11 := (HB.out.cell (World.block_lt_of_cell? w _ hx252_11)).trans hx252_11
                replace hx252_12 := (HB.out.cell (World.block_lt_of_cell? w _ hx252_12)).trans hx252_12
                replace hx252_13 := (HB.out.cell (World.block_lt_of_cell? w _ hx252_13)).trans hx252_13
                replace hx252_14 := (HB.out.cell (World.block_lt_of_cell? w _ hx252_14)).trans hx252_14
                have HR252_12 := Aside0.mk hi252_12
                have HC252_12 := Aside0.mk hl252_12
                clear hi252_12 hl252_12
                have HR252_13 := Aside0.mk hi252_13
                have HC252_13 := Aside0.mk hl252_13
                clear hi252_13 hl252_13
                replace p252 := eq_true p252
                replace q252 := eq_true q252
                refine start_ (n := 10) (S := fun w' => w'.cell? (ad251.add ((x5_1).toNat * 15)) = some (.int .i64 ((rd_T41 l0 x5_1).f0.f0)) ∧ w'.cell? ⟨(ad251.add ((x5_1).toNat * 15)).block, (ad251.add ((x5_1).toNat * 15)).off + 1, none⟩ = some (.int .i64 ((rd_T41 l0 x5_1).f0.f1)) ∧ w'.cell? ⟨(ad251.add ((x5_1).toNat * 15)).block, (ad251.add ((x5_1).toNat * 15)).off + 2, none⟩ = some (.int .i64 ((rd_T41 l0 x5_1).f0.f2)) ∧ w'.cell? ⟨(ad251.add ((x5_1).toNat * 15)).block, (ad251.add ((x5_1).toNat * 15)).off + 3, none⟩ = some (.int .i64 ((rd_T41 l0 x5_1).f0.f3)) ∧ w'.cell? ⟨(ad251.add ((x5_1).toNat * 15)).block, (ad251.add ((x5_1).toNat * 15)).off + 4, none⟩ = some (.int .i64 ((rd_T41 l0 x5_1).f0.f4)) ∧ w'.cell? ⟨(ad251.add ((x5_1).toNat * 15)).block, (ad251.add ((x5_1).toNat * 15)).off + 5, none⟩ = some (.int .i64 ((rd_T41 l0 x5_1).f0.f5)) ∧ w'.cell? ⟨(ad251.add ((x5_1).toNat * 15)).block, (ad251.add ((x5_1).toNat * 15)).off + 6, none⟩ = some (.int .i64 ((rd_T41 l0 x5_1).f0.f6)) ∧ w'.cell? ⟨(ad251.add ((x5_1).toNat * 15)).block, (ad251.add ((x5_1).toNat * 15)).off + 7, none⟩ = some (.int .i64 ((rd_T41 l0 x5_1).f0.f7)) ∧ w'.cell? ⟨(ad251.add ((x5_1).toNat * 15)).block, (ad251.add ((x5_1).toNat * 15)).off + 8, none⟩ = some (.int .i64 ((rd_T41 l0 x5_1).f0.f8)) ∧ w'.cell? ⟨(ad251.add ((x5_1).toNat * 15)).block, (ad251.add ((x5_1).toNat * 15)).off + 9, none⟩ = some (.int .i64 ((rd_T41 l0 x5_1).f0.f9)) ∧ w'.cell? ⟨(ad251.add ((x5_1).toNat * 15)).block, (ad251.add ((x5_1).toNat * 15)).off + 10, none⟩ = some (.int .i64 ((rd_T41 l0 x5_1).f0.f10)) ∧ w'.cell? ⟨(ad251.add ((x5_1).toNat * 15)).block, (ad251.add ((x5_1).toNat * 15)).off + 11, none⟩ = some (.int .i64 ((rd_T41 l0 x5_1).f0.f11)) ∧ w'.cell? ⟨(ad251.add ((x5_1).toNat * 15)).block, (ad251.add ((x5_1).toNat * 15)).off + 12, none⟩ = some (.slice A251_12 ((rd_T41 l0 x5_1).f1).length c251_12) ∧ w'.cell? ⟨(ad251.add ((x5_1).toNat * 15)).block, (ad251.add ((x5_1).toNat * 15)).off + 13, none⟩ = some (.slice A251_13 ((rd_T41 l0 x5_1).f2).length c251_13) ∧ w'.cell? ⟨(ad251.add ((x5_1).toNat * 15)).block, (ad251.add ((x5_1).toNat * 15)).off + 14, none⟩ = some (.bool ((rd_T41 l0 x5_1).f3)) ∧ w'.cell? (ad252.add ((x5_1).toNat * 15)) = some (.int .i64 ((rd_T41 l1 x5_1).f0.f0)) ∧ w'.cell? ⟨(ad252.add ((x5_1).toNat * 15)).block, (ad252.add ((x5_1).toNat * 15)).off + 1, none⟩ = some (.int .i64 ((rd_T41 l1 x5_1).f0.f1)) ∧ w'.cell? ⟨(ad252.add ((x5_1).toNat * 15)).block, (ad252.add ((x5_1).toNat * 15)).off + 2, none⟩ = some (.int .i64 ((rd_T41 l1 x5_1).f0.f2)) ∧ w'.cell? ⟨(ad252.add ((x5_1).toNat * 15)).block, (ad252.add ((x5_1).toNat * 15)).off + 3, none⟩ = some (.int .i64 ((rd_T41 l1 x5_1).f0.f3)) ∧ w'.cell? ⟨(ad252.add ((x5_1).toNat * 15)).block, (ad252.add ((x5_1).toNat * 15)).off + 4, none⟩ = some (.int .i64 ((rd_T41 l1 x5_1).f0.f4)) ∧ w'.cell? ⟨(ad252.add ((x5_1).toNat * 15)).block, (ad252.add ((x5_1).toNat * 15)).off + 5, none⟩ = some (.int .i64 ((rd_T41 l1 x5_1).f0.f5)) ∧ w'.cell? ⟨(ad252.add ((x5_1).toNat * 15)).block, (ad252.add ((x5_1).toNat * 15)).off + 6, none⟩ = some (.int .i64 ((rd_T41 l1 x5_1).f0.f6)) ∧ w'.cell? ⟨(ad252.add ((x5_1).toNat * 15)).block, (ad252.add ((x5_1).toNat * 15)).off + 7, none⟩ = some (.int .i64 ((rd_T41 l1 x5_1).f0.f7)) ∧ w'.cell? ⟨(ad252.add ((x5_1).toNat * 15)).block, (ad252.add ((x5_1).toNat * 15)).off + 8, none⟩ = some (.int .i64 ((rd_T41 l1 x5_1).f0.f8)) ∧ w'.cell? ⟨(ad252.add ((x5_1).toNat * 15)).block, (ad252.add ((x5_1).toNat * 15)).off + 9, none⟩ = some (.int .i64 ((rd_T41 l1 x5_1).f0.f9)) ∧ w'.cell? ⟨(ad252.add ((x5_1).toNat * 15)).block, (ad252.add ((x5_1).toNat * 15)).off + 10, none⟩ = some (.int .i64 ((rd_T41 l1 x5_1).f0.f10)) ∧ w'.cell? ⟨(ad252.add ((x5_1).toNat * 15)).block, (ad252.add ((x5_1).toNat * 15)).off + 11, none⟩ = some (.int .i64 ((rd_T41 l1 x5_1).f0.f11)) ∧ w'.cell? ⟨(ad252.add ((x5_1).toNat * 15)).block, (ad252.add ((x5_1).toNat * 15)).off + 12, none⟩ = some (.slice A252_12 ((rd_T41 l1 x5_1).f1).length c252_12) ∧ w'.cell? ⟨(ad252.add ((x5_1).toNat * 15)).block, (ad252.add ((x5_1).toNat * 15)).off + 13, none⟩ = some (.slice A252_13 ((rd_T41 l1 x5_1).f2).length c252_13) ∧ w'.cell? ⟨(ad252.add ((x5_1).toNat * 15)).block, (ad252.add ((x5_1).toNat * 15)).off + 14, none⟩ = some (.bool ((rd_T41 l1 x5_1).f3))) (ds := []) #[false, false, false, false, false, false, false, false, false, false] (by kernel_rfl) rfl rfl ⟨((HB.out.cell (World.block_lt_of_cell? w _ hw251_0)).trans hw251_0), ((HB.out.cell (World.block_lt_of_cell? w _ hw251_1)).trans hw251_1), ((HB.out.cell (World.block_lt_of_cell? w _ hw251_2)).trans hw251_2), ((HB.out.cell (World.block_lt_of_cell? w _ hw251_3)).trans hw251_3), ((HB.out.cell (World.block_lt_of_cell? w _ hw251_4)).trans hw251_4), ((HB.out.cell (World.block_lt_of_cell? w _ hw251_5)).trans hw251_5), ((HB.out.cell (World.block_lt_of_cell? w _ hw251_6)).trans hw251_6), ((HB.out.cell (World.block_lt_of_cell? w _ hw251_7)).trans hw251_7), ((HB.out.cell (World.block_lt_of_cell? w _ hw251_8)).trans hw251_8), ((HB.out.cell (World.block_lt_of_cell? w _ hw251_9)).trans hw251_9), ((HB.out.cell (World.block_lt_of_cell? w _ hw251_10)).trans hw251_10), ((HB.out.cell (World.block_lt_of_cell? w _ hw251_11)).trans hw251_11), ((HB.out.cell (World.block_lt_of_cell? w _ hw251_12)).trans hw251_12), ((HB.out.cell (World.block_lt_of_cell? w _ hw251_13)).trans hw251_13), ((HB.out.cell (World.block_lt_of_cell? w _ hw251_14)).trans hw251_14), ((HB.out.cell (World.block_lt_of_cell? w _ hw252_0)).trans hw252_0), ((HB.out.cell (World.block_lt_of_cell? w _ hw252_1)).trans hw252_1), ((HB.out.cell (World.block_lt_of_cell? w _ hw252_2)).trans hw252_2), ((HB.out.cell (World.block_lt_of_cell? w _ hw252_3)).trans hw252_3), ((HB.out.cell (World.block_lt_of_cell? w _ hw252_4)).trans hw252_4), ((HB.out.cell (World.block_lt_of_cell? w _ hw252_5)).trans hw252_5), ((HB.out.cell (World.block_lt_of_cell? w _ hw252_6)).trans hw252_6), ((HB.out.cell (World.block_lt_of_cell? w _ hw252_7)).trans hw252_7), ((HB.out.cell (World.block_lt_of_cell? w _ hw252_8)).trans hw252_8), ((HB.out.cell (World.block_lt_of_cell? w _ hw252_9)).trans hw252_9), ((HB.out.cell (World.block_lt_of_cell? w _ hw252_10)).trans hw252_10), ((HB.out.cell (World.block_lt_of_cell? w _ hw252_11)).trans hw252_11), ((HB.out.cell (World.block_lt_of_cell? w _ hw252_12)).trans hw252_12), ((HB.out.cell (World.block_lt_of_cell? w _ hw252_13)).trans hw252_13), ((HB.out.cell (World.block_lt_of_cell? w _ hw252_14)).trans hw252_14)⟩ (fun hHeld => ?_); refine with_tabW papermillref51_Same.tab6 papermillref51_Same.bits6 (fun HT_ HW_ => ?_)
                generalize wr.drew = w11 at HB HR251_12 HR251_13 HR252_12 HR252_13 hx251_0 hx251_1 hx251_10 hx251_11 hx251_12 hx251_13 hx251_14 hx251_2 hx251_3 hx251_4 hx251_5 hx251_6 hx251_7 hx251_8 hx251_9 hx252_0 hx252_1 hx252_10 hx252_11 hx252_12 hx252_13 hx252_14 hx252_2 hx252_3 hx252_4 hx252_5 hx252_6 hx252_7 hx252_8 hx252_9 hHeld ⊢
                refine pure_ (i := 0) (N := some 17) (v := ?_) (a' := ?_) #[true, false, false, false, false, false, false, false, false, false] rfl rfl (any_of HT_.out (by kernel_rfl)) (fun _ _ _ h => h) (Or.inl ⟨by rfl, ?_⟩) ?_ ?_
                rotate_left
                · intro w'
                  go_simp
                  with_reducible rfl
                rotate_left
                · simp only [Act.put, List.setIfInBounds_toArray, List.set_cons_zero, List.set_cons_succ, i64_w, i32_w]
                  rfl
                refine pure_ (i := 1) (N := some 18) (v := ?_) (a' := ?_) #[true, true, false, false, false, false, false, false, false, false] rfl rfl (any_of HT_.out (by kernel_rfl)) (fun _ _ _ h => h) (Or.inl ⟨by rfl, ?_⟩) ?_ ?_
                rotate_left
                · intro w'
                  go_simp
                  with_reducible rfl
                rotate_left
                · simp only [Act.put, List.setIfInBounds_toArray, List.set_cons_zero, List.set_cons_succ, i64_w, i32_w]
                  rfl
                refine pure_ (i := 2) (N := some 19) (v := ?_) (a' := ?_) #[true, true, true, false, false, false, false, false, false, false] rfl rfl (any_of HT_.out (by kernel_rfl)) (fun _ _ _ h => h) (Or.inl ⟨by rfl, ?_⟩) ?_ ?_
                rotate_left
                · intro w'
                  go_simp
                  with_reducible rfl
                rotate_left
                · simp only [Act.put, List.setIfInBounds_toArray, List.set_cons_zero, List.set_cons_succ, i64_w, i32_w]
                  rfl
                refine pure_ (i := 4) (N := some 21) (v := ?_) (a' := ?_) #[true, true, true, false, true, false, false, false, false, false] rfl rfl (any_of HT_.out (by kernel_rfl)) (fun _ _ _ h => h) (Or.inl ⟨by rfl, ?_⟩) ?_ ?_
                rotate_left
                · intro w'
                  go_simp
                  with_reducible rfl
                rotate_left
                · simp only [Act.put, List.setIfInBounds_toArray, List.set_cons_zero, List.set_cons_succ, i64_w, i32_w]
                  rfl
                refine pure_ (i := 5) (N := some 22) (v := ?_) (a' := ?_) #[true, true, true, false, true, true, false, false, false, false] rfl rfl (any_of HT_.out (by kernel_rfl)) (fun _ _ _ h => h) (Or.inl ⟨by rfl, ?_⟩) ?_ ?_
                rotate_left
                · intro w'
                  go_simp
                  with_reducible rfl
                rotate_left
                · simp only [Act.put, List.setIfInBounds_toArray, List.set_cons_zero, List.set_cons_succ, i64_w, i32_w]
                  rfl
                refine pure_ (i := 6) (N := some 23) (v := ?_) (a' := ?_) #[true, true, true, false, true, true, true, false, false, false] rfl rfl (any_of HT_.out (by kernel_rfl)) (fun _ _ _ h => h) (Or.inl ⟨by rfl, ?_⟩) ?_ ?_
                rotate_left
                · intro w'
                  go_simp
                  with_reducible rfl
                rotate_left
                · simp only [Act.put, List.setIfInBounds_toArray, List.set_cons_zero, List.set_cons_succ, i64_w, i32_w]
                  rfl
                refine take_ (i := 3) (N := some 20) (v := ?_) (a' := ?_) #[true, true, true, true, true, true, true, false, false, false] rfl rfl (take_ofW HT_.out HW_.out (by kernel_rfl)) (fun _ _ _ h => h) (Or.inl ⟨by rfl, ?_⟩) hHeld ?_ ?_
                rotate_left
                · rintro w' ⟨s0, s1, s2, s3, s4, s5, s6, s7, s8, s9, s10, s11, s12, s13, s14, s15, s16, s17, s18, s19, s20, s21, s22, s23, s24, s25, s26, s27, s28, s29⟩
                  go_simp
                  with_reducible rfl
                rotate_left
                · simp only [Act.put, List.setIfInBounds_toArray, List.set_cons_zero, List.set_cons_succ, i64_w, i32_w]
                  rfl
                refine take_ (i := 7) (N := some 24) (v := ?_) (a' := ?_) #[true, true, true, true, true, true, true, true, false, false] rfl rfl (take_ofW HT_.out HW_.out (by kernel_rfl)) (fun _ _ _ h => h) (Or.inl ⟨by rfl, ?_⟩) hHeld ?_ ?_
                rotate_left
                · rintro w' ⟨s0, s1, s2, s3, s4, s5, s6, s7, s8, s9, s10, s11, s12, s13, s14, s15, s16, s17, s18, s19, s20, s21, s22, s23, s24, s25, s26, s27, s28, s29⟩
                  go_simp
                  with_reducible rfl
                rotate_left
                · simp only [Act.put, List.setIfInBounds_toArray, List.set_cons_zero, List.set_cons_succ, i64_w, i32_w]
                  rfl
                refine one_ (i := 8) (N := some 25) #[true, true, true, true, true, true, true, true, true, false] rfl rfl (one_of HT_.out (by kernel_rfl)) (by decide) (fun K hK => ?_)
                refine goes_ Try.func22 (by kernel_rfl) rfl #[.agg #[.int .i64 ((rd_T41 l0 x5_1).f0.f0), .int .i64 ((rd_T41 l0 x5_1).f0.f1), .int .i64 ((rd_T41 l0 x5_1).f0.f2), .int .i64 ((rd_T41 l0 x5_1).f0.f3), .int .i64 ((rd_T41 l0 x5_1).f0.f4), .int .i64 ((rd_T41 l0 x5_1).f0.f5), .int .i64 ((rd_T41 l0 x5_1).f0.f6), .int .i64 ((rd_T41 l0 x5_1).f0.f7), .int .i64 ((rd_T41 l0 x5_1).f0.f8), .int .i64 ((rd_T41 l0 x5_1).f0.f9), .int .i64 ((rd_T41 l0 x5_1).f0.f10), .int .i64 ((rd_T41 l0 x5_1).f0.f11), .slice A251_12 ((rd_T41 l0 x5_1).f1).length c251_12, .slice A251_13 ((rd_T41 l0 x5_1).f2).length c251_13, .bool ((rd_T41 l0 x5_1).f3)], .agg #[.int .i64 ((rd_T41 l1 x5_1).f0.f0), .int .i64 ((rd_T41 l1 x5_1).f0.f1), .int .i64 ((rd_T41 l1 x5_1).f0.f2), .int .i64 ((rd_T41 l1 x5_1).f0.f3), .int .i64 ((rd_T41 l1 x5_1).f0.f4), .int .i64 ((rd_T41 l1 x5_1).f0.f5), .int .i64 ((rd_T41 l1 x5_1).f0.f6), .int .i64 ((rd_T41 l1 x5_1).f0.f7), .int .i64 ((rd_T41 l1 x5_1).f0.f8), .int .i64 ((rd_T41 l1 x5_1).f0.f9), .int .i64 ((rd_T41 l1 x5_1).f0.f10), .int .i64 ((rd_T41 l1 x5_1).f0.f11), .slice A252_12 ((rd_T41 l1 x5_1).f1).length c252_12, .slice A252_13 ((rd_T41 l1 x5_1).f2).length c252_13, .bool ((rd_T41 l1 x5_1).f3)]] (by rfl) rfl rfl (by (try simp only [List.map_toArray, List.map_cons, List.map_nil]); first | done | rfl | (simp only [List.length_drop, List.length_take]; rfl)) ?_
                with_reducible refine (papermillref51_SameOne.calls k1 ((rd_T41 l0 x5_1).f0.f0) ((rd_T41 l0 x5_1).f0.f1) ((rd_T41 l0 x5_1).f0.f2) ((rd_T41 l0 x5_1).f0.f3) ((rd_T41 l0 x5_1).f0.f4) ((rd_T41 l0 x5_1).f0.f5) ((rd_T41 l0 x5_1).f0.f6) ((rd_T41 l0 x5_1).f0.f7) ((rd_T41 l0 x5_1).f0.f8) ((rd_T41 l0 x5_1).f0.f9) ((rd_T41 l0 x5_1).f0.f10) ((rd_T41 l0 x5_1).f0.f11) _ _ ((rd_T41 l0 x5_1).f1) _ _ ((rd_T41 l0 x5_1).f2) ((rd_T41 l0 x5_1).f3) ((rd_T41 l1 x5_1).f0.f0) ((rd_T41 l1 x5_1).f0.f1) ((rd_T41 l1 x5_1).f0.f2) ((rd_T41 l1 x5_1).f0.f3) ((rd_T41 l1 x5_1).f0.f4) ((rd_T41 l1 x5_1).f0.f5) ((rd_T41 l1 x5_1).f0.f6) ((rd_T41 l1 x5_1).f0.f7) ((rd_T41 l1 x5_1).f0.f8) ((rd_T41 l1 x5_1).f0.f9) ((rd_T41 l1 x5_1).f0.f10) ((rd_T41 l1 x5_1).f0.f11) _ _ ((rd_T41 l1 x5_1).f1) _ _ ((rd_T41 l1 x5_1).f2) ((rd_T41 l1 x5_1).f3) false _ ?side1 ?side2 ?side3 ?side4 ?side5 ?side6 ?side7 ?side8 A7.out).mono ?_
                (case side1 => repeat (first | exact (Kd.C_below HR251_12.out HB.out) | (with_reducible refine Kd.C_alloc ?_ _) | (with_reducible refine Kd.C_drewN ?_ _) | (with_reducible refine Kd.C_drew ?_)))
                (case side2 => exact HC251_12.out)
                (case side3 => repeat (first | exact (Kd.C_below HR251_13.out HB.out) | (with_reducible refine Kd.C_alloc ?_ _) | (with_reducible refine Kd.C_drewN ?_ _) | (with_reducible refine Kd.C_drew ?_)))
                (case side4 => exact HC251_13.out)
                (case side5 => repeat (first | exact (Kd.C_below HR252_12.out HB.out) | (with_reducible refine Kd.C_alloc ?_ _) | (with_reducible refine Kd.C_drewN ?_ _) | (with_reducible refine Kd.C_drew ?_)))
                (case side6 => exact HC252_12.out)
                (case side7 => repeat (first | exact (Kd.C_below HR252_13.out HB.out) | (with_reducible refine Kd.C_alloc ?_ _) | (with_reducible refine Kd.C_drewN ?_ _) | (with_reducible refine Kd.C_drew ?_)))
                (case side8 => exact HC252_13.out)
                rintro e w12 ⟨rfl, hb⟩
                refine ⟨_, rfl, ?_⟩
                have n0_ := Aside0.mk (below_step (by repeat (first | (with_reducible first | exact HB.out | apply below_alloc | apply pw_below_drewN | apply below_drew1) | exact HB.out)) hb)
                clear HB
                have HB := n0_
                clear n0_
                (try clear hb)
                (try clear hb2)
                (try clear hk)
                (try clear hi)
                refine hK.out _ _ ⟨((HB.out.cell (World.block_lt_of_cell? w _ hw251_0)).trans hw251_0), ((HB.out.cell (World.block_lt_of_cell? w _ hw251_1)).trans hw251_1), ((HB.out.cell (World.block_lt_of_cell? w _ hw251_2)).trans hw251_2), ((HB.out.cell (World.block_lt_of_cell? w _ hw251_3)).trans hw251_3), ((HB.out.cell (World.block_lt_of_cell? w _ hw251_4)).trans hw251_4), ((HB.out.cell (World.block_lt_of_cell? w _ hw251_5)).trans hw251_5), ((HB.out.cell (World.block_lt_of_cell? w _ hw251_6)).trans hw251_6), ((HB.out.cell (World.block_lt_of_cell? w _ hw251_7)).trans hw251_7), ((HB.out.cell (World.block_lt_of_cell? w _ hw251_8)).trans hw251_8), ((HB.out.cell (World.block_lt_of_cell? w _ hw251_9)).trans hw251_9), ((HB.out.cell (World.block_lt_of_cell? w _ hw251_10)).trans hw251_10), ((HB.out.cell (World.block_lt_of_cell? w _ hw251_11)).trans hw251_11), ((HB.out.cell (World.block_lt_of_cell? w _ hw251_12)).trans hw251_12), ((HB.out.cell (World.block_lt_of_cell? w _ hw251_13)).trans hw251_13), ((HB.out.cell (World.block_lt_of_cell? w _ hw251_14)).trans hw251_14), ((HB.out.cell (World.block_lt_of_cell? w _ hw252_0)).trans hw252_0), ((HB.out.cell (World.block_lt_of_cell? w _ hw252_1)).trans hw252_1), ((HB.out.cell (World.block_lt_of_cell? w _ hw252_2)).trans hw252_2), ((HB.out.cell (World.block_lt_of_cell? w _ hw252_3)).trans hw252_3), ((HB.out.cell (World.block_lt_of_cell? w _ hw252_4)).trans hw252_4), ((HB.out.cell (World.block_lt_of_cell? w _ hw252_5)).trans hw252_5), ((HB.out.cell (World.block_lt_of_cell? w _ hw252_6)).trans hw252_6), ((HB.out.cell (World.block_lt_of_cell? w _ hw252_7)).trans hw252_7), ((HB.out.cell (World.block_lt_of_cell? w _ hw252_8)).trans hw252_8), ((HB.out.cell (World.block_lt_of_cell? w _ hw252_9)).trans hw252_9), ((HB.out.cell (World.block_lt_of_cell? w _ hw252_10)).trans hw252_10), ((HB.out.cell (World.block_lt_of_cell? w _ hw252_11)).trans hw252_11), ((HB.out.cell (World.block_lt_of_cell? w _ hw252_12)).trans hw252_12), ((HB.out.cell (World.block_lt_of_cell? w _ hw252_13)).trans hw252_13), ((HB.out.cell (World.block_lt_of_cell? w _ hw252_14)).trans hw252_14)⟩ (fun hHeld => ?_)
                clear hK K
                refine norm_ (a' := ?_) ?_ ?_
                rotate_left
                · show Act.put _ (some 25) _ = _
                  simp only [Act.put, List.setIfInBounds_toArray, List.set_cons_zero, List.set_cons_succ, i64_w, i32_w]
                  rfl
                refine pure_ (i := 9) (N := some 26) (v := ?_) (a' := ?_) #[true, true, true, true, true, true, true, true, true, true] rfl rfl (any_of HT_.out (by kernel_rfl)) (fun _ _ _ h => h) (Or.inl ⟨by rfl, ?_⟩) ?_ ?_
                rotate_left
                · intro w'
                  go_simp
                  with_reducible rfl
                rotate_left
                · simp only [Act.put, List.setIfInBounds_toArray, List.set_cons_zero, List.set_cons_succ, i64_w, i32_w]
                  rfl
                refine done_ (done_of HT_.out (by kernel_rfl)) ?_
                try go_wp2
                go_ret
                exact ⟨by first | rfl | (simp [errW_none, errW_some] <;> rfl) | (simp [*, errW_none, errW_some] <;> rfl), by repeat (first | (with_reducible first | exact HB.out | apply below_alloc | apply pw_below_drewN | apply below_drew1) | exact HB.out)⟩
            · rw [if_neg c6] at H
              exact absurd H (by simp)
          · rw [if_neg c5] at H
            exact absurd H (by simp)
        · rw [if_neg c4] at H
          have c4b0 : decide (x5_1 < (l0.length : Int)) = false := decide_eq_false c4
          clear c4
          obtain rfl := Option.some.inj H
          go_wp2
          go_ret
          exact ⟨by first | rfl | (simp [errW_none, errW_some] <;> rfl) | (simp [*, errW_none, errW_some] <;> rfl), by repeat (first | (with_reducible first | exact HB.out | apply below_alloc | apply pw_below_drewN | apply below_drew1) | exact HB.out)⟩
  · rw [if_neg c3] at H
    have c3b0 : ((l0.length : Int) == (l1.length : Int)) = false := beq_eq_false_iff_ne.mpr c3
    have c3b1 : ((l0.length : Int) != (l1.length : Int)) = true := bne_iff_ne.mpr c3
    have c3b2 : (l0.length == l1.length) = false := by first | simpa using c3 | (simp at c3 ⊢; omega)
    obtain rfl := Option.some.inj H
    go_enter Try.func26, Try.ntmps26
    go_wp2
    go_ret
    exact ⟨by first | rfl | (simp [errW_none, errW_some] <;> rfl) | (simp [*, errW_none, errW_some] <;> rfl), by repeat (first | (with_reducible first | exact HB.out | apply below_alloc | apply pw_below_drewN | apply below_drew1) | exact HB.out)⟩
theorem getD_lt {α : Type} {l : List α} {i : Nat} {z : α} (h : i < l.length) : l.getD i z = l[i] := by
  rw [List.getD_eq_getElem?_getD, List.getElem?_eq_getElem h]
  rfl
theorem ints_l0 (l0 l1 : List Int) (hl : l0.length = l1.length) (hb : l0.length ≤ 4611686018427387904) : ∀ (m k i : Nat), i + m = l0.length → m < k → papermillref51_Ints.l0 k l0 l1 (i : Int) = some (decide (l0.drop i = l1.drop i))
  | m, 0, i, _, h => absurd h (Nat.not_lt_zero _)
  | 0, k + 1, i, h, _ => by
    unfold papermillref51_Ints.l0
    rw [if_neg (by omega), List.drop_eq_nil_of_le (by omega), List.drop_eq_nil_of_le (by omega)]
    rfl
  | m + 1, k + 1, i, h, hk => by
    unfold papermillref51_Ints.l0
    have h0 : i < l0.length := by omega
    have h1 : i < l1.length := by omega
    rw [if_pos (by omega), if_pos (by omega), if_pos (by omega)]
    have hd0 := List.drop_eq_getElem_cons h0
    have hd1 := List.drop_eq_getElem_cons h1
    have r0 : rd l0 (i : Int) = l0[i] := by unfold rd; rw [Int.toNat_natCast, getD_lt h0]
    have r1 : rd l1 (i : Int) = l1[i] := by unfold rd; rw [Int.toNat_natCast, getD_lt h1]
    rw [r0, r1]
    by_cases e : l0[i] = l1[i]
    · rw [if_pos e, show wrap64 ((i : Int) + 1) = ((i + 1 : Nat) : Int) by unfold wrap64; omega, ints_l0 l0 l1 hl hb m k (i + 1) (by omega) (by omega), hd0, hd1]
      exact congrArg some (decide_eq_decide.2 ⟨fun h => by rw [e, h], fun h => (List.cons.inj h).2⟩)
    · rw [if_neg e, hd0, hd1, decide_eq_false (fun h => e (List.cons.inj h).1)]
theorem ints_f (l0 l1 : List Int) (hb : l0.length ≤ 4611686018427387904) (k : Nat) (hk : l0.length < k) : papermillref51_Ints.f k l0 l1 = some (decide (l0 = l1)) := by
  unfold papermillref51_Ints.f
  by_cases hl : l0.length = l1.length
  · rw [if_pos (by omega)]
    have := ints_l0 l0 l1 hl hb l0.length k 0 (by omega) hk
    exact this
  · rw [if_neg (by omega), decide_eq_false (fun e => hl (by rw [e]))]
def eq23 (a b : S23) : Bool := a.f0 == b.f0 && (a.f1 == b.f1 && (a.f2 == b.f2 && (a.f3 == b.f3 && (a.f4 == b.f4 && (a.f5 == b.f5 && (a.f6 == b.f6 && (a.f7 == b.f7 && (a.f8 == b.f8 && (a.f9 == b.f9 && (a.f10 == b.f10 && (a.f11 == b.f11)))))))))))
theorem eq23_iff {a b : S23} : eq23 a b = true ↔ a = b := by
  obtain ⟨a0, a1, a2, a3, a4, a5, a6, a7, a8, a9, a10, a11⟩ := a
  obtain ⟨b0, b1, b2, b3, b4, b5, b6, b7, b8, b9, b10, b11⟩ := b
  unfold eq23
  simp only [Bool.and_eq_true, beq_iff_eq, S23.mk.injEq]
def eq41 (a b : S41) : Bool := eq23 a.f0 b.f0 && (decide (a.f1 = b.f1) && (decide (a.f2 = b.f2) && (a.f3 == b.f3)))
theorem eq41_iff {a b : S41} : eq41 a b = true ↔ a = b := by
  obtain ⟨a0, a1, a2, a3⟩ := a
  obtain ⟨b0, b1, b2, b3⟩ := b
  unfold eq41
  simp only [Bool.and_eq_true, eq23_iff, decide_eq_true_eq, beq_iff_eq, S41.mk.injEq]
theorem eq41_refl (a : S41) : eq41 a a = true := eq41_iff.2 rfl
theorem sameOne_f (a b : S41) (h1 : a.f1.length ≤ 4611686018427387904) (h2 : a.f2.length ≤ 4611686018427387904) (k : Nat) (k1 : a.f1.length < k) (k2 : a.f2.length < k) :
    papermillref51_SameOne.f k a.f0.f0 a.f0.f1 a.f0.f2 a.f0.f3 a.f0.f4 a.f0.f5 a.f0.f6 a.f0.f7 a.f0.f8 a.f0.f9 a.f0.f10 a.f0.f11 a.f1 a.f2 a.f3 b.f0.f0 b.f0.f1 b.f0.f2 b.f0.f3 b.f0.f4 b.f0.f5 b.f0.f6 b.f0.f7 b.f0.f8 b.f0.f9 b.f0.f10 b.f0.f11 b.f1 b.f2 b.f3 = some (eq41 a b) := by
  unfold papermillref51_SameOne.f eq41
  rw [ints_f _ _ h1 k k1, ints_f _ _ h2 k k2]
  change (if eq23 a.f0 b.f0 = true then _ else _) = _
  cases eq23 a.f0 b.f0
  · rfl
  · rw [if_pos rfl]
    simp only [Option.bind_some]
    by_cases e1 : a.f1 = b.f1
    · by_cases e2 : a.f2 = b.f2
      · simp [e1, e2]
      · simp [e1, e2]
    · simp [e1]
def eqL41 : List S41 → List S41 → Bool
  | [], [] => true
  | a :: s, b :: t => eq41 a b && eqL41 s t
  | _, _ => false
theorem eqL41_iff : ∀ {s t : List S41}, eqL41 s t = true ↔ s = t
  | [], [] => by simp [eqL41]
  | a :: s, b :: t => by
    unfold eqL41
    rw [Bool.and_eq_true, eq41_iff, eqL41_iff, List.cons.injEq]
  | [], b :: t => by simp [eqL41]
  | a :: s, [] => by simp [eqL41]
theorem same_l0 (l0 l1 : List S41) (hl : l0.length = l1.length) (hb : l0.length ≤ 4611686018427387904) (K : Nat) (hx : ∀ x ∈ l0, x.f1.length ≤ 4611686018427387904 ∧ x.f2.length ≤ 4611686018427387904 ∧ x.f1.length < K ∧ x.f2.length < K) : ∀ (m k i : Nat), i + m = l0.length → m < k → papermillref51_Same.l0 (k + K) l0 l1 (i : Int) = some (eqL41 (l0.drop i) (l1.drop i))
  | m, 0, i, _, h => absurd h (Nat.not_lt_zero _)
  | 0, k + 1, i, h, _ => by
    rw [show k + 1 + K = (k + K) + 1 by omega]
    unfold papermillref51_Same.l0
    rw [if_neg (by omega), List.drop_eq_nil_of_le (by omega), List.drop_eq_nil_of_le (by omega)]
    rfl
  | m + 1, k + 1, i, h, hk => by
    rw [show k + 1 + K = (k + K) + 1 by omega]
    unfold papermillref51_Same.l0
    have h0 : i < l0.length := by omega
    have h1 : i < l1.length := by omega
    rw [if_pos (by omega), if_pos (by omega), if_pos (by omega)]
    have r0 : rd_T41 l0 (i : Int) = l0[i] := by unfold rd_T41; rw [Int.toNat_natCast, getD_lt h0]
    have r1 : rd_T41 l1 (i : Int) = l1[i] := by unfold rd_T41; rw [Int.toNat_natCast, getD_lt h1]
    obtain ⟨q1, q2, q3, q4⟩ := hx l0[i] (List.getElem_mem h0)
    rw [r0, r1, sameOne_f _ _ q1 q2 (k + K) (by omega) (by omega), List.drop_eq_getElem_cons h0, List.drop_eq_getElem_cons h1]
    simp only [Option.bind_some, eqL41]
    cases eq41 l0[i] l1[i]
    · rfl
    · rw [if_pos rfl, show wrap64 ((i : Int) + 1) = ((i + 1 : Nat) : Int) by unfold wrap64; omega, same_l0 l0 l1 hl hb K hx m k (i + 1) (by omega) (by omega)]
      rfl
theorem same_f (l0 l1 : List S41) (hb : l0.length ≤ 4611686018427387904) (K : Nat) (hx : ∀ x ∈ l0, x.f1.length ≤ 4611686018427387904 ∧ x.f2.length ≤ 4611686018427387904 ∧ x.f1.length < K ∧ x.f2.length < K) : papermillref51_Same.f (l0.length + 1 + K) l0 l1 = some (eqL41 l0 l1) := by
  unfold papermillref51_Same.f
  by_cases hl : l0.length = l1.length
  · rw [if_pos (by omega)]
    exact same_l0 l0 l1 hl hb K hx l0.length (l0.length + 1) 0 (by omega) (by omega)
  · rw [if_neg (by omega)]
    have : eqL41 l0 l1 = false := by
      cases h : eqL41 l0 l1
      · rfl
      · exact absurd (congrArg List.length (eqL41_iff.1 h)) hl
    rw [this]
def Few (x : S41) : Prop := x.f1.length < 1000 ∧ x.f2.length < 1000
theorem sameOne_calls (a b : S41) (ha : Few a) {A0 A1 A2 A3 : Option Addr} {c0 c1 c2 c3 : Nat} (w : World) (h0 : (Kd.int .i64).C w A0 a.f1.length a.f1) (l0 : a.f1.length ≤ c0) (h1 : (Kd.int .i64).C w A1 a.f2.length a.f2) (l1 : a.f2.length ≤ c1) (h2 : (Kd.int .i64).C w A2 b.f1.length b.f1) (l2 : b.f1.length ≤ c2) (h3 : (Kd.int .i64).C w A3 b.f2.length b.f2) (l3 : b.f2.length ≤ c3) :
    Calls Try.prog 22 #[.agg #[.int .i64 a.f0.f0, .int .i64 a.f0.f1, .int .i64 a.f0.f2, .int .i64 a.f0.f3, .int .i64 a.f0.f4, .int .i64 a.f0.f5, .int .i64 a.f0.f6, .int .i64 a.f0.f7, .int .i64 a.f0.f8, .int .i64 a.f0.f9, .int .i64 a.f0.f10, .int .i64 a.f0.f11, .slice A0 a.f1.length c0, .slice A1 a.f2.length c1, .bool a.f3], .agg #[.int .i64 b.f0.f0, .int .i64 b.f0.f1, .int .i64 b.f0.f2, .int .i64 b.f0.f3, .int .i64 b.f0.f4, .int .i64 b.f0.f5, .int .i64 b.f0.f6, .int .i64 b.f0.f7, .int .i64 b.f0.f8, .int .i64 b.f0.f9, .int .i64 b.f0.f10, .int .i64 b.f0.f11, .slice A2 b.f1.length c2, .slice A3 b.f2.length c3, .bool b.f3]] w fun e w' => e = .returned (.bool (eq41 a b)) ∧ Below w.heap.size w w' :=
  papermillref51_SameOne.calls 1001 _ _ _ _ _ _ _ _ _ _ _ _ A0 c0 _ A1 c1 _ _ _ _ _ _ _ _ _ _ _ _ _ _ A2 c2 _ A3 c3 _ _ (eq41 a b) w h0 l0 h1 l1 h2 l2 h3 l3 (sameOne_f a b (by have := ha.1; omega) (by have := ha.2; omega) 1001 (by have := ha.1; omega) (by have := ha.2; omega))
theorem same_calls (l0 l1 : List S41) (hf : ∀ x ∈ l0, Few x) {A0 A1 : Option Addr} {c0 c1 : Nat} (w : World) (h0 : Kd.C k41 w A0 l0.length l0) (k0 : l0.length ≤ c0) (h1 : Kd.C k41 w A1 l1.length l1) (k1 : l1.length ≤ c1) (hl : l0.length ≤ 1000) :
    Calls Try.prog 26 #[.slice A0 l0.length c0, .slice A1 l1.length c1] w fun e w' => e = .returned (.bool (eqL41 l0 l1)) ∧ Below w.heap.size w w' :=
  papermillref51_Same.calls (l0.length + 1 + 1000) A0 c0 l0 A1 c1 l1 (eqL41 l0 l1) w h0 k0 h1 k1 (same_f l0 l1 (by omega) 1000 (fun x hx => by have := hf x hx; unfold Few at this; omega))
theorem shipL_far {f : Int → Option (Int × Bool)} {r : Int} {p : Option (Int × Bool)} {l : List Int} (h : r ∉ l) : shipL (Plm.plUpd f r p) l = shipL f l := by
  unfold shipL
  refine List.filter_congr fun n hn => ?_
  unfold Plm.plUpd
  rw [if_neg (fun e : n = r => h (e ▸ hn))]
theorem stat_far {B : Bk} {T : Nat} (hi : B.Inv T) {i j : Nat} {z : S68} {r : Int} {s : Bool} (ha : B.asg r = some ((i : Int), s)) (hne : j ≠ i) (hz : B.es[j]? = some z) : r ∉ z.f1 := fun hm => by
  obtain ⟨s', hs⟩ := (hi.ent j z hz).fwd r hm
  rw [ha] at hs
  injection hs with hs
  injection hs with hs _
  exact hne (by omega)
def Bk.all (B : Bk) : List S41 := B.es.map B.stat
theorem Bk.Inv.few {B : Bk} {T : Nat} (h : B.Inv T) (hT : T ≤ 900) : ∀ x ∈ B.all, Few x := by
  intro x hx
  obtain ⟨y, hy, rfl⟩ := List.mem_map.1 hx
  obtain ⟨i, h1⟩ := List.getElem?_of_mem hy
  have q := (h.ent i y h1).len
  have : (shipL B.asg y.f1).length ≤ y.f1.length := List.length_filter_le _ _
  exact ⟨by show y.f1.length < 1000; omega, by show (shipL B.asg y.f1).length < 1000; omega⟩
theorem all_len (B : Bk) : B.all.length = B.es.length := by simp [Bk.all]
theorem Bk.Inv.allLen {B : Bk} {T : Nat} (h : B.Inv T) : B.all.length ≤ 64 := by rw [all_len]; exact h.es
theorem all_add (B : Bk) (o : S23) (n : Nat) : (⟨B.es ++ [⟨o, [], false⟩], n, B.asg⟩ : Bk).all = B.all ++ [⟨o, [], [], false⟩] := by
  simp [Bk.all, Bk.stat, shipL]
theorem Bk.Inv.findSome {B : Bk} {T : Nat} (h : B.Inv T) (roll : Int) : ∃ r, B.Find roll = some r := by
  unfold Bk.Find
  cases hf : B.asg roll with
  | none => exact ⟨_, rfl⟩
  | some p =>
    obtain ⟨k, s⟩ := p
    obtain ⟨i, x, rfl, hx, _⟩ := h.bwd _ _ _ hf
    have hlt := (List.getElem?_eq_some_iff.1 hx).1
    simp only
    rw [if_pos (by omega)]
    exact ⟨_, rfl⟩
open Mono
theorem rd41_mem {l : List S41} {k : Nat} (h : k < l.length) : rd_T41 l (k : Int) ∈ l := by
  unfold rd_T41
  rw [Int.toNat_natCast, List.getD_eq_getElem?_getD, List.getElem?_eq_getElem h]
  exact List.getElem_mem h
end Go.Proofs.Ythmhehfbepijgaa.Q
