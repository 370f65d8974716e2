/- Plain Lean functions of the Go functions, and proofs that the Go calls come to them; laid out by this session's program wip/tools/hp.py. -/
import Derived.Test.YthmhehfbepijgaaQ0
import Derived.Test.YthmhehfbepijgaaQ5
import Derived.Test.YthmhehfbepijgaaQ6
import Derived.Test.YthmhehfbepijgaaQ7
namespace Go.Proofs.Ythmhehfbepijgaa.Q
open Go.RowKit Go.Proofs.YthmhehfbepijgaaW.PrintWords Go.Proofs.YthmhehfbepijgaaW.PrintLast Go.Proofs.YthmhehfbepijgaaW.PrintMore
attribute [local go_sem] max2_int min2_int max_two min_two max_three min_three max_four min_four   -- for this text's walks alone
set_option linter.unusedVariables false
set_option linter.unusedSimpArgs false

-- NOT PRINTED: function 32 (order_Book_Copy)

-- NOT PRINTED: function 9 (papermilllaw51_OrderCopies)

/-! ### papermilllaw51_OrderNil: function 10, by hand -/
/-! ### The law OrderNil -/
theorem Copy_nil (w : World) : Calls Try.prog 32 #[.pointer none] w fun e w' => e = .returned (.pointer none) ∧ Below w.heap.size w w' := by
  go_enter Try.func32, Try.ntmps32
  go_wp2
  go_ret
  exact ⟨rfl, Below.refl _ _⟩
theorem same_zero (w : World) : Calls Try.prog 22 #[.agg #[.int .i64 0, .int .i64 0, .int .i64 0, .int .i64 0, .int .i64 0, .int .i64 0, .int .i64 0, .int .i64 0, .int .i64 0, .int .i64 0, .int .i64 0, .int .i64 0, .slice none 0 0, .slice none 0 0, .bool false], .agg #[.int .i64 0, .int .i64 0, .int .i64 0, .int .i64 0, .int .i64 0, .int .i64 0, .int .i64 0, .int .i64 0, .int .i64 0, .int .i64 0, .int .i64 0, .int .i64 0, .slice none 0 0, .slice none 0 0, .bool false]] w fun e w' => e = .returned (.bool true) ∧ Below w.heap.size w w' :=
  papermillref51_SameOne.calls 5 0 0 0 0 0 0 0 0 0 0 0 0 none 0 [] none 0 [] false 0 0 0 0 0 0 0 0 0 0 0 0 none 0 [] none 0 [] false true w (Kd.C_nil _ _) (Nat.le_refl _) (Kd.C_nil _ _) (Nat.le_refl _) (Kd.C_nil _ _) (Nat.le_refl _) (Kd.C_nil _ _) (Nat.le_refl _) (by kernel_rfl)
set_option maxHeartbeats 4000000 in
theorem OrderNil_all (x : S35) (w : World) : Calls Try.prog 10 #[.agg #[.int .i64 x.f0, .int .i64 x.f1.f0, .int .i64 x.f1.f1, .int .i64 x.f1.f2, .int .i64 x.f1.f3, .int .i64 x.f1.f4, .int .i64 x.f1.f5, .int .i64 x.f1.f6, .int .i64 x.f1.f7, .int .i64 x.f1.f8, .int .i64 x.f1.f9, .int .i64 x.f1.f10, .int .i64 x.f1.f11, .int .i64 x.f2, .int .i64 x.f3]] w fun e w' => e = .returned (.bool true) ∧ Below w.heap.size w w' := by
  have hu35 := Try.underlying35
  have hu23 := Try.underlying23
  have hu41 := Try.underlying41
  go_enter Try.func10, Try.ntmps10
  go_wp2_with fail
  refine (Find_nil x.f3 _).mono ?_
  rintro e w1 ⟨rfl, hb⟩
  have HB := Aside0.mk (below_step (below_alloc (Below.refl w.heap.size w) _) hb)
  have HX : Aside0 (w1.heap[w.heap.size]? = some (.cells #[.int .i64 x.f0, .int .i64 x.f1.f0, .int .i64 x.f1.f1, .int .i64 x.f1.f2, .int .i64 x.f1.f3, .int .i64 x.f1.f4, .int .i64 x.f1.f5, .int .i64 x.f1.f6, .int .i64 x.f1.f7, .int .i64 x.f1.f8, .int .i64 x.f1.f9, .int .i64 x.f1.f10, .int .i64 x.f1.f11, .int .i64 x.f2, .int .i64 x.f3] 35 (0, 0))) := ⟨blk_below (blk_new w _) hb⟩
  clear hb
  have x13 : w1.cell? ⟨w.heap.size, 13, none⟩ = some (.int .i64 x.f2) := (blk_cell HX.out 13).trans rfl
  go_wp2_with fail
  refine (Status_nil x.f2 _).mono ?_
  rintro e w2 ⟨rfl, hb⟩
  replace HB := Aside0.mk (below_step HB.out hb)
  replace HX := Aside0.mk (blk_below HX.out hb)
  clear hb x13
  have x0 : ∀ o, (w2.alloc o).cell? ⟨w.heap.size, 0, none⟩ = some (.int .i64 x.f0) := fun o => (blk_cell (blk_below HX.out (below_alloc (Below.refl _ _) o)) 0).trans rfl
  have x1 : ∀ o, (w2.alloc o).cell? ⟨w.heap.size, 1, none⟩ = some (.int .i64 x.f1.f0) := fun o => (blk_cell (blk_below HX.out (below_alloc (Below.refl _ _) o)) 1).trans rfl
  have x2 : ∀ o, (w2.alloc o).cell? ⟨w.heap.size, 2, none⟩ = some (.int .i64 x.f1.f1) := fun o => (blk_cell (blk_below HX.out (below_alloc (Below.refl _ _) o)) 2).trans rfl
  have x3 : ∀ o, (w2.alloc o).cell? ⟨w.heap.size, 3, none⟩ = some (.int .i64 x.f1.f2) := fun o => (blk_cell (blk_below HX.out (below_alloc (Below.refl _ _) o)) 3).trans rfl
  have x4 : ∀ o, (w2.alloc o).cell? ⟨w.heap.size, 4, none⟩ = some (.int .i64 x.f1.f3) := fun o => (blk_cell (blk_below HX.out (below_alloc (Below.refl _ _) o)) 4).trans rfl
  have x5 : ∀ o, (w2.alloc o).cell? ⟨w.heap.size, 5, none⟩ = some (.int .i64 x.f1.f4) := fun o => (blk_cell (blk_below HX.out (below_alloc (Below.refl _ _) o)) 5).trans rfl
  have x6 : ∀ o, (w2.alloc o).cell? ⟨w.heap.size, 6, none⟩ = some (.int .i64 x.f1.f5) := fun o => (blk_cell (blk_below HX.out (below_alloc (Below.refl _ _) o)) 6).trans rfl
  have x7 : ∀ o, (w2.alloc o).cell? ⟨w.heap.size, 7, none⟩ = some (.int .i64 x.f1.f6) := fun o => (blk_cell (blk_below HX.out (below_alloc (Below.refl _ _) o)) 7).trans rfl
  have x8 : ∀ o, (w2.alloc o).cell? ⟨w.heap.size, 8, none⟩ = some (.int .i64 x.f1.f7) := fun o => (blk_cell (blk_below HX.out (below_alloc (Below.refl _ _) o)) 8).trans rfl
  have x9 : ∀ o, (w2.alloc o).cell? ⟨w.heap.size, 9, none⟩ = some (.int .i64 x.f1.f8) := fun o => (blk_cell (blk_below HX.out (below_alloc (Below.refl _ _) o)) 9).trans rfl
  have x10 : ∀ o, (w2.alloc o).cell? ⟨w.heap.size, 10, none⟩ = some (.int .i64 x.f1.f9) := fun o => (blk_cell (blk_below HX.out (below_alloc (Below.refl _ _) o)) 10).trans rfl
  have x11 : ∀ o, (w2.alloc o).cell? ⟨w.heap.size, 11, none⟩ = some (.int .i64 x.f1.f10) := fun o => (blk_cell (blk_below HX.out (below_alloc (Below.refl _ _) o)) 11).trans rfl
  have x12 : ∀ o, (w2.alloc o).cell? ⟨w.heap.size, 12, none⟩ = some (.int .i64 x.f1.f11) := fun o => (blk_cell (blk_below HX.out (below_alloc (Below.refl _ _) o)) 12).trans rfl
  have x13 : ∀ o, (w2.alloc o).cell? ⟨w.heap.size, 13, none⟩ = some (.int .i64 x.f2) := fun o => (blk_cell (blk_below HX.out (below_alloc (Below.refl _ _) o)) 13).trans rfl
  have x14 : ∀ o, (w2.alloc o).cell? ⟨w.heap.size, 14, none⟩ = some (.int .i64 x.f3) := fun o => (blk_cell (blk_below HX.out (below_alloc (Below.refl _ _) o)) 14).trans rfl
  go_wp2_with fail
  refine (do_nil x _).mono ?_
  rintro e w3 ⟨rfl, hb⟩
  replace HB := Aside0.mk (below_step (below_step HB.out (below_alloc (Below.refl _ _) _)) hb)
  have HS : Aside0 (w3.heap[w2.heap.size]? = some (.cells #[.int .i64 0, .int .i64 0, .int .i64 0, .int .i64 0, .int .i64 0, .int .i64 0, .int .i64 0, .int .i64 0, .int .i64 0, .int .i64 0, .int .i64 0, .int .i64 0, .slice none 0 0, .slice none 0 0, .bool false] 41 (0, 0))) := ⟨blk_below (blk_new w2 _) hb⟩
  clear hb HX x0 x1 x2 x3 x4 x5 x6 x7 x8 x9 x10 x11 x12 x13 x14
  have s0 : w3.cell? ⟨w2.heap.size, 0, none⟩ = some (.int .i64 0) := (blk_cell HS.out 0).trans rfl
  have s1 : w3.cell? ⟨w2.heap.size, 1, none⟩ = some (.int .i64 0) := (blk_cell HS.out 1).trans rfl
  have s2 : w3.cell? ⟨w2.heap.size, 2, none⟩ = some (.int .i64 0) := (blk_cell HS.out 2).trans rfl
  have s3 : w3.cell? ⟨w2.heap.size, 3, none⟩ = some (.int .i64 0) := (blk_cell HS.out 3).trans rfl
  have s4 : w3.cell? ⟨w2.heap.size, 4, none⟩ = some (.int .i64 0) := (blk_cell HS.out 4).trans rfl
  have s5 : w3.cell? ⟨w2.heap.size, 5, none⟩ = some (.int .i64 0) := (blk_cell HS.out 5).trans rfl
  have s6 : w3.cell? ⟨w2.heap.size, 6, none⟩ = some (.int .i64 0) := (blk_cell HS.out 6).trans rfl
  have s7 : w3.cell? ⟨w2.heap.size, 7, none⟩ = some (.int .i64 0) := (blk_cell HS.out 7).trans rfl
  have s8 : w3.cell? ⟨w2.heap.size, 8, none⟩ = some (.int .i64 0) := (blk_cell HS.out 8).trans rfl
  have s9 : w3.cell? ⟨w2.heap.size, 9, none⟩ = some (.int .i64 0) := (blk_cell HS.out 9).trans rfl
  have s10 : w3.cell? ⟨w2.heap.size, 10, none⟩ = some (.int .i64 0) := (blk_cell HS.out 10).trans rfl
  have s11 : w3.cell? ⟨w2.heap.size, 11, none⟩ = some (.int .i64 0) := (blk_cell HS.out 11).trans rfl
  have s12 : w3.cell? ⟨w2.heap.size, 12, none⟩ = some (.slice none 0 0) := (blk_cell HS.out 12).trans rfl
  have s13 : w3.cell? ⟨w2.heap.size, 13, none⟩ = some (.slice none 0 0) := (blk_cell HS.out 13).trans rfl
  have s14 : w3.cell? ⟨w2.heap.size, 14, none⟩ = some (.bool false) := (blk_cell HS.out 14).trans rfl
  go_wp2_with fail
  refine (same_zero _).mono ?_
  rintro e w4 ⟨rfl, hb⟩
  replace HB := Aside0.mk (below_step HB.out hb)
  clear hb HS s0 s1 s2 s3 s4 s5 s6 s7 s8 s9 s10 s11 s12 s13 s14
  go_wp2_with fail
  refine (All_nil _).mono ?_
  rintro e w4 ⟨rfl, hb⟩
  replace HB := Aside0.mk (below_step HB.out hb)
  clear hb
  go_wp2_with fail
  refine (Open_nil _).mono ?_
  rintro e w4 ⟨rfl, hb⟩
  replace HB := Aside0.mk (below_step HB.out hb)
  clear hb
  go_wp2_with fail
  refine (Copy_nil _).mono ?_
  rintro e w4 ⟨rfl, hb⟩
  replace HB := Aside0.mk (below_step HB.out hb)
  clear hb
  go_wp2_with fail
  refine (aw_all _).mono ?_
  rintro e w4 ⟨rfl, hb⟩
  replace HB := Aside0.mk (below_step HB.out hb)
  clear hb
  go_wp2
  go_ret
  exact ⟨rfl, HB.out⟩
def papermilllaw51_OrderNil.f (a0_0 a0_1 a0_2 a0_3 a0_4 a0_5 a0_6 a0_7 a0_8 a0_9 a0_10 a0_11 a0_12 a0_13 a0_14 : Int) : Option Bool := some true
theorem papermilllaw51_OrderNil.calls (a0_0 a0_1 a0_2 a0_3 a0_4 a0_5 a0_6 a0_7 a0_8 a0_9 a0_10 a0_11 a0_12 a0_13 a0_14 : Int) (r : Bool) (w : World) (h : papermilllaw51_OrderNil.f a0_0 a0_1 a0_2 a0_3 a0_4 a0_5 a0_6 a0_7 a0_8 a0_9 a0_10 a0_11 a0_12 a0_13 a0_14 = some r) : Calls Try.prog 10 #[.agg #[.int .i64 a0_0, .int .i64 a0_1, .int .i64 a0_2, .int .i64 a0_3, .int .i64 a0_4, .int .i64 a0_5, .int .i64 a0_6, .int .i64 a0_7, .int .i64 a0_8, .int .i64 a0_9, .int .i64 a0_10, .int .i64 a0_11, .int .i64 a0_12, .int .i64 a0_13, .int .i64 a0_14]] w fun e w' => e = .returned (.bool r) ∧ Below w.heap.size w w' := by
  obtain rfl := Option.some.inj (show some true = some r from h)
  exact OrderNil_all ⟨a0_0, ⟨a0_1, a0_2, a0_3, a0_4, a0_5, a0_6, a0_7, a0_8, a0_9, a0_10, a0_11, a0_12⟩, a0_13, a0_14⟩ w

end Go.Proofs.Ythmhehfbepijgaa.Q
