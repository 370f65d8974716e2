import Derived.Test.YthmhehfbepijgaaBQ0
namespace Go.Proofs.Ythmhehfbepijgaa.Q
open Go.RowKit Go.Proofs.YthmhehfbepijgaaW.PrintWords Go.Proofs.YthmhehfbepijgaaW.PrintLast Go.Proofs.YthmhehfbepijgaaW.PrintMore
attribute [local go_sem] max2_int min2_int max_two min_two max_three min_three max_four min_four
set_option linter.unusedVariables false
set_option linter.unusedSimpArgs false
def chkO (o : S23) : Int := if o.f0 < 1 then 1 else if o.f0 > 1000000 then 1 else if o.f1 < 0 then 22 else if o.f1 ≥ 16 then 22 else if o.f2 < 1 then 20 else if o.f2 > 12000 then 20 else if o.f3 < 1 then 1 else if o.f3 ≥ 2500 then 1 else if o.f4 ≤ o.f3 then 1 else if o.f4 > 2500 then 1 else if o.f5 < 0 then 1 else if o.f5 > o.f4 - o.f3 then 1 else if o.f6 < 1 then 1 else if o.f6 > 1000 then 1 else if o.f7 < 0 then 1 else if o.f7 > 1000 then 1 else if o.f8 < 0 then 1 else if o.f8 > 1000 then 1 else if o.f9 < 0 then 1 else if o.f9 > 8 then 1 else if o.f10 < 0 then 1 else if o.f10 > 100 then 1 else if o.f11 < 0 then 1 else if o.f11 > 1000000000 then 1 else 0
set_option maxHeartbeats 16000000 in
theorem Check_calls (o : S23) (w : World) : Calls Try.prog 11 #[.agg #[.int .i64 o.f0, .int .i64 o.f1, .int .i64 o.f2, .int .i64 o.f3, .int .i64 o.f4, .int .i64 o.f5, .int .i64 o.f6, .int .i64 o.f7, .int .i64 o.f8, .int .i64 o.f9, .int .i64 o.f10, .int .i64 o.f11]] w fun e w' => e = .returned (.int .i64 (chkO o)) ∧ Below w.heap.size w w' := by
  have hu23 := Try.underlying23
  unfold chkO
  go_enter Try.func11, Try.ntmps11
  go_wp2
  all_goals (go_ret; exact ⟨by first | rfl | simp [*], below_alloc (Below.refl _ _) _⟩)
def order_Check.f (a0_0 a0_1 a0_2 a0_3 a0_4 a0_5 a0_6 a0_7 a0_8 a0_9 a0_10 a0_11 : Int) : Option Int := some (chkO ⟨a0_0, a0_1, a0_2, a0_3, a0_4, a0_5, a0_6, a0_7, a0_8, a0_9, a0_10, a0_11⟩)
theorem order_Check.calls (a0_0 a0_1 a0_2 a0_3 a0_4 a0_5 a0_6 a0_7 a0_8 a0_9 a0_10 a0_11 : Int) (r : Int) (w : World) (h : order_Check.f a0_0 a0_1 a0_2 a0_3 a0_4 a0_5 a0_6 a0_7 a0_8 a0_9 a0_10 a0_11 = some r) : Calls Try.prog 11 #[.agg #[.int .i64 a0_0, .int .i64 a0_1, .int .i64 a0_2, .int .i64 a0_3, .int .i64 a0_4, .int .i64 a0_5, .int .i64 a0_6, .int .i64 a0_7, .int .i64 a0_8, .int .i64 a0_9, .int .i64 a0_10, .int .i64 a0_11]] w fun e w' => e = .returned (.int .i64 r) ∧ Below w.heap.size w w' := by
  obtain rfl := Option.some.inj h
  exact Check_calls ⟨a0_0, a0_1, a0_2, a0_3, a0_4, a0_5, a0_6, a0_7, a0_8, a0_9, a0_10, a0_11⟩ w
end Go.Proofs.Ythmhehfbepijgaa.Q
