import Derived.Test.YthmhehfbepijgaaBQ0
import Derived.Test.YthmhehfbepijgaaBR12
import Derived.Test.YthmhehfbepijgaaBQ5
import Derived.Test.YthmhehfbepijgaaBQ6
import Derived.Test.YthmhehfbepijgaaBQ7
import Derived.Test.YthmhehfbepijgaaBQ8
import Derived.Test.YthmhehfbepijgaaBQ9
import Derived.Test.YthmhehfbepijgaaBQ11
import Derived.Test.YthmhehfbepijgaaBQ12
import Derived.Test.YthmhehfbepijgaaBQ16
import Derived.Test.YthmhehfbepijgaaBT37
import Derived.Test.YthmhehfbepijgaaBT38
namespace Go.Proofs.Ythmhehfbepijgaa.Q
open Go.RowKit Go.Proofs.YthmhehfbepijgaaW.PrintWords Go.Proofs.YthmhehfbepijgaaW.PrintLast Go.Proofs.YthmhehfbepijgaaW.PrintMore
attribute [local go_sem] max2_int min2_int max_two min_two max_three min_three max_four min_four
set_option linter.unusedVariables false
set_option linter.unusedSimpArgs false
set_option maxHeartbeats 16000000 in
set_option maxHeartbeats 4000000 in
theorem RL.must {W0 w : World} {R : Nat → Prop} {pr : Nat} {B : Bk} {T : Nat} (h : RL W0 R pr w B.all) (hi : B.Inv T) (hT : T ≤ 900) (x : S35) :
    Calls Try.prog 17 #[.pointer (some ⟨pr, 0, none⟩), .agg #[.int .i64 x.f0, .int .i64 x.f1.f0, .int .i64 x.f1.f1, .int .i64 x.f1.f2, .int .i64 x.f1.f3, .int .i64 x.f1.f4, .int .i64 x.f1.f5, .int .i64 x.f1.f6, .int .i64 x.f1.f7, .int .i64 x.f1.f8, .int .i64 x.f1.f9, .int .i64 x.f1.f10, .int .i64 x.f1.f11, .int .i64 x.f2, .int .i64 x.f3]] w (RP W0 R pr w (B.do_ x).1.all (B.do_ x).2) := by
  have hu35 := Try.underlying35
  have hu23 := Try.underlying23
  have HB := Aside0.mk (h.below (below_alloc (Below.refl w.heap.size w) (.cells #[.int .i64 x.f0, .int .i64 x.f1.f0, .int .i64 x.f1.f1, .int .i64 x.f1.f2, .int .i64 x.f1.f3, .int .i64 x.f1.f4, .int .i64 x.f1.f5, .int .i64 x.f1.f6, .int .i64 x.f1.f7, .int .i64 x.f1.f8, .int .i64 x.f1.f9, .int .i64 x.f1.f10, .int .i64 x.f1.f11, .int .i64 x.f2, .int .i64 x.f3] 35)))
  have HI := Aside0.mk hi
  have HT := Aside0.mk hT
  clear h hi hT
  unfold Bk.do_
  by_cases c0 : x.f0 = 0
  · rw [if_pos c0]
    have k0 : (x.f0 == 0) = true := by rw [c0]; rfl
    clear c0
    go_enter Try.func17, Try.ntmps17
    go_wp2_with fail
    refine (RL.Add HB.out HI.out HT.out x.f1).mono ?_
    rintro e w' hp
    have he := hp.1
    subst he
    go_wp2
    go_ret
    exact RP.step (below_alloc (Below.refl _ _) _) hp
  rw [if_neg c0]
  have k0 : (x.f0 == 0) = false := by simpa using c0
  clear c0
  by_cases c1 : x.f0 = 1
  · rw [if_pos c1]
    have k1 : (x.f0 == 1) = true := by rw [c1]; rfl
    clear c1
    go_enter Try.func17, Try.ntmps17
    go_wp2_with fail
    refine (RL.Amend HB.out HI.out HT.out x.f2 x.f3).mono ?_
    rintro e w' hp
    have he := hp.1
    subst he
    go_wp2
    go_ret
    exact RP.step (below_alloc (Below.refl _ _) _) hp
  rw [if_neg c1]
  have k1 : (x.f0 == 1) = false := by simpa using c1
  clear c1
  by_cases c2 : x.f0 = 2
  · rw [if_pos c2]
    have k2 : (x.f0 == 2) = true := by rw [c2]; rfl
    clear c2
    go_enter Try.func17, Try.ntmps17
    go_wp2_with fail
    refine (RL.Assign HB.out HI.out HT.out x.f2 x.f3).mono ?_
    rintro e w' hp
    have he := hp.1
    subst he
    go_wp2
    go_ret
    exact RP.step (below_alloc (Below.refl _ _) _) hp
  rw [if_neg c2]
  have k2 : (x.f0 == 2) = false := by simpa using c2
  clear c2
  by_cases c3 : x.f0 = 3
  · rw [if_pos c3]
    have k3 : (x.f0 == 3) = true := by rw [c3]; rfl
    clear c3
    go_enter Try.func17, Try.ntmps17
    go_wp2_with fail
    refine (RL.Release HB.out HI.out HT.out x.f3).mono ?_
    rintro e w' hp
    have he := hp.1
    subst he
    go_wp2
    go_ret
    exact RP.step (below_alloc (Below.refl _ _) _) hp
  rw [if_neg c3]
  have k3 : (x.f0 == 3) = false := by simpa using c3
  clear c3
  by_cases c4 : x.f0 = 4
  · rw [if_pos c4]
    have k4 : (x.f0 == 4) = true := by rw [c4]; rfl
    clear c4
    go_enter Try.func17, Try.ntmps17
    go_wp2_with fail
    refine (RL.Ship HB.out HI.out HT.out x.f3).mono ?_
    rintro e w' hp
    have he := hp.1
    subst he
    go_wp2
    go_ret
    exact RP.step (below_alloc (Below.refl _ _) _) hp
  rw [if_neg c4]
  have k4 : (x.f0 == 4) = false := by simpa using c4
  clear c4
  go_enter Try.func17, Try.ntmps17
  go_wp2_with fail
  refine (RL.Close HB.out HI.out HT.out x.f2).mono ?_
  rintro e w' hp
  have he := hp.1
  subst he
  go_wp2
  go_ret
  exact RP.step (below_alloc (Below.refl _ _) _) hp
end Go.Proofs.Ythmhehfbepijgaa.Q
