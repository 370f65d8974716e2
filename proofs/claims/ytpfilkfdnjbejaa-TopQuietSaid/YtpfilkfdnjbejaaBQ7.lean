import Derived.Test.YtpfilkfdnjbejaaBQ0
import Derived.Test.YtpfilkfdnjbejaaBQ1
import Derived.Test.YtpfilkfdnjbejaaBQ2
import Derived.Test.YtpfilkfdnjbejaaBQ3
import Derived.Test.YtpfilkfdnjbejaaBQ4
import Derived.Test.YtpfilkfdnjbejaaBQ5
import Derived.Test.YtpfilkfdnjbejaaBQ6
namespace Go.Proofs.Ytpfilkfdnjbejaa.Q
open Go.RowKit Go.Proofs.YtpfilkfdnjbejaaW.PrintWords Go.Proofs.YtpfilkfdnjbejaaW.PrintLast Go.Proofs.YtpfilkfdnjbejaaW.PrintMore
attribute [local go_sem] max2_int min2_int max_two min_two max_three min_three max_four min_four
set_option linter.unusedVariables false
set_option linter.unusedSimpArgs false
def web_limited.f (a0 : Int) : Option (Int) := some (mx (-65536) (mn a0 65536))
set_option maxHeartbeats 8000000 in
set_option maxRecDepth 100000 in
theorem web_limited.calls (a0 : Int) (r : Int) (w : World) (h : web_limited.f a0 = some r) :
    Calls Try.prog 15 #[.int .i64 a0] w fun e w' => e = .returned (.int .i64 r) ∧ Below w.heap.size w w' := by
  have HB := Aside0.mk (Below.refl w.heap.size w)
  have H : (some (mx (-65536) (mn a0 65536))) = some r := h
  clear h
  obtain ⟨ji2, hji2⟩ : ∃ j_ : Int, (mn a0 65536) = j_ := ⟨_, rfl⟩
  replace H : (some (mx (-65536) (ji2))) = some r := by first | (rw [hji2] at H; exact H) | (simp only [hji2] at H ⊢; exact H)
  (try (have hji2h : ji2 ≤ 65536 := by (rw [← hji2]; unfold mn; (repeat' split) <;> omega)))
  (try (have hji2g : ji2 ≤ 64 := by omega))
  have hji2_ : (if 65536 < a0 then 65536 else a0) = ji2 := hji2
  obtain ⟨ji3, hji3⟩ : ∃ j_ : Int, (mx (-65536) (ji2)) = j_ := ⟨_, rfl⟩
  replace H : (some ji3) = some r := by first | (rw [hji3] at H; exact H) | (simp only [hji3] at H ⊢; exact H)
  have hji3_ : (if (-65536) < (ji2) then (ji2) else (-65536)) = ji3 := hji3
  obtain rfl := Option.some.inj H
  go_enter Try.func15, Try.ntmps15
  go_wp2
  go_ret
  exact ⟨by first | rfl | (simp [errW_none, errW_some] <;> rfl) | (simp only [← hji2, ← hji3]; first | rfl | (simp [errW_none, errW_some] <;> rfl)) | (simp [*, errW_none, errW_some] <;> rfl), by repeat (first | (with_reducible first | exact HB.out | apply below_alloc | apply pw_below_drewN | apply below_drew1) | exact HB.out)⟩
end Go.Proofs.Ytpfilkfdnjbejaa.Q
