/- The law PackPallets in plain Lean: for every two whole numbers of 64 bits, full pallets and what is left are all reams. -/
import Derived.Test.YtakoklgmhglpbaaStPackPallets
namespace Go.Proofs.Ytakoklgmhglpbaa.Pure
open Go.RowKit Go.Proofs.Ytakoklgmhglpbaa.Opn Go.Proofs.Ytakoklgmhglpbaa.Q Go.Proofs.Ytakoklgmhglpbaa.Gd Go.Proofs.YtakoklgmhglpbaaW.PrintWords
theorem PackPallets : PackPallets_Pure := by
  intro a b ha hb
  unfold papermilllaw53_PackPallets.f pack_Pallets.f
  by_cases h1 : a < 0
  · simp [h1, papermilllaw53_awake.f]
  by_cases h2 : a > 512
  · simp [h1, h2, papermilllaw53_awake.f]
  by_cases h3 : b < 1
  · simp [h1, h2, h3, papermilllaw53_awake.f]
  by_cases h4 : b > 512
  · simp [h1, h2, h3, h4, papermilllaw53_awake.f]
  have h5 : ¬ b = 0 := by omega
  have e1 : Int.tdiv a b = a / b := Int.tdiv_eq_ediv_of_nonneg (by omega)
  have e2 : Int.tmod a b = a % b := Int.tmod_eq_emod_of_nonneg (by omega)
  have q0 : 0 ≤ a / b := Int.ediv_nonneg (by omega) (by omega)
  have q1 : a / b ≤ a := Int.ediv_le_self _ (by omega)
  have r0 : 0 ≤ a % b := Int.emod_nonneg _ h5
  have r1 : a % b < b := Int.emod_lt_of_pos _ (by omega)
  have q2 : a / b * b + a % b = a := by rw [Int.mul_comm]; exact Int.mul_ediv_add_emod a b
  have q3 : 0 ≤ a / b * b := Int.mul_nonneg q0 (by omega)
  have w1 : wrap64 (a / b) = a / b := by unfold wrap64; omega
  have w2 : wrap64 (a / b * b) = a / b * b := by unfold wrap64; omega
  have w3 : wrap64 (a / b * b + a % b) = a := by unfold wrap64; omega
  simp only [if_neg h1, if_neg h2, if_neg h3, if_neg h4, if_neg h5, Option.bind_some, e1, e2, w1, w2, w3]
  rw [if_pos trivial, if_pos q0, if_pos (by omega), if_pos r0, if_pos r1, if_pos trivial]
  rfl
end Go.Proofs.Ytakoklgmhglpbaa.Pure
