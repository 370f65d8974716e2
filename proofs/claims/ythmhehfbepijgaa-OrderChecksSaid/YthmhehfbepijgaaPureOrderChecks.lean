/- The program's Check and the reference's give every order the same error. -/
import Derived.Test.YthmhehfbepijgaaStOrderChecks
namespace Go.Proofs.Ythmhehfbepijgaa.Pure
open Go.Proofs.Ythmhehfbepijgaa.Opn Go.Proofs.Ythmhehfbepijgaa.Q Go.Proofs.Ythmhehfbepijgaa.Gd Go.Proofs.YthmhehfbepijgaaW.PrintWords Go.RowKit
set_option linter.unusedSimpArgs false
set_option maxHeartbeats 4000000 in
theorem refCheck (a0 a1 a2 a3 a4 a5 a6 a7 a8 a9 a10 a11 : Int) : papermillref51_Check.f 6 a0 a1 a2 a3 a4 a5 a6 a7 a8 a9 a10 a11 = some (chkO ⟨a0, a1, a2, a3, a4, a5, a6, a7, a8, a9, a10, a11⟩) := by
  unfold papermillref51_Check.f chkO
  dsimp only
  by_cases h0 : a0 < 1
  · simp [h0, papermillref51_Check.j0, papermillref51_Check.j1, papermillref51_Check.j2, papermillref51_Check.j3, papermillref51_Check.j4]
  by_cases h1 : a0 > 1000000
  · simp [h0, h1, papermillref51_Check.j0, papermillref51_Check.j1, papermillref51_Check.j2, papermillref51_Check.j3, papermillref51_Check.j4]
  by_cases h2 : a1 < 0
  · simp [h0, h1, h2, papermillref51_Check.j0, papermillref51_Check.j1, papermillref51_Check.j2, papermillref51_Check.j3, papermillref51_Check.j4]
  by_cases h3 : a1 ≥ 16
  · simp [h0, h1, h2, h3, papermillref51_Check.j0, papermillref51_Check.j1, papermillref51_Check.j2, papermillref51_Check.j3, papermillref51_Check.j4]
  by_cases h4 : a2 < 1
  · simp [h0, h1, h2, h3, h4, papermillref51_Check.j0, papermillref51_Check.j1, papermillref51_Check.j2, papermillref51_Check.j3, papermillref51_Check.j4]
  by_cases h5 : a2 > 12000
  · simp [h0, h1, h2, h3, h4, h5, papermillref51_Check.j0, papermillref51_Check.j1, papermillref51_Check.j2, papermillref51_Check.j3, papermillref51_Check.j4]
  by_cases h6 : a3 < 1
  · simp [h0, h1, h2, h3, h4, h5, h6, papermillref51_Check.j0, papermillref51_Check.j1, papermillref51_Check.j2, papermillref51_Check.j3, papermillref51_Check.j4]
  by_cases h7 : a3 ≥ 2500
  · simp [h0, h1, h2, h3, h4, h5, h6, h7, papermillref51_Check.j0, papermillref51_Check.j1, papermillref51_Check.j2, papermillref51_Check.j3, papermillref51_Check.j4]
  by_cases h8 : a4 ≤ a3
  · simp [h0, h1, h2, h3, h4, h5, h6, h7, h8, papermillref51_Check.j0, papermillref51_Check.j1, papermillref51_Check.j2, papermillref51_Check.j3, papermillref51_Check.j4]
  by_cases h9 : a4 > 2500
  · simp [h0, h1, h2, h3, h4, h5, h6, h7, h8, h9, papermillref51_Check.j0, papermillref51_Check.j1, papermillref51_Check.j2, papermillref51_Check.j3, papermillref51_Check.j4]
  by_cases h10 : a5 < 0
  · simp [h0, h1, h2, h3, h4, h5, h6, h7, h8, h9, h10, papermillref51_Check.j0, papermillref51_Check.j1, papermillref51_Check.j2, papermillref51_Check.j3, papermillref51_Check.j4]
  have hw : wrap64 (a4 - a3) = a4 - a3 := by unfold wrap64; omega
  by_cases h11 : a5 > a4 - a3
  · simp [h0, h1, h2, h3, h4, h5, h6, h7, h8, h9, h10, h11, hw, papermillref51_Check.j0, papermillref51_Check.j1, papermillref51_Check.j2, papermillref51_Check.j3, papermillref51_Check.j4]
  by_cases h12 : a6 < 1
  · simp [h0, h1, h2, h3, h4, h5, h6, h7, h8, h9, h10, h11, h12, hw, papermillref51_Check.j0, papermillref51_Check.j1, papermillref51_Check.j2, papermillref51_Check.j3, papermillref51_Check.j4]
  by_cases h13 : a6 > 1000
  · simp [h0, h1, h2, h3, h4, h5, h6, h7, h8, h9, h10, h11, h12, h13, hw, papermillref51_Check.j0, papermillref51_Check.j1, papermillref51_Check.j2, papermillref51_Check.j3, papermillref51_Check.j4]
  by_cases h14 : a7 < 0
  · simp [h0, h1, h2, h3, h4, h5, h6, h7, h8, h9, h10, h11, h12, h13, h14, hw, papermillref51_Check.j0, papermillref51_Check.j1, papermillref51_Check.j2, papermillref51_Check.j3, papermillref51_Check.j4]
  by_cases h15 : a7 > 1000
  · simp [h0, h1, h2, h3, h4, h5, h6, h7, h8, h9, h10, h11, h12, h13, h14, h15, hw, papermillref51_Check.j0, papermillref51_Check.j1, papermillref51_Check.j2, papermillref51_Check.j3, papermillref51_Check.j4]
  by_cases h16 : a8 < 0
  · simp [h0, h1, h2, h3, h4, h5, h6, h7, h8, h9, h10, h11, h12, h13, h14, h15, h16, hw, papermillref51_Check.j0, papermillref51_Check.j1, papermillref51_Check.j2, papermillref51_Check.j3, papermillref51_Check.j4]
  by_cases h17 : a8 > 1000
  · simp [h0, h1, h2, h3, h4, h5, h6, h7, h8, h9, h10, h11, h12, h13, h14, h15, h16, h17, hw, papermillref51_Check.j0, papermillref51_Check.j1, papermillref51_Check.j2, papermillref51_Check.j3, papermillref51_Check.j4]
  by_cases h18 : a9 < 0
  · simp [h0, h1, h2, h3, h4, h5, h6, h7, h8, h9, h10, h11, h12, h13, h14, h15, h16, h17, h18, hw, papermillref51_Check.j0, papermillref51_Check.j1, papermillref51_Check.j2, papermillref51_Check.j3, papermillref51_Check.j4]
  by_cases h19 : a9 > 8
  · simp [h0, h1, h2, h3, h4, h5, h6, h7, h8, h9, h10, h11, h12, h13, h14, h15, h16, h17, h18, h19, hw, papermillref51_Check.j0, papermillref51_Check.j1, papermillref51_Check.j2, papermillref51_Check.j3, papermillref51_Check.j4]
  by_cases h20 : a10 < 0
  · simp [h0, h1, h2, h3, h4, h5, h6, h7, h8, h9, h10, h11, h12, h13, h14, h15, h16, h17, h18, h19, h20, hw, papermillref51_Check.j0, papermillref51_Check.j1, papermillref51_Check.j2, papermillref51_Check.j3, papermillref51_Check.j4]
  by_cases h21 : a10 > 100
  · simp [h0, h1, h2, h3, h4, h5, h6, h7, h8, h9, h10, h11, h12, h13, h14, h15, h16, h17, h18, h19, h20, h21, hw, papermillref51_Check.j0, papermillref51_Check.j1, papermillref51_Check.j2, papermillref51_Check.j3, papermillref51_Check.j4]
  by_cases h22 : a11 < 0
  · simp [h0, h1, h2, h3, h4, h5, h6, h7, h8, h9, h10, h11, h12, h13, h14, h15, h16, h17, h18, h19, h20, h21, h22, hw, papermillref51_Check.j0, papermillref51_Check.j1, papermillref51_Check.j2, papermillref51_Check.j3, papermillref51_Check.j4]
  by_cases h23 : a11 > 1000000000
  · simp [h0, h1, h2, h3, h4, h5, h6, h7, h8, h9, h10, h11, h12, h13, h14, h15, h16, h17, h18, h19, h20, h21, h22, h23, hw, papermillref51_Check.j0, papermillref51_Check.j1, papermillref51_Check.j2, papermillref51_Check.j3, papermillref51_Check.j4]
  simp [h0, h1, h2, h3, h4, h5, h6, h7, h8, h9, h10, h11, h12, h13, h14, h15, h16, h17, h18, h19, h20, h21, h22, h23, hw, papermillref51_Check.j0, papermillref51_Check.j1, papermillref51_Check.j2, papermillref51_Check.j3, papermillref51_Check.j4]
theorem OrderChecks : OrderChecks_Pure := fun x _ => ⟨6, by
  unfold papermilllaw51_OrderChecks.f order_Check.f papermilllaw51_awake.f
  rw [refCheck]
  simp⟩
end Go.Proofs.Ythmhehfbepijgaa.Pure
