import Derived.Test.YtpfilkfdnjbejaaBQ0
import Derived.Test.YtpfilkfdnjbejaaBQ1
namespace Go.Proofs.Ytpfilkfdnjbejaa.Q
open Go.RowKit Go.Proofs.YtpfilkfdnjbejaaW.PrintWords Go.Proofs.YtpfilkfdnjbejaaW.PrintLast Go.Proofs.YtpfilkfdnjbejaaW.PrintMore
attribute [local go_sem] max2_int min2_int max_two min_two max_three min_three max_four min_four
set_option linter.unusedVariables false
set_option linter.unusedSimpArgs false
def ckP (p : S25) : Int := if p.f0 < 1 ∨ p.f0 > 4096 ∨ p.f1 < 1 ∨ p.f1 > 256 ∨ p.f2 < 0 ∨ p.f2 > 32 then 1 else 0
def ckG (g : S23) : Int := if (0 ≤ g.f0 ∧ g.f0 ≤ 65536 ∧ 0 ≤ g.f1 ∧ g.f1 ≤ 65536 ∧ 0 ≤ g.f2 ∧ g.f2 ≤ 20) ∧ -16777216 ≤ g.f3 ∧ g.f3 ≤ 16777216 ∧ -16777216 ≤ g.f4 ∧ g.f4 ≤ 16777216 ∧ 1 ≤ g.f5 ∧ g.f5 ≤ 16777216 then (if g.f3 > g.f4 then 9 else 0) else 1
def tgt (p : S25) (o : Int) : Int := p.f0 * o / 256
def sg (n : Int) : Bool := decide (-16777216 ≤ n ∧ n ≤ 16777216)
def ckC (c : S27) : Int := if ckG c.f0 = 0 then (if ckP c.f1 = 0 then (if sg (tgt c.f1 c.f0.f3) = true ∧ sg (tgt c.f1 c.f0.f4) = true then 0 else 32) else ckP c.f1) else ckG c.f0
theorem ckP_f (p : S25) : process_Check.f p.f0 p.f1 p.f2 = some (ckP p) := by
  unfold process_Check.f ckP
  repeat' split
  all_goals first | rfl | (exfalso; omega)
theorem in_f (a b c : Int) : control_in.f a b c = some (decide (b ≤ a ∧ a ≤ c)) := by
  unfold control_in.f
  split
  · rename_i h
    exact congrArg some (decide_eq_decide.2 ⟨fun q => ⟨h, q⟩, fun q => q.2⟩)
  · rename_i h
    exact congrArg some (decide_eq_false (fun q => h q.1)).symm
theorem ckG_f (g : S23) (k : Nat) : control_Check.f (k + 2) g.f0 g.f1 g.f2 g.f3 g.f4 g.f5 = some (ckG g) := by
  unfold control_Check.f ckG
  simp only [in_f, Option.bind_some, control_Check.j0, control_Check.j1, decide_eq_true_eq, Bool.not_eq_true', decide_eq_false_iff_not]
  repeat' split
  all_goals first | rfl | (exfalso; simp_all; done) | (exfalso; omega)
theorem floor_eq (a b : Int) (hb : 0 < b) : (if a.tdiv b * b > a then a.tdiv b - 1 else a.tdiv b) = a / b := by
  have h1 := Int.mul_tdiv_add_tmod a b
  have h2 := Int.tmod_lt_of_pos a hb
  have h3 := Int.lt_tmod_of_pos a hb
  have h4 := Int.mul_comm (a.tdiv b) b
  have h5 : b * (a.tdiv b - 1) = b * a.tdiv b - b := by rw [Int.mul_sub, Int.mul_one]
  split
  · exact ((Int.ediv_emod_unique (r := a.tmod b + b) hb).2 ⟨by omega, by omega, by omega⟩).1.symm
  · exact ((Int.ediv_emod_unique (r := a.tmod b) hb).2 ⟨by omega, by omega, by omega⟩).1.symm
theorem floor_f (a b : Int) (hb : 0 < b) (hb2 : b ≤ 65536) (h0 : -1125899906842624 ≤ a) (h1 : a ≤ 1125899906842624) : process_floor.f a b = some (a / b) := by
  have q1 : (a.tdiv b).natAbs ≤ a.natAbs := by rw [Int.natAbs_tdiv]; exact Nat.div_le_self _ _
  have q2 := Int.mul_tdiv_add_tmod a b
  have q3 := Int.tmod_lt_of_pos a hb
  have q4 := Int.lt_tmod_of_pos a hb
  have q5 := Int.mul_comm (a.tdiv b) b
  have e1 : wrap64 (a.tdiv b) = a.tdiv b := by unfold wrap64; omega
  have e2 : wrap64 (a.tdiv b * b) = a.tdiv b * b := by unfold wrap64; omega
  have e3 : wrap64 (a.tdiv b - 1) = a.tdiv b - 1 := by unfold wrap64; omega
  have f := floor_eq a b hb
  unfold process_floor.f
  rw [if_neg (by omega), e1, e2, e3]
  split
  · rename_i c
    rw [if_pos c] at f
    rw [f]
  · rename_i c
    rw [if_neg c] at f
    rw [f]
theorem ckP_is {p : S25} (h : ckP p = 0) : 1 ≤ p.f0 ∧ p.f0 ≤ 4096 ∧ 1 ≤ p.f1 ∧ p.f1 ≤ 256 ∧ 0 ≤ p.f2 ∧ p.f2 ≤ 32 := by
  unfold ckP at h
  split at h
  · omega
  · omega
theorem ckG_is {g : S23} (h : ckG g = 0) : (0 ≤ g.f0 ∧ g.f0 ≤ 65536 ∧ 0 ≤ g.f1 ∧ g.f1 ≤ 65536 ∧ 0 ≤ g.f2 ∧ g.f2 ≤ 20) ∧ (-16777216 ≤ g.f3 ∧ g.f4 ≤ 16777216 ∧ 1 ≤ g.f5 ∧ g.f5 ≤ 16777216) ∧ g.f3 ≤ g.f4 := by
  unfold ckG at h
  split at h
  · split at h
    · omega
    · omega
  · omega
theorem mul_rng {a b A B : Int} (a0 : 0 ≤ a) (a1 : a ≤ A) (b0 : -B ≤ b) (b1 : b ≤ B) (hB : 0 ≤ B) : -(A * B) ≤ a * b ∧ a * b ≤ A * B := by
  constructor
  · have h1 : a * -B ≤ a * b := Int.mul_le_mul_of_nonneg_left b0 a0
    have h2 : a * B ≤ A * B := Int.mul_le_mul_of_nonneg_right a1 hB
    have h3 : a * -B = -(a * B) := Int.mul_neg a B
    omega
  · have h1 : a * b ≤ a * B := Int.mul_le_mul_of_nonneg_left b1 a0
    have h2 : a * B ≤ A * B := Int.mul_le_mul_of_nonneg_right a1 hB
    omega
theorem target_f (p : S25) (h : ckP p = 0) (o : Int) (o0 : -16777216 ≤ o) (o1 : o ≤ 16777216) : process_target.f p.f0 p.f1 p.f2 o = some (tgt p o) := by
  obtain ⟨h0, h1, _⟩ := ckP_is h
  have q := mul_rng (A := 4096) (B := 16777216) (by omega : 0 ≤ p.f0) h1 o0 o1 (by decide)
  have e : wrap64 (p.f0 * o) = p.f0 * o := by unfold wrap64; omega
  unfold process_target.f tgt
  rw [e, floor_f _ _ (by decide) (by decide) (by omega) (by omega)]
  rfl
theorem within_f (a b : Int) (h0 : 0 ≤ b) (h1 : b ≤ 1125899906842624) : process_within.f a b = some (decide (-b ≤ a ∧ a ≤ b)) := by
  have e : wrap64 (-b) = -b := by unfold wrap64; omega
  unfold process_within.f
  rw [e]
  split
  · rename_i h
    exact congrArg some (decide_eq_decide.2 ⟨fun q => ⟨h, q⟩, fun q => q.2⟩)
  · rename_i h
    exact congrArg some (decide_eq_false (fun q => h q.1)).symm
theorem Target_f (p : S25) (h : ckP p = 0) (o : Int) (o0 : -16777216 ≤ o) (o1 : o ≤ 16777216) : process_Target.f p.f0 p.f1 p.f2 o = some (tgt p o, 0) := by
  unfold process_Target.f
  rw [ckP_f, Option.bind_some, if_pos h, within_f _ _ (by decide) (by decide), Option.bind_some, if_pos (decide_eq_true ⟨o0, o1⟩), target_f p h o o0 o1]
  rfl
theorem signal_f (a : Int) : closed_signal.f a = some (sg a) := by
  unfold closed_signal.f sg
  split
  · rename_i h
    exact congrArg some (decide_eq_decide.2 ⟨fun q => ⟨h, q⟩, fun q => q.2⟩)
  · rename_i h
    exact congrArg some (decide_eq_false (fun q => h q.1)).symm
theorem ckC_is {c : S27} (h : ckC c = 0) : ckG c.f0 = 0 ∧ ckP c.f1 = 0 ∧ sg (tgt c.f1 c.f0.f3) = true ∧ sg (tgt c.f1 c.f0.f4) = true := by
  unfold ckC at h
  split at h
  · rename_i hg
    split at h
    · rename_i hp
      split at h
      · rename_i hs
        exact ⟨hg, hp, hs⟩
      · omega
    · contradiction
  · contradiction
theorem sg_is {n : Int} (h : sg n = true) : -16777216 ≤ n ∧ n ≤ 16777216 := of_decide_eq_true h
theorem tgt_mono {p : S25} (h : 0 ≤ p.f0) {a b : Int} (hab : a ≤ b) : tgt p a ≤ tgt p b := Int.ediv_le_ediv (by decide) (Int.mul_le_mul_of_nonneg_left hab h)
theorem idx77_0 (a b : Int) (w : World) : (Instr.index 77 (.agg #[.int .i64 a, .int .i64 b]) (.int .i64 0)).run Try.prog w = .ok (.int .i64 a) w := by kernel_rfl
theorem idx77_1 (a b : Int) (w : World) : (Instr.index 77 (.agg #[.int .i64 a, .int .i64 b]) (.int .i64 1)).run Try.prog w = .ok (.int .i64 b) w := by kernel_rfl
set_option maxHeartbeats 16000000 in
set_option maxRecDepth 100000 in
theorem CheckC_calls (c : S27) (w : World) : Calls Try.prog 16 #[.agg #[.int .i64 c.f0.f0, .int .i64 c.f0.f1, .int .i64 c.f0.f2, .int .i64 c.f0.f3, .int .i64 c.f0.f4, .int .i64 c.f0.f5, .int .i64 c.f1.f0, .int .i64 c.f1.f1, .int .i64 c.f1.f2]] w fun e w' => e = .returned (.int .i64 (ckC c)) ∧ Below w.heap.size w w' := by
  have hu27 := Try.underlying27
  have hu25 := Try.underlying25
  have hu23 := Try.underlying23
  have hu77 := Try.underlying77
  have hi0 := idx77_0
  have hi1 := idx77_1
  by_cases hG : ckG c.f0 = 0
  · by_cases hP : ckP c.f1 = 0
    · have hc : ckC c = if sg (tgt c.f1 c.f0.f3) = true ∧ sg (tgt c.f1 c.f0.f4) = true then 0 else 32 := by unfold ckC; rw [if_pos hG, if_pos hP]
      have HC := Aside0.mk hc
      obtain ⟨_, ⟨g0, g1, _, _⟩, g2⟩ := ckG_is hG
      have HP := Aside0.mk hP
      have HG := Aside0.mk (And.intro g0 (And.intro g1 g2))
      clear hc g0 g1 g2
      go_enter Try.func16, Try.ntmps16
      go_wp2_with fail
      refine (control_Check.calls (0 + 2) c.f0.f0 c.f0.f1 c.f0.f2 c.f0.f3 c.f0.f4 c.f0.f5 (ckG c.f0) _ (ckG_f c.f0 0)).mono ?_
      rintro e w1 ⟨rfl, hb⟩
      rw [hG]
      have HS1 : Aside0 (w1.heap[w.heap.size]? = some (.cells #[.int .i64 c.f0.f0, .int .i64 c.f0.f1, .int .i64 c.f0.f2, .int .i64 c.f0.f3, .int .i64 c.f0.f4, .int .i64 c.f0.f5, .int .i64 c.f1.f0, .int .i64 c.f1.f1, .int .i64 c.f1.f2] 27 (0, 0))) := ⟨blk_below (blk_new w _) hb⟩
      have HB1 : Aside0 (Below w.heap.size w w1) := ⟨below_step (below_alloc (Below.refl w.heap.size w) (.cells #[.int .i64 c.f0.f0, .int .i64 c.f0.f1, .int .i64 c.f0.f2, .int .i64 c.f0.f3, .int .i64 c.f0.f4, .int .i64 c.f0.f5, .int .i64 c.f1.f0, .int .i64 c.f1.f1, .int .i64 c.f1.f2] 27)) hb⟩
      clear hb
      have s0 : w1.cell? ⟨w.heap.size, 0, none⟩ = some (.int .i64 c.f0.f0) := (blk_cell HS1.out 0).trans rfl
      have s1 : w1.cell? ⟨w.heap.size, 1, none⟩ = some (.int .i64 c.f0.f1) := (blk_cell HS1.out 1).trans rfl
      have s2 : w1.cell? ⟨w.heap.size, 2, none⟩ = some (.int .i64 c.f0.f2) := (blk_cell HS1.out 2).trans rfl
      have s3 : w1.cell? ⟨w.heap.size, 3, none⟩ = some (.int .i64 c.f0.f3) := (blk_cell HS1.out 3).trans rfl
      have s4 : w1.cell? ⟨w.heap.size, 4, none⟩ = some (.int .i64 c.f0.f4) := (blk_cell HS1.out 4).trans rfl
      have s5 : w1.cell? ⟨w.heap.size, 5, none⟩ = some (.int .i64 c.f0.f5) := (blk_cell HS1.out 5).trans rfl
      have s6 : w1.cell? ⟨w.heap.size, 6, none⟩ = some (.int .i64 c.f1.f0) := (blk_cell HS1.out 6).trans rfl
      have s7 : w1.cell? ⟨w.heap.size, 7, none⟩ = some (.int .i64 c.f1.f1) := (blk_cell HS1.out 7).trans rfl
      have s8 : w1.cell? ⟨w.heap.size, 8, none⟩ = some (.int .i64 c.f1.f2) := (blk_cell HS1.out 8).trans rfl
      go_wp2_with fail
      refine (process_Check.calls c.f1.f0 c.f1.f1 c.f1.f2 (ckP c.f1) _ (ckP_f c.f1)).mono ?_
      rintro e w2 ⟨rfl, hb⟩
      rw [hP]
      clear s0 s1 s2 s3 s4 s5 s6 s7 s8
      have HS2 := Aside0.mk (blk_below HS1.out hb)
      have HB2 := Aside0.mk (below_step HB1.out hb)
      clear hb
      have s0 : w2.cell? ⟨w.heap.size, 0, none⟩ = some (.int .i64 c.f0.f0) := (blk_cell HS2.out 0).trans rfl
      have s1 : w2.cell? ⟨w.heap.size, 1, none⟩ = some (.int .i64 c.f0.f1) := (blk_cell HS2.out 1).trans rfl
      have s2 : w2.cell? ⟨w.heap.size, 2, none⟩ = some (.int .i64 c.f0.f2) := (blk_cell HS2.out 2).trans rfl
      have s3 : w2.cell? ⟨w.heap.size, 3, none⟩ = some (.int .i64 c.f0.f3) := (blk_cell HS2.out 3).trans rfl
      have s4 : w2.cell? ⟨w.heap.size, 4, none⟩ = some (.int .i64 c.f0.f4) := (blk_cell HS2.out 4).trans rfl
      have s5 : w2.cell? ⟨w.heap.size, 5, none⟩ = some (.int .i64 c.f0.f5) := (blk_cell HS2.out 5).trans rfl
      have s6 : w2.cell? ⟨w.heap.size, 6, none⟩ = some (.int .i64 c.f1.f0) := (blk_cell HS2.out 6).trans rfl
      have s7 : w2.cell? ⟨w.heap.size, 7, none⟩ = some (.int .i64 c.f1.f1) := (blk_cell HS2.out 7).trans rfl
      have s8 : w2.cell? ⟨w.heap.size, 8, none⟩ = some (.int .i64 c.f1.f2) := (blk_cell HS2.out 8).trans rfl
      clear hG hP
      go_wp2_with fail
      clear s0 s1 s2 s3 s4 s5 s6 s7 s8
      go_loopg [28] 2 (fun gg v28 wr => ∃ kk : Int, 0 ≤ kk ∧ kk ≤ 2 ∧ 2 - kk.toNat ≤ gg ∧ v28 = .int .i64 kk ∧ (1 ≤ kk → sg (tgt c.f1 c.f0.f3) = true) ∧ (2 ≤ kk → sg (tgt c.f1 c.f0.f4) = true) ∧ Aside0 (Below w2.heap.size w2 wr))
      case atStart => exact ⟨0, by omega, by omega, by omega, rfl, fun h => absurd h (by omega), fun h => absurd h (by omega), ⟨Below.refl _ _⟩⟩
      case round =>
        obtain ⟨kk, hk0, hkk, hg, rfl, h1, h2, HB⟩ := hrel
        have HS := Aside0.mk (blk_below HS2.out HB.out)
        obtain rfl | rfl | rfl : kk = 0 ∨ kk = 1 ∨ kk = 2 := by omega
        · have HBW := Aside0.mk (below_step HB2.out HB.out)
          have s0 : wr.cell? ⟨w.heap.size, 0, none⟩ = some (.int .i64 c.f0.f0) := (blk_cell HS.out 0).trans rfl
          have s1 : wr.cell? ⟨w.heap.size, 1, none⟩ = some (.int .i64 c.f0.f1) := (blk_cell HS.out 1).trans rfl
          have s2 : wr.cell? ⟨w.heap.size, 2, none⟩ = some (.int .i64 c.f0.f2) := (blk_cell HS.out 2).trans rfl
          have s3 : wr.cell? ⟨w.heap.size, 3, none⟩ = some (.int .i64 c.f0.f3) := (blk_cell HS.out 3).trans rfl
          have s4 : wr.cell? ⟨w.heap.size, 4, none⟩ = some (.int .i64 c.f0.f4) := (blk_cell HS.out 4).trans rfl
          have s5 : wr.cell? ⟨w.heap.size, 5, none⟩ = some (.int .i64 c.f0.f5) := (blk_cell HS.out 5).trans rfl
          have s6 : wr.cell? ⟨w.heap.size, 6, none⟩ = some (.int .i64 c.f1.f0) := (blk_cell HS.out 6).trans rfl
          have s7 : wr.cell? ⟨w.heap.size, 7, none⟩ = some (.int .i64 c.f1.f1) := (blk_cell HS.out 7).trans rfl
          have s8 : wr.cell? ⟨w.heap.size, 8, none⟩ = some (.int .i64 c.f1.f2) := (blk_cell HS.out 8).trans rfl
          go_wp2_with fail
          refine (process_Target.calls c.f1.f0 c.f1.f1 c.f1.f2 c.f0.f3 (tgt c.f1 c.f0.f3) 0 _ (Target_f c.f1 HP.out c.f0.f3 (by have := HG.out; omega) (by have := HG.out; omega))).mono ?_
          rintro e w3 ⟨rfl, hb⟩
          clear s0 s1 s2 s3 s4 s5 s6 s7 s8
          have HB3 := Aside0.mk (below_step HB.out hb)
          clear hb
          go_wp2_with fail
          refine (closed_signal.calls (tgt c.f1 c.f0.f3) (sg (tgt c.f1 c.f0.f3)) _ (signal_f _)).mono ?_
          rintro e w4 ⟨rfl, hb⟩
          have HB4 := Aside0.mk (below_step HB3.out hb.below)
          clear hb
          cases hs : sg (tgt c.f1 c.f0.f3) with
          | true =>
            go_wp2_with fail
            go_roundg (2 - 1)
            case measure => omega
            case rel => exact ⟨1, by omega, by omega, by omega, by go_num, fun _ => hs, fun h => absurd h (by omega), HB4⟩
          | false =>
            have hv : (if sg (tgt c.f1 c.f0.f3) = true ∧ sg (tgt c.f1 c.f0.f4) = true then (0 : Int) else 32) = 32 := if_neg (by rw [hs]; exact fun h => absurd h.1 (by decide))
            have HV := Aside0.mk hv
            clear hv
            go_wp2
            go_ret
            exact ⟨congrArg (fun z => Ending.returned (.int .i64 z)) (HC.out.trans HV.out).symm, below_step HB2.out HB4.out⟩
        · have HBW := Aside0.mk (below_step HB2.out HB.out)
          have s0 : wr.cell? ⟨w.heap.size, 0, none⟩ = some (.int .i64 c.f0.f0) := (blk_cell HS.out 0).trans rfl
          have s1 : wr.cell? ⟨w.heap.size, 1, none⟩ = some (.int .i64 c.f0.f1) := (blk_cell HS.out 1).trans rfl
          have s2 : wr.cell? ⟨w.heap.size, 2, none⟩ = some (.int .i64 c.f0.f2) := (blk_cell HS.out 2).trans rfl
          have s3 : wr.cell? ⟨w.heap.size, 3, none⟩ = some (.int .i64 c.f0.f3) := (blk_cell HS.out 3).trans rfl
          have s4 : wr.cell? ⟨w.heap.size, 4, none⟩ = some (.int .i64 c.f0.f4) := (blk_cell HS.out 4).trans rfl
          have s5 : wr.cell? ⟨w.heap.size, 5, none⟩ = some (.int .i64 c.f0.f5) := (blk_cell HS.out 5).trans rfl
          have s6 : wr.cell? ⟨w.heap.size, 6, none⟩ = some (.int .i64 c.f1.f0) := (blk_cell HS.out 6).trans rfl
          have s7 : wr.cell? ⟨w.heap.size, 7, none⟩ = some (.int .i64 c.f1.f1) := (blk_cell HS.out 7).trans rfl
          have s8 : wr.cell? ⟨w.heap.size, 8, none⟩ = some (.int .i64 c.f1.f2) := (blk_cell HS.out 8).trans rfl
          go_wp2_with fail
          refine (process_Target.calls c.f1.f0 c.f1.f1 c.f1.f2 c.f0.f4 (tgt c.f1 c.f0.f4) 0 _ (Target_f c.f1 HP.out c.f0.f4 (by have := HG.out; omega) (by have := HG.out; omega))).mono ?_
          rintro e w3 ⟨rfl, hb⟩
          clear s0 s1 s2 s3 s4 s5 s6 s7 s8
          have HB3 := Aside0.mk (below_step HB.out hb)
          clear hb
          go_wp2_with fail
          refine (closed_signal.calls (tgt c.f1 c.f0.f4) (sg (tgt c.f1 c.f0.f4)) _ (signal_f _)).mono ?_
          rintro e w4 ⟨rfl, hb⟩
          have HB4 := Aside0.mk (below_step HB3.out hb.below)
          clear hb
          cases hs : sg (tgt c.f1 c.f0.f4) with
          | true =>
            go_wp2_with fail
            go_roundg (2 - 2)
            case measure => omega
            case rel => exact ⟨2, by omega, by omega, by omega, by go_num, fun _ => h1 (by omega), fun _ => hs, HB4⟩
          | false =>
            have hv : (if sg (tgt c.f1 c.f0.f3) = true ∧ sg (tgt c.f1 c.f0.f4) = true then (0 : Int) else 32) = 32 := if_neg (by rw [hs]; exact fun h => absurd h.2 (by decide))
            have HV := Aside0.mk hv
            clear hv
            go_wp2
            go_ret
            exact ⟨congrArg (fun z => Ending.returned (.int .i64 z)) (HC.out.trans HV.out).symm, below_step HB2.out HB4.out⟩
        · have hv : (if sg (tgt c.f1 c.f0.f3) = true ∧ sg (tgt c.f1 c.f0.f4) = true then (0 : Int) else 32) = 0 := if_pos ⟨h1 (by omega), h2 (by omega)⟩
          have HV := Aside0.mk hv
          clear hv
          go_wp2
          go_ret
          exact ⟨congrArg (fun z => Ending.returned (.int .i64 z)) (HC.out.trans HV.out).symm, below_step HB2.out HB.out⟩
    · have hc : ckC c = ckP c.f1 := by unfold ckC; rw [if_pos hG, if_neg hP]
      rw [hc]
      have t1 : (ckP c.f1 != 0) = true := bne_iff_ne.2 hP
      go_enter Try.func16, Try.ntmps16
      go_wp2_with fail
      refine (control_Check.calls (0 + 2) c.f0.f0 c.f0.f1 c.f0.f2 c.f0.f3 c.f0.f4 c.f0.f5 (ckG c.f0) _ (ckG_f c.f0 0)).mono ?_
      rintro e w1 ⟨rfl, hb⟩
      rw [hG]
      have HS1 : Aside0 (w1.heap[w.heap.size]? = some (.cells #[.int .i64 c.f0.f0, .int .i64 c.f0.f1, .int .i64 c.f0.f2, .int .i64 c.f0.f3, .int .i64 c.f0.f4, .int .i64 c.f0.f5, .int .i64 c.f1.f0, .int .i64 c.f1.f1, .int .i64 c.f1.f2] 27 (0, 0))) := ⟨blk_below (blk_new w _) hb⟩
      have HB1 : Aside0 (Below w.heap.size w w1) := ⟨below_step (below_alloc (Below.refl w.heap.size w) (.cells #[.int .i64 c.f0.f0, .int .i64 c.f0.f1, .int .i64 c.f0.f2, .int .i64 c.f0.f3, .int .i64 c.f0.f4, .int .i64 c.f0.f5, .int .i64 c.f1.f0, .int .i64 c.f1.f1, .int .i64 c.f1.f2] 27)) hb⟩
      clear hb
      have s0 : w1.cell? ⟨w.heap.size, 0, none⟩ = some (.int .i64 c.f0.f0) := (blk_cell HS1.out 0).trans rfl
      have s1 : w1.cell? ⟨w.heap.size, 1, none⟩ = some (.int .i64 c.f0.f1) := (blk_cell HS1.out 1).trans rfl
      have s2 : w1.cell? ⟨w.heap.size, 2, none⟩ = some (.int .i64 c.f0.f2) := (blk_cell HS1.out 2).trans rfl
      have s3 : w1.cell? ⟨w.heap.size, 3, none⟩ = some (.int .i64 c.f0.f3) := (blk_cell HS1.out 3).trans rfl
      have s4 : w1.cell? ⟨w.heap.size, 4, none⟩ = some (.int .i64 c.f0.f4) := (blk_cell HS1.out 4).trans rfl
      have s5 : w1.cell? ⟨w.heap.size, 5, none⟩ = some (.int .i64 c.f0.f5) := (blk_cell HS1.out 5).trans rfl
      have s6 : w1.cell? ⟨w.heap.size, 6, none⟩ = some (.int .i64 c.f1.f0) := (blk_cell HS1.out 6).trans rfl
      have s7 : w1.cell? ⟨w.heap.size, 7, none⟩ = some (.int .i64 c.f1.f1) := (blk_cell HS1.out 7).trans rfl
      have s8 : w1.cell? ⟨w.heap.size, 8, none⟩ = some (.int .i64 c.f1.f2) := (blk_cell HS1.out 8).trans rfl
      go_wp2_with fail
      refine (process_Check.calls c.f1.f0 c.f1.f1 c.f1.f2 (ckP c.f1) _ (ckP_f c.f1)).mono ?_
      rintro e w2 ⟨rfl, hb⟩
      clear hG hP hc
      clear s0 s1 s2 s3 s4 s5 s6 s7 s8
      have HS2 := Aside0.mk (blk_below HS1.out hb)
      have HB2 := Aside0.mk (below_step HB1.out hb)
      clear hb
      have s0 : w2.cell? ⟨w.heap.size, 0, none⟩ = some (.int .i64 c.f0.f0) := (blk_cell HS2.out 0).trans rfl
      have s1 : w2.cell? ⟨w.heap.size, 1, none⟩ = some (.int .i64 c.f0.f1) := (blk_cell HS2.out 1).trans rfl
      have s2 : w2.cell? ⟨w.heap.size, 2, none⟩ = some (.int .i64 c.f0.f2) := (blk_cell HS2.out 2).trans rfl
      have s3 : w2.cell? ⟨w.heap.size, 3, none⟩ = some (.int .i64 c.f0.f3) := (blk_cell HS2.out 3).trans rfl
      have s4 : w2.cell? ⟨w.heap.size, 4, none⟩ = some (.int .i64 c.f0.f4) := (blk_cell HS2.out 4).trans rfl
      have s5 : w2.cell? ⟨w.heap.size, 5, none⟩ = some (.int .i64 c.f0.f5) := (blk_cell HS2.out 5).trans rfl
      have s6 : w2.cell? ⟨w.heap.size, 6, none⟩ = some (.int .i64 c.f1.f0) := (blk_cell HS2.out 6).trans rfl
      have s7 : w2.cell? ⟨w.heap.size, 7, none⟩ = some (.int .i64 c.f1.f1) := (blk_cell HS2.out 7).trans rfl
      have s8 : w2.cell? ⟨w.heap.size, 8, none⟩ = some (.int .i64 c.f1.f2) := (blk_cell HS2.out 8).trans rfl
      go_wp2
      go_ret
      exact ⟨rfl, HB2.out⟩
  · have hc : ckC c = ckG c.f0 := by unfold ckC; rw [if_neg hG]
    rw [hc]
    have t1 : (ckG c.f0 != 0) = true := bne_iff_ne.2 hG
    go_enter Try.func16, Try.ntmps16
    go_wp2_with fail
    refine (control_Check.calls (0 + 2) c.f0.f0 c.f0.f1 c.f0.f2 c.f0.f3 c.f0.f4 c.f0.f5 (ckG c.f0) _ (ckG_f c.f0 0)).mono ?_
    rintro e w1 ⟨rfl, hb⟩
    clear hG hc
    have HS1 : Aside0 (w1.heap[w.heap.size]? = some (.cells #[.int .i64 c.f0.f0, .int .i64 c.f0.f1, .int .i64 c.f0.f2, .int .i64 c.f0.f3, .int .i64 c.f0.f4, .int .i64 c.f0.f5, .int .i64 c.f1.f0, .int .i64 c.f1.f1, .int .i64 c.f1.f2] 27 (0, 0))) := ⟨blk_below (blk_new w _) hb⟩
    have HB1 : Aside0 (Below w.heap.size w w1) := ⟨below_step (below_alloc (Below.refl w.heap.size w) (.cells #[.int .i64 c.f0.f0, .int .i64 c.f0.f1, .int .i64 c.f0.f2, .int .i64 c.f0.f3, .int .i64 c.f0.f4, .int .i64 c.f0.f5, .int .i64 c.f1.f0, .int .i64 c.f1.f1, .int .i64 c.f1.f2] 27)) hb⟩
    clear hb
    have s0 : w1.cell? ⟨w.heap.size, 0, none⟩ = some (.int .i64 c.f0.f0) := (blk_cell HS1.out 0).trans rfl
    have s1 : w1.cell? ⟨w.heap.size, 1, none⟩ = some (.int .i64 c.f0.f1) := (blk_cell HS1.out 1).trans rfl
    have s2 : w1.cell? ⟨w.heap.size, 2, none⟩ = some (.int .i64 c.f0.f2) := (blk_cell HS1.out 2).trans rfl
    have s3 : w1.cell? ⟨w.heap.size, 3, none⟩ = some (.int .i64 c.f0.f3) := (blk_cell HS1.out 3).trans rfl
    have s4 : w1.cell? ⟨w.heap.size, 4, none⟩ = some (.int .i64 c.f0.f4) := (blk_cell HS1.out 4).trans rfl
    have s5 : w1.cell? ⟨w.heap.size, 5, none⟩ = some (.int .i64 c.f0.f5) := (blk_cell HS1.out 5).trans rfl
    have s6 : w1.cell? ⟨w.heap.size, 6, none⟩ = some (.int .i64 c.f1.f0) := (blk_cell HS1.out 6).trans rfl
    have s7 : w1.cell? ⟨w.heap.size, 7, none⟩ = some (.int .i64 c.f1.f1) := (blk_cell HS1.out 7).trans rfl
    have s8 : w1.cell? ⟨w.heap.size, 8, none⟩ = some (.int .i64 c.f1.f2) := (blk_cell HS1.out 8).trans rfl
    go_wp2
    go_ret
    exact ⟨rfl, HB1.out⟩
def closed_Check.f (a0_0 a0_1 a0_2 a0_3 a0_4 a0_5 a0_6 a0_7 a0_8 : Int) : Option Int := some (ckC ⟨⟨a0_0, a0_1, a0_2, a0_3, a0_4, a0_5⟩, ⟨a0_6, a0_7, a0_8⟩⟩)
theorem closed_Check.calls (a0_0 a0_1 a0_2 a0_3 a0_4 a0_5 a0_6 a0_7 a0_8 : Int) (r : Int) (w : World) (h : closed_Check.f a0_0 a0_1 a0_2 a0_3 a0_4 a0_5 a0_6 a0_7 a0_8 = some r) : Calls Try.prog 16 #[.agg #[.int .i64 a0_0, .int .i64 a0_1, .int .i64 a0_2, .int .i64 a0_3, .int .i64 a0_4, .int .i64 a0_5, .int .i64 a0_6, .int .i64 a0_7, .int .i64 a0_8]] w fun e w' => e = .returned (.int .i64 r) ∧ Below w.heap.size w w' := by
  obtain rfl := Option.some.inj h
  exact CheckC_calls ⟨⟨a0_0, a0_1, a0_2, a0_3, a0_4, a0_5⟩, ⟨a0_6, a0_7, a0_8⟩⟩ w
def web_Check.l0 : Nat → List (S27) → Int → Int → Int → Int → Int → Int → Int → Int → Int → Int → Int → Int → Int → Int → Int → Int → Int → Int → Int → Int → Int → Option (Int)
  | 0, _, _, _, _, _, _, _, _, _, _, _, _, _, _, _, _, _, _, _, _, _, _ => none
  | k + 1, x10, x11, x12, x116000, x116001, x116002, x116003, x116004, x116005, x116006, x116007, x116008, x116009, x116010, x116011, x116012, x116013, x116014, x116015, x116016, x116017, x116018 => if x12 < x11 then (if 0 ≤ x12 then (if x12 < (x10.length : Int) then ((closed_Check.f ((rd_T27 x10 x12).f0.f0) ((rd_T27 x10 x12).f0.f1) ((rd_T27 x10 x12).f0.f2) ((rd_T27 x10 x12).f0.f3) ((rd_T27 x10 x12).f0.f4) ((rd_T27 x10 x12).f0.f5) ((rd_T27 x10 x12).f1.f0) ((rd_T27 x10 x12).f1.f1) ((rd_T27 x10 x12).f1.f2)).bind fun t121 => (if t121 = 0 then (web_Check.l0 k x10 x11 (wrap64 (x12 + 1)) x116000 x116001 x116002 x116003 x116004 x116005 x116006 x116007 x116008 x116009 x116010 x116011 x116012 x116013 x116014 x116015 x116016 x116017 x116018) else (some t121))) else (none)) else (none)) else (if x116018 < (-256) then (some 1) else (if x116018 > 256 then (some 1) else (some 0)))
def web_Check.f (k : Nat) (a0_0 : Int) (a0_1 : Int) (a0_2 : Int) (a0_3 : Int) (a0_4 : Int) (a0_5 : Int) (a0_6 : Int) (a0_7 : Int) (a0_8 : Int) (a0_9 : Int) (a0_10 : Int) (a0_11 : Int) (a0_12 : Int) (a0_13 : Int) (a0_14 : Int) (a0_15 : Int) (a0_16 : Int) (a0_17 : Int) (a0_18 : Int) : Option (Int) := (some (([(⟨(⟨a0_0, a0_1, a0_2, a0_3, a0_4, a0_5⟩ : S23), (⟨a0_6, a0_7, a0_8⟩ : S25)⟩ : S27), (⟨(⟨a0_9, a0_10, a0_11, a0_12, a0_13, a0_14⟩ : S23), (⟨a0_15, a0_16, a0_17⟩ : S25)⟩ : S27)] : List (S27)) : List (S27))).bind fun y116 => (web_Check.l0 k y116 (y116.length : Int) 0 a0_0 a0_1 a0_2 a0_3 a0_4 a0_5 a0_6 a0_7 a0_8 a0_9 a0_10 a0_11 a0_12 a0_13 a0_14 a0_15 a0_16 a0_17 a0_18)
theorem web_Check.mono_l : ∀ k, (∀ y0 y1 y2 y3 y4 y5 y6 y7 y8 y9 y10 y11 y12 y13 y14 y15 y16 y17 y18 y19 y20 y21, LeO (web_Check.l0 k y0 y1 y2 y3 y4 y5 y6 y7 y8 y9 y10 y11 y12 y13 y14 y15 y16 y17 y18 y19 y20 y21) (web_Check.l0 (k + 1) y0 y1 y2 y3 y4 y5 y6 y7 y8 y9 y10 y11 y12 y13 y14 y15 y16 y17 y18 y19 y20 y21))
  | 0 => fun _ _ _ _ _ _ _ _ _ _ _ _ _ _ _ _ _ _ _ _ _ _ r h => by simp [web_Check.l0] at h
  | k + 1 => by
    have ih0 := web_Check.mono_l k
    · intro y0 y1 y2 y3 y4 y5 y6 y7 y8 y9 y10 y11 y12 y13 y14 y15 y16 y17 y18 y19 y20 y21
      unfold web_Check.l0
      repeat' first
      | (with_reducible exact ih0 _ _ _ _ _ _ _ _ _ _ _ _ _ _ _ _ _ _ _ _ _ _)
      | (with_reducible exact LeO.refl _)
      | (with_reducible exact LeO.none _)
      | (with_reducible refine LeO.ite ?_ ?_)
      | (with_reducible refine LeO.bind ?_ (fun _ => ?_))
      | exact ih0 _ _ _ _ _ _ _ _ _ _ _ _ _ _ _ _ _ _ _ _ _ _
      | exact LeO.none _
      | refine LeO.ite ?_ ?_
      | refine LeO.bind ?_ (fun _ => ?_)
theorem web_Check.mono : ∀ a0 a1 a2 a3 a4 a5 a6 a7 a8 a9 a10 a11 a12 a13 a14 a15 a16 a17 a18 k, LeO (web_Check.f k a0 a1 a2 a3 a4 a5 a6 a7 a8 a9 a10 a11 a12 a13 a14 a15 a16 a17 a18) (web_Check.f (k + 1) a0 a1 a2 a3 a4 a5 a6 a7 a8 a9 a10 a11 a12 a13 a14 a15 a16 a17 a18) := by
  intro a0 a1 a2 a3 a4 a5 a6 a7 a8 a9 a10 a11 a12 a13 a14 a15 a16 a17 a18 k
  have ih0 := web_Check.mono_l k
  unfold web_Check.f
  repeat' first
      | (with_reducible exact ih0 _ _ _ _ _ _ _ _ _ _ _ _ _ _ _ _ _ _ _ _ _ _)
      | (with_reducible exact LeO.refl _)
      | (with_reducible exact LeO.none _)
      | (with_reducible refine LeO.ite ?_ ?_)
      | (with_reducible refine LeO.bind ?_ (fun _ => ?_))
      | exact ih0 _ _ _ _ _ _ _ _ _ _ _ _ _ _ _ _ _ _ _ _ _ _
      | exact LeO.none _
      | refine LeO.ite ?_ ?_
      | refine LeO.bind ?_ (fun _ => ?_)
set_option maxHeartbeats 8000000 in
set_option maxRecDepth 100000 in
theorem web_Check.calls (k : Nat) (a0_0 : Int) (a0_1 : Int) (a0_2 : Int) (a0_3 : Int) (a0_4 : Int) (a0_5 : Int) (a0_6 : Int) (a0_7 : Int) (a0_8 : Int) (a0_9 : Int) (a0_10 : Int) (a0_11 : Int) (a0_12 : Int) (a0_13 : Int) (a0_14 : Int) (a0_15 : Int) (a0_16 : Int) (a0_17 : Int) (a0_18 : Int) (r : Int) (w : World) (h : web_Check.f k a0_0 a0_1 a0_2 a0_3 a0_4 a0_5 a0_6 a0_7 a0_8 a0_9 a0_10 a0_11 a0_12 a0_13 a0_14 a0_15 a0_16 a0_17 a0_18 = some r) :
    Calls Try.prog 9 #[.agg #[.int .i64 a0_0, .int .i64 a0_1, .int .i64 a0_2, .int .i64 a0_3, .int .i64 a0_4, .int .i64 a0_5, .int .i64 a0_6, .int .i64 a0_7, .int .i64 a0_8, .int .i64 a0_9, .int .i64 a0_10, .int .i64 a0_11, .int .i64 a0_12, .int .i64 a0_13, .int .i64 a0_14, .int .i64 a0_15, .int .i64 a0_16, .int .i64 a0_17, .int .i64 a0_18]] w fun e w' => e = .returned (.int .i64 r) ∧ Below w.heap.size w w' := by
  have hu29 := Try.underlying29
  have hu27 := Try.underlying27
  have HB := Aside0.mk (Below.refl w.heap.size w)
  have H : ((some (([(⟨(⟨a0_0, a0_1, a0_2, a0_3, a0_4, a0_5⟩ : S23), (⟨a0_6, a0_7, a0_8⟩ : S25)⟩ : S27), (⟨(⟨a0_9, a0_10, a0_11, a0_12, a0_13, a0_14⟩ : S23), (⟨a0_15, a0_16, a0_17⟩ : S25)⟩ : S27)] : List (S27)) : List (S27))).bind fun y116 => (web_Check.l0 k y116 (y116.length : Int) 0 a0_0 a0_1 a0_2 a0_3 a0_4 a0_5 a0_6 a0_7 a0_8 a0_9 a0_10 a0_11 a0_12 a0_13 a0_14 a0_15 a0_16 a0_17 a0_18)) = some r := h
  clear h
  obtain ⟨y116, hy116⟩ : ∃ y_ : List (S27), y_ = (([(⟨(⟨a0_0, a0_1, a0_2, a0_3, a0_4, a0_5⟩ : S23), (⟨a0_6, a0_7, a0_8⟩ : S25)⟩ : S27), (⟨(⟨a0_9, a0_10, a0_11, a0_12, a0_13, a0_14⟩ : S23), (⟨a0_15, a0_16, a0_17⟩ : S25)⟩ : S27)] : List (S27))) := ⟨_, rfl⟩
  replace H : (web_Check.l0 k y116 (y116.length : Int) 0 a0_0 a0_1 a0_2 a0_3 a0_4 a0_5 a0_6 a0_7 a0_8 a0_9 a0_10 a0_11 a0_12 a0_13 a0_14 a0_15 a0_16 a0_17 a0_18) = some r := by first | (rw [hy116]; with_reducible exact H) | (have H2_ := (Option.bind_some _ _).symm.trans H; rw [hy116]; with_reducible exact H2_) | (have H2_ := (Option.bind_some _ _).symm.trans H; with_reducible exact H2_) | with_reducible exact H | (rw [hy116]; exact H) | exact H
  have Ny116 := Aside0.mk hy116
  clear hy116
  have H' := Aside0.mk H
  clear H
  go_enter Try.func9, Try.ntmps9
  go_wp2_with (first | ((with_reducible refine gate_dst (N := 1) rfl ?_); refine box_event ?hg (N := 1) ?hd (cs := #[.int .i64 a0_0, .int .i64 a0_1, .int .i64 a0_2, .int .i64 a0_3, .int .i64 a0_4, .int .i64 a0_5, .int .i64 a0_6, .int .i64 a0_7, .int .i64 a0_8, .int .i64 a0_9, .int .i64 a0_10, .int .i64 a0_11, .int .i64 a0_12, .int .i64 a0_13, .int .i64 a0_14, .int .i64 a0_15, .int .i64 a0_16, .int .i64 a0_17, .int .i64 a0_18]) (t := 29) ?hr ?_; (case hd => rfl); (case hg => rfl); (case hr => first | (go_simp; done) | (go_simp; rfl)); intro gb115 hg w2 hbox hb; have n0_ := Aside0.mk (below_step (by repeat (first | (with_reducible first | exact HB.out | apply below_alloc | apply pw_below_drewN | apply below_drew1) | exact HB.out)) hb); have n1_ := Aside0.mk (hbox); have n2_ := Aside0.mk ((by rw [hg]; exact (below_size (by repeat (first | (with_reducible first | exact HB.out | apply below_alloc | apply pw_below_drewN | apply below_drew1) | exact HB.out))) : w.heap.size ≤ gb115)); have n3_ := Aside0.mk ((by rw [hg]; exact (below_size (by repeat (first | (with_reducible first | exact HB.out | apply below_alloc | apply pw_below_drewN | apply below_drew1) | exact HB.out))) : w.heap.size ≤ gb115)); clear HB; have HB := n0_; have BK115 := n1_; have GW115 := n2_; have GE115 := n3_; clear n0_ n1_ n2_ n3_; clear hb hbox hg; have hcz3_0 : w2.cell? ⟨gb115, 0, none⟩ = some (.int .i64 a0_0) := (blk_cell BK115.out 0).trans rfl; have hcz3_1 : w2.cell? ⟨gb115, 1, none⟩ = some (.int .i64 a0_1) := (blk_cell BK115.out 1).trans rfl; have hcz3_2 : w2.cell? ⟨gb115, 2, none⟩ = some (.int .i64 a0_2) := (blk_cell BK115.out 2).trans rfl; have hcz3_3 : w2.cell? ⟨gb115, 3, none⟩ = some (.int .i64 a0_3) := (blk_cell BK115.out 3).trans rfl; have hcz3_4 : w2.cell? ⟨gb115, 4, none⟩ = some (.int .i64 a0_4) := (blk_cell BK115.out 4).trans rfl; have hcz3_5 : w2.cell? ⟨gb115, 5, none⟩ = some (.int .i64 a0_5) := (blk_cell BK115.out 5).trans rfl; have hcz3_6 : w2.cell? ⟨gb115, 6, none⟩ = some (.int .i64 a0_6) := (blk_cell BK115.out 6).trans rfl; have hcz3_7 : w2.cell? ⟨gb115, 7, none⟩ = some (.int .i64 a0_7) := (blk_cell BK115.out 7).trans rfl; have hcz3_8 : w2.cell? ⟨gb115, 8, none⟩ = some (.int .i64 a0_8) := (blk_cell BK115.out 8).trans rfl; have hcz3_9 : w2.cell? ⟨gb115, 9, none⟩ = some (.int .i64 a0_9) := (blk_cell BK115.out 9).trans rfl; have hcz3_10 : w2.cell? ⟨gb115, 10, none⟩ = some (.int .i64 a0_10) := (blk_cell BK115.out 10).trans rfl; have hcz3_11 : w2.cell? ⟨gb115, 11, none⟩ = some (.int .i64 a0_11) := (blk_cell BK115.out 11).trans rfl; have hcz3_12 : w2.cell? ⟨gb115, 12, none⟩ = some (.int .i64 a0_12) := (blk_cell BK115.out 12).trans rfl; have hcz3_13 : w2.cell? ⟨gb115, 13, none⟩ = some (.int .i64 a0_13) := (blk_cell BK115.out 13).trans rfl; have hcz3_14 : w2.cell? ⟨gb115, 14, none⟩ = some (.int .i64 a0_14) := (blk_cell BK115.out 14).trans rfl; have hcz3_15 : w2.cell? ⟨gb115, 15, none⟩ = some (.int .i64 a0_15) := (blk_cell BK115.out 15).trans rfl; have hcz3_16 : w2.cell? ⟨gb115, 16, none⟩ = some (.int .i64 a0_16) := (blk_cell BK115.out 16).trans rfl; have hcz3_17 : w2.cell? ⟨gb115, 17, none⟩ = some (.int .i64 a0_17) := (blk_cell BK115.out 17).trans rfl; have hcz3_18 : w2.cell? ⟨gb115, 18, none⟩ = some (.int .i64 a0_18) := (blk_cell BK115.out 18).trans rfl; have hfz3_0 := blk_frozen BK115.out 0; have hfz3_1 := blk_frozen BK115.out 1; have hfz3_2 := blk_frozen BK115.out 2; have hfz3_3 := blk_frozen BK115.out 3; have hfz3_4 := blk_frozen BK115.out 4; have hfz3_5 := blk_frozen BK115.out 5; have hfz3_6 := blk_frozen BK115.out 6; have hfz3_7 := blk_frozen BK115.out 7; have hfz3_8 := blk_frozen BK115.out 8; have hfz3_9 := blk_frozen BK115.out 9; have hfz3_10 := blk_frozen BK115.out 10; have hfz3_11 := blk_frozen BK115.out 11; have hfz3_12 := blk_frozen BK115.out 12; have hfz3_13 := blk_frozen BK115.out 13; have hfz3_14 := blk_frozen BK115.out 14; have hfz3_15 := blk_frozen BK115.out 15; have hfz3_16 := blk_frozen BK115.out 16; have hfz3_17 := blk_frozen BK115.out 17; have hfz3_18 := blk_frozen BK115.out 18) | ((with_reducible refine gate_dst (N := 10) rfl ?_); refine Kd.R_lit k27 _ 27 ?hg (N := 10) ?hd (xs := ([(⟨(⟨a0_0, a0_1, a0_2, a0_3, a0_4, a0_5⟩ : S23), (⟨a0_6, a0_7, a0_8⟩ : S25)⟩ : S27), (⟨(⟨a0_9, a0_10, a0_11, a0_12, a0_13, a0_14⟩ : S23), (⟨a0_15, a0_16, a0_17⟩ : S25)⟩ : S27)] : List (S27))) (inner := [.int .i64 a0_0, .int .i64 a0_1, .int .i64 a0_2, .int .i64 a0_3, .int .i64 a0_4, .int .i64 a0_5, .int .i64 a0_6, .int .i64 a0_7, .int .i64 a0_8, .int .i64 a0_9, .int .i64 a0_10, .int .i64 a0_11, .int .i64 a0_12, .int .i64 a0_13, .int .i64 a0_14, .int .i64 a0_15, .int .i64 a0_16, .int .i64 a0_17]) (ok := fun _ => True) (okp := fun _ => True) ?hr ?hp (fun _ hk => hk) trivial (Below.refl _ _) (Nat.le_refl _) (by simp) ?_; (case hd => rfl); (case hg => rfl); (case hr => first | (go_simp; done) | (go_simp; rfl)); (case hp => exact (Reps.c9 (show Kd.M k27 _ _ _ (⟨(⟨a0_0, a0_1, a0_2, a0_3, a0_4, a0_5⟩ : S23), (⟨a0_6, a0_7, a0_8⟩ : S25)⟩ : S27) [.int .i64 a0_0, .int .i64 a0_1, .int .i64 a0_2, .int .i64 a0_3, .int .i64 a0_4, .int .i64 a0_5, .int .i64 a0_6, .int .i64 a0_7, .int .i64 a0_8] from (k27_mkM _ _ _ (⟨(⟨a0_0, a0_1, a0_2, a0_3, a0_4, a0_5⟩ : S23), (⟨a0_6, a0_7, a0_8⟩ : S25)⟩ : S27) )) (Reps.c9 (show Kd.M k27 _ _ _ (⟨(⟨a0_9, a0_10, a0_11, a0_12, a0_13, a0_14⟩ : S23), (⟨a0_15, a0_16, a0_17⟩ : S25)⟩ : S27) [.int .i64 a0_9, .int .i64 a0_10, .int .i64 a0_11, .int .i64 a0_12, .int .i64 a0_13, .int .i64 a0_14, .int .i64 a0_15, .int .i64 a0_16, .int .i64 a0_17] from (k27_mkM _ _ _ (⟨(⟨a0_9, a0_10, a0_11, a0_12, a0_13, a0_14⟩ : S23), (⟨a0_15, a0_16, a0_17⟩ : S25)⟩ : S27) )) (Reps.none _ _)))); intro v117 w4 ho5 hb hg_ hnew_; clear hg_ hnew_; (first | rw [← Ny116.out] at ho5 | (simp only [Int.reduceToNat] at ho5; rw [← Ny116.out] at ho5)); have n0_ := Aside0.mk (Kd.R_lower ho5 (below_size (by repeat (first | (with_reducible first | exact HB.out | apply below_alloc | apply pw_below_drewN | apply below_drew1 | refine below_set ?_ GE115.out) | exact HB.out)))); have n1_ := Aside0.mk (blk_below (g := gb115) (o := .cells #[.int .i64 a0_0, .int .i64 a0_1, .int .i64 a0_2, .int .i64 a0_3, .int .i64 a0_4, .int .i64 a0_5, .int .i64 a0_6, .int .i64 a0_7, .int .i64 a0_8, .int .i64 a0_9, .int .i64 a0_10, .int .i64 a0_11, .int .i64 a0_12, .int .i64 a0_13, .int .i64 a0_14, .int .i64 a0_15, .int .i64 a0_16, .int .i64 a0_17, .int .i64 a0_18] 29 (0, 0)) (by (with_reducible repeat (first | refine blk_drewN ?_ _ | refine blk_drew ?_ | refine blk_alloc ?_ _)); exact BK115.out) hb); have n2_ := Aside0.mk (below_step (by repeat (first | (with_reducible first | exact HB.out | apply below_alloc | apply pw_below_drewN | apply below_drew1 | refine below_set ?_ GE115.out) | exact HB.out)) hb); clear BK115; clear HB; have HO118 := n0_; have BK115 := n1_; have HB := n2_; clear n0_ n1_ n2_; clear hb ho5; obtain ⟨Ao6, co6, eo6⟩ := Kd.R_slice HO118.out; subst eo6))
  go_loopg [12] k (fun kq v12 w' => ∃ (x12_1 : Int), v12 = .int .i64 x12_1 ∧ Aside0 (web_Check.l0 kq y116 (y116.length : Int) x12_1 a0_0 a0_1 a0_2 a0_3 a0_4 a0_5 a0_6 a0_7 a0_8 a0_9 a0_10 a0_11 a0_12 a0_13 a0_14 a0_15 a0_16 a0_17 a0_18 = some r) ∧ Aside0 (kq ≤ k) ∧ Aside0 (Kd.R k27 27 w' w.heap.size (fun _ => True) (.slice Ao6 y116.length co6) y116) ∧ Aside0 (w'.heap[gb115]? = some (.cells #[.int .i64 a0_0, .int .i64 a0_1, .int .i64 a0_2, .int .i64 a0_3, .int .i64 a0_4, .int .i64 a0_5, .int .i64 a0_6, .int .i64 a0_7, .int .i64 a0_8, .int .i64 a0_9, .int .i64 a0_10, .int .i64 a0_11, .int .i64 a0_12, .int .i64 a0_13, .int .i64 a0_14, .int .i64 a0_15, .int .i64 a0_16, .int .i64 a0_17, .int .i64 a0_18] 29 (0, 0))) ∧ Aside0 (Below w.heap.size w w'))
  case atStart => exact ⟨(0), (by first | rfl | (simp; done) | (simp [*]; done)), H', ⟨Nat.le_refl _⟩, ⟨by (with_reducible repeat (first | apply Kd.R_alloc | apply Kd.R_drewN | apply Kd.R_drew)); exact HO118.out⟩, ⟨by (with_reducible repeat (first | refine blk_drewN ?_ _ | refine blk_drew ?_ | refine blk_alloc ?_ _)); exact BK115.out⟩, ⟨by repeat (first | (with_reducible first | exact HB.out | apply below_alloc | apply pw_below_drewN | apply below_drew1 | refine below_set ?_ GE115.out) | exact HB.out)⟩⟩
  case round =>
    clear H'
    try clear p2
    try clear hcz3_0
    try clear hcz3_1
    try clear hcz3_10
    try clear hcz3_11
    try clear hcz3_12
    try clear hcz3_13
    try clear hcz3_14
    try clear hcz3_15
    try clear hcz3_16
    try clear hcz3_17
    try clear hcz3_18
    try clear hcz3_2
    try clear hcz3_3
    try clear hcz3_4
    try clear hcz3_5
    try clear hcz3_6
    try clear hcz3_7
    try clear hcz3_8
    try clear hcz3_9
    try clear hfz3_0
    try clear hfz3_1
    try clear hfz3_10
    try clear hfz3_11
    try clear hfz3_12
    try clear hfz3_13
    try clear hfz3_14
    try clear hfz3_15
    try clear hfz3_16
    try clear hfz3_17
    try clear hfz3_18
    try clear hfz3_2
    try clear hfz3_3
    try clear hfz3_4
    try clear hfz3_5
    try clear hfz3_6
    try clear hfz3_7
    try clear hfz3_8
    try clear hfz3_9
    obtain ⟨x12_1, rfl, HA, HK1, HO_10, BK115, HB⟩ := hrel
    cases gk with
    | zero => exact absurd HA.out (by simp [web_Check.l0])
    | succ k1 =>
      have H := HA.out
      clear HA
      simp only [web_Check.l0] at H
      by_cases c7 : x12_1 < (y116.length : Int)
      · rw [if_pos c7] at H
        have c7b0 : decide (x12_1 < (y116.length : Int)) = true := decide_eq_true c7
        clear c7
        by_cases c8 : 0 ≤ x12_1
        · rw [if_pos c8] at H
          have c8b0 : decide (0 ≤ x12_1) = true := decide_eq_true c8
          clear c8
          by_cases c9 : x12_1 < (y116.length : Int)
          · rw [if_pos c9] at H
            have c9b0 : decide (x12_1 < (y116.length : Int)) = true := decide_eq_true c9
            clear c9
            replace H := Option.bind_eq_some_iff.mp H
            obtain ⟨t121, A100, H⟩ := H
            replace H : (if t121 = 0 then (web_Check.l0 k1 y116 (y116.length : Int) (wrap64 (x12_1 + 1)) a0_0 a0_1 a0_2 a0_3 a0_4 a0_5 a0_6 a0_7 a0_8 a0_9 a0_10 a0_11 a0_12 a0_13 a0_14 a0_15 a0_16 a0_17 a0_18) else (some t121)) = some r := H
            have A10 := Aside0.mk A100
            clear A100
            by_cases c11 : t121 = 0
            · rw [if_pos c11] at H
              have c11b0 : (t121 == 0) = true := beq_iff_eq.mpr c11
              have c11b1 : (t121 != 0) = false := bne_eq_false_iff_eq.mpr c11
              clear c11
              have H' := Aside0.mk H
              clear H
              have p119 : 0 ≤ (x12_1 : Int) := of_decide_eq_true (by first | (with_reducible assumption) | assumption)
              have q119 : x12_1 < (y116.length : Int) := of_decide_eq_true (by first | (with_reducible assumption) | assumption)
              obtain ⟨ad119, e119, hx119_0, hx119_1, hx119_2, hx119_3, hx119_4, hx119_5, hx119_6, hx119_7, hx119_8⟩ := at_T27 (Kd.R_reads' HO_10.out).2.2 x12_1 p119 q119
              cases e119
              replace p119 := eq_true p119
              replace q119 := eq_true q119
              go_wp2_with (first | ((with_reducible refine gate_dst (N := 4) rfl ?_); refine box_event ?hg (N := 4) ?hd (cs := #[.int .i64 0, .int .i64 0, .int .i64 0, .int .i64 0, .int .i64 0, .int .i64 0, .int .i64 0, .int .i64 0, .int .i64 0]) (t := 27) ?hr ?_; (case hd => rfl); (case hg => rfl); (case hr => first | (go_simp; done) | (go_simp; rfl)); intro gb120 hg w12 hbox hb; have n0_ := Aside0.mk (Kd.R_below (Kd.R_elderB (by (with_reducible repeat (first | apply Kd.R_alloc | apply Kd.R_drewN | apply Kd.R_drew)); exact HO_10.out) gb120 (Nat.le_of_eq hg.symm)) hb); have n1_ := Aside0.mk (blk_below (g := gb115) (o := .cells #[.int .i64 a0_0, .int .i64 a0_1, .int .i64 a0_2, .int .i64 a0_3, .int .i64 a0_4, .int .i64 a0_5, .int .i64 a0_6, .int .i64 a0_7, .int .i64 a0_8, .int .i64 a0_9, .int .i64 a0_10, .int .i64 a0_11, .int .i64 a0_12, .int .i64 a0_13, .int .i64 a0_14, .int .i64 a0_15, .int .i64 a0_16, .int .i64 a0_17, .int .i64 a0_18] 29 (0, 0)) (by (with_reducible repeat (first | refine blk_drewN ?_ _ | refine blk_drew ?_ | refine blk_alloc ?_ _)); exact BK115.out) hb); have n2_ := Aside0.mk (below_step (by repeat (first | (with_reducible first | exact HB.out | apply below_alloc | apply pw_below_drewN | apply below_drew1 | refine below_set ?_ GE115.out) | exact HB.out)) hb); have n3_ := Aside0.mk (hbox); have n4_ := Aside0.mk ((by rw [hg]; exact (below_size (by repeat (first | (with_reducible first | exact HB.out | apply below_alloc | apply pw_below_drewN | apply below_drew1 | refine below_set ?_ GE115.out) | exact HB.out))) : w.heap.size ≤ gb120)); have n5_ := Aside0.mk ((by rw [hg]; exact (below_size (by repeat (first | (with_reducible first | exact HB.out | apply below_alloc | apply pw_below_drewN | apply below_drew1 | refine below_set ?_ GE115.out) | exact HB.out))) : w.heap.size ≤ gb120)); have n6_ := Aside0.mk ((by rw [hg]; exact Nat.ne_of_lt (blk_lt (g := gb115) (o := .cells #[.int .i64 a0_0, .int .i64 a0_1, .int .i64 a0_2, .int .i64 a0_3, .int .i64 a0_4, .int .i64 a0_5, .int .i64 a0_6, .int .i64 a0_7, .int .i64 a0_8, .int .i64 a0_9, .int .i64 a0_10, .int .i64 a0_11, .int .i64 a0_12, .int .i64 a0_13, .int .i64 a0_14, .int .i64 a0_15, .int .i64 a0_16, .int .i64 a0_17, .int .i64 a0_18] 29 (0, 0)) (by (with_reducible repeat (first | refine blk_drewN ?_ _ | refine blk_drew ?_ | refine blk_alloc ?_ _)); exact BK115.out)) : gb115 ≠ gb120)); have n7_ := Aside0.mk ((by rw [hg]; exact Nat.ne_of_gt (blk_lt (g := gb115) (o := .cells #[.int .i64 a0_0, .int .i64 a0_1, .int .i64 a0_2, .int .i64 a0_3, .int .i64 a0_4, .int .i64 a0_5, .int .i64 a0_6, .int .i64 a0_7, .int .i64 a0_8, .int .i64 a0_9, .int .i64 a0_10, .int .i64 a0_11, .int .i64 a0_12, .int .i64 a0_13, .int .i64 a0_14, .int .i64 a0_15, .int .i64 a0_16, .int .i64 a0_17, .int .i64 a0_18] 29 (0, 0)) (by (with_reducible repeat (first | refine blk_drewN ?_ _ | refine blk_drew ?_ | refine blk_alloc ?_ _)); exact BK115.out)) : gb120 ≠ gb115)); clear HO_10; clear BK115; clear HB; have HO_10 := n0_; have BK115 := n1_; have HB := n2_; have BK120 := n3_; have GW120 := n4_; have GE120 := n5_; have NB115_120 := n6_; have NB120_115 := n7_; clear n0_ n1_ n2_ n3_ n4_ n5_ n6_ n7_; clear hb hbox hg; have hnb13 := NB120_115.out; have hnc13 := NB115_120.out; have hcz14_0 : w12.cell? ⟨gb120, 0, none⟩ = some (.int .i64 0) := (blk_cell BK120.out 0).trans rfl; have hcz14_1 : w12.cell? ⟨gb120, 1, none⟩ = some (.int .i64 0) := (blk_cell BK120.out 1).trans rfl; have hcz14_2 : w12.cell? ⟨gb120, 2, none⟩ = some (.int .i64 0) := (blk_cell BK120.out 2).trans rfl; have hcz14_3 : w12.cell? ⟨gb120, 3, none⟩ = some (.int .i64 0) := (blk_cell BK120.out 3).trans rfl; have hcz14_4 : w12.cell? ⟨gb120, 4, none⟩ = some (.int .i64 0) := (blk_cell BK120.out 4).trans rfl; have hcz14_5 : w12.cell? ⟨gb120, 5, none⟩ = some (.int .i64 0) := (blk_cell BK120.out 5).trans rfl; have hcz14_6 : w12.cell? ⟨gb120, 6, none⟩ = some (.int .i64 0) := (blk_cell BK120.out 6).trans rfl; have hcz14_7 : w12.cell? ⟨gb120, 7, none⟩ = some (.int .i64 0) := (blk_cell BK120.out 7).trans rfl; have hcz14_8 : w12.cell? ⟨gb120, 8, none⟩ = some (.int .i64 0) := (blk_cell BK120.out 8).trans rfl; have hfz14_0 := blk_frozen BK120.out 0; have hfz14_1 := blk_frozen BK120.out 1; have hfz14_2 := blk_frozen BK120.out 2; have hfz14_3 := blk_frozen BK120.out 3; have hfz14_4 := blk_frozen BK120.out 4; have hfz14_5 := blk_frozen BK120.out 5; have hfz14_6 := blk_frozen BK120.out 6; have hfz14_7 := blk_frozen BK120.out 7; have hfz14_8 := blk_frozen BK120.out 8) | ((with_reducible refine gate_callee (f := 16) rfl ?_); refine goesL_ (some 17) rfl rfl Try.func16 (by kernel_rfl) rfl #[.agg #[.int .i64 ((rd_T27 y116 x12_1).f0.f0), .int .i64 ((rd_T27 y116 x12_1).f0.f1), .int .i64 ((rd_T27 y116 x12_1).f0.f2), .int .i64 ((rd_T27 y116 x12_1).f0.f3), .int .i64 ((rd_T27 y116 x12_1).f0.f4), .int .i64 ((rd_T27 y116 x12_1).f0.f5), .int .i64 ((rd_T27 y116 x12_1).f1.f0), .int .i64 ((rd_T27 y116 x12_1).f1.f1), .int .i64 ((rd_T27 y116 x12_1).f1.f2)]] rfl (by (try simp only [List.map_toArray, List.map_cons, List.map_nil]); first | done | rfl | (simp only [List.length_drop, List.length_take]; rfl)) ?_; (with_reducible refine (closed_Check.calls ((rd_T27 y116 x12_1).f0.f0) ((rd_T27 y116 x12_1).f0.f1) ((rd_T27 y116 x12_1).f0.f2) ((rd_T27 y116 x12_1).f0.f3) ((rd_T27 y116 x12_1).f0.f4) ((rd_T27 y116 x12_1).f0.f5) ((rd_T27 y116 x12_1).f1.f0) ((rd_T27 y116 x12_1).f1.f1) ((rd_T27 y116 x12_1).f1.f2) t121 _ A10.out).mono ?_); rintro e w15 ⟨rfl, hb⟩; refine ⟨_, rfl, ?_⟩; have n0_ := Aside0.mk (Kd.R_below (by (with_reducible repeat (first | apply Kd.R_alloc | apply Kd.R_drewN | apply Kd.R_drew)); exact (Kd.R_mono (Kd.R_far (p := ⟨gb120, 8, none⟩) (Kd.R_far (p := ⟨gb120, 7, none⟩) (Kd.R_far (p := ⟨gb120, 6, none⟩) (Kd.R_far (p := ⟨gb120, 5, none⟩) (Kd.R_far (p := ⟨gb120, 4, none⟩) (Kd.R_far (p := ⟨gb120, 3, none⟩) (Kd.R_far (p := ⟨gb120, 2, none⟩) (Kd.R_far (p := ⟨gb120, 1, none⟩) (Kd.R_far (p := ⟨gb120, 0, none⟩) (Kd.R_mono HO_10.out (fun k_ hk => (⟨hk, hk.2⟩ : _ ∧ k_ ≠ gb120))) (fun _ hk => hk.2) (.int .i64 ((rd_T27 y116 x12_1).f0.f0))) (fun _ hk => hk.2) (.int .i64 ((rd_T27 y116 x12_1).f0.f1))) (fun _ hk => hk.2) (.int .i64 ((rd_T27 y116 x12_1).f0.f2))) (fun _ hk => hk.2) (.int .i64 ((rd_T27 y116 x12_1).f0.f3))) (fun _ hk => hk.2) (.int .i64 ((rd_T27 y116 x12_1).f0.f4))) (fun _ hk => hk.2) (.int .i64 ((rd_T27 y116 x12_1).f0.f5))) (fun _ hk => hk.2) (.int .i64 ((rd_T27 y116 x12_1).f1.f0))) (fun _ hk => hk.2) (.int .i64 ((rd_T27 y116 x12_1).f1.f1))) (fun _ hk => hk.2) (.int .i64 ((rd_T27 y116 x12_1).f1.f2))) (fun _ h_ => h_.1))) hb); have n1_ := Aside0.mk (blk_below (g := gb115) (o := .cells #[.int .i64 a0_0, .int .i64 a0_1, .int .i64 a0_2, .int .i64 a0_3, .int .i64 a0_4, .int .i64 a0_5, .int .i64 a0_6, .int .i64 a0_7, .int .i64 a0_8, .int .i64 a0_9, .int .i64 a0_10, .int .i64 a0_11, .int .i64 a0_12, .int .i64 a0_13, .int .i64 a0_14, .int .i64 a0_15, .int .i64 a0_16, .int .i64 a0_17, .int .i64 a0_18] 29 (0, 0)) (by (with_reducible repeat (first | refine blk_drewN ?_ _ | refine blk_drew ?_ | refine blk_alloc ?_ _)); refine blk_far ?_ NB115_120.out _; (with_reducible repeat (first | refine blk_drewN ?_ _ | refine blk_drew ?_ | refine blk_alloc ?_ _)); refine blk_far ?_ NB115_120.out _; (with_reducible repeat (first | refine blk_drewN ?_ _ | refine blk_drew ?_ | refine blk_alloc ?_ _)); refine blk_far ?_ NB115_120.out _; (with_reducible repeat (first | refine blk_drewN ?_ _ | refine blk_drew ?_ | refine blk_alloc ?_ _)); refine blk_far ?_ NB115_120.out _; (with_reducible repeat (first | refine blk_drewN ?_ _ | refine blk_drew ?_ | refine blk_alloc ?_ _)); refine blk_far ?_ NB115_120.out _; (with_reducible repeat (first | refine blk_drewN ?_ _ | refine blk_drew ?_ | refine blk_alloc ?_ _)); refine blk_far ?_ NB115_120.out _; (with_reducible repeat (first | refine blk_drewN ?_ _ | refine blk_drew ?_ | refine blk_alloc ?_ _)); refine blk_far ?_ NB115_120.out _; (with_reducible repeat (first | refine blk_drewN ?_ _ | refine blk_drew ?_ | refine blk_alloc ?_ _)); refine blk_far ?_ NB115_120.out _; (with_reducible repeat (first | refine blk_drewN ?_ _ | refine blk_drew ?_ | refine blk_alloc ?_ _)); refine blk_far ?_ NB115_120.out _; (with_reducible repeat (first | refine blk_drewN ?_ _ | refine blk_drew ?_ | refine blk_alloc ?_ _)); exact BK115.out) hb); have n2_ := Aside0.mk (blk_below (g := gb120) (o := .cells #[.int .i64 ((rd_T27 y116 x12_1).f0.f0), .int .i64 ((rd_T27 y116 x12_1).f0.f1), .int .i64 ((rd_T27 y116 x12_1).f0.f2), .int .i64 ((rd_T27 y116 x12_1).f0.f3), .int .i64 ((rd_T27 y116 x12_1).f0.f4), .int .i64 ((rd_T27 y116 x12_1).f0.f5), .int .i64 ((rd_T27 y116 x12_1).f1.f0), .int .i64 ((rd_T27 y116 x12_1).f1.f1), .int .i64 ((rd_T27 y116 x12_1).f1.f2)] 27 (0, 0)) (by (with_reducible repeat (first | refine blk_drewN ?_ _ | refine blk_drew ?_ | refine blk_alloc ?_ _)); refine blk_put (cs := #[.int .i64 ((rd_T27 y116 x12_1).f0.f0), .int .i64 ((rd_T27 y116 x12_1).f0.f1), .int .i64 ((rd_T27 y116 x12_1).f0.f2), .int .i64 ((rd_T27 y116 x12_1).f0.f3), .int .i64 ((rd_T27 y116 x12_1).f0.f4), .int .i64 ((rd_T27 y116 x12_1).f0.f5), .int .i64 ((rd_T27 y116 x12_1).f1.f0), .int .i64 ((rd_T27 y116 x12_1).f1.f1), .int .i64 0]) ?_ 8 _ rfl; (with_reducible repeat (first | refine blk_drewN ?_ _ | refine blk_drew ?_ | refine blk_alloc ?_ _)); refine blk_put (cs := #[.int .i64 ((rd_T27 y116 x12_1).f0.f0), .int .i64 ((rd_T27 y116 x12_1).f0.f1), .int .i64 ((rd_T27 y116 x12_1).f0.f2), .int .i64 ((rd_T27 y116 x12_1).f0.f3), .int .i64 ((rd_T27 y116 x12_1).f0.f4), .int .i64 ((rd_T27 y116 x12_1).f0.f5), .int .i64 ((rd_T27 y116 x12_1).f1.f0), .int .i64 0, .int .i64 0]) ?_ 7 _ rfl; (with_reducible repeat (first | refine blk_drewN ?_ _ | refine blk_drew ?_ | refine blk_alloc ?_ _)); refine blk_put (cs := #[.int .i64 ((rd_T27 y116 x12_1).f0.f0), .int .i64 ((rd_T27 y116 x12_1).f0.f1), .int .i64 ((rd_T27 y116 x12_1).f0.f2), .int .i64 ((rd_T27 y116 x12_1).f0.f3), .int .i64 ((rd_T27 y116 x12_1).f0.f4), .int .i64 ((rd_T27 y116 x12_1).f0.f5), .int .i64 0, .int .i64 0, .int .i64 0]) ?_ 6 _ rfl; (with_reducible repeat (first | refine blk_drewN ?_ _ | refine blk_drew ?_ | refine blk_alloc ?_ _)); refine blk_put (cs := #[.int .i64 ((rd_T27 y116 x12_1).f0.f0), .int .i64 ((rd_T27 y116 x12_1).f0.f1), .int .i64 ((rd_T27 y116 x12_1).f0.f2), .int .i64 ((rd_T27 y116 x12_1).f0.f3), .int .i64 ((rd_T27 y116 x12_1).f0.f4), .int .i64 0, .int .i64 0, .int .i64 0, .int .i64 0]) ?_ 5 _ rfl; (with_reducible repeat (first | refine blk_drewN ?_ _ | refine blk_drew ?_ | refine blk_alloc ?_ _)); refine blk_put (cs := #[.int .i64 ((rd_T27 y116 x12_1).f0.f0), .int .i64 ((rd_T27 y116 x12_1).f0.f1), .int .i64 ((rd_T27 y116 x12_1).f0.f2), .int .i64 ((rd_T27 y116 x12_1).f0.f3), .int .i64 0, .int .i64 0, .int .i64 0, .int .i64 0, .int .i64 0]) ?_ 4 _ rfl; (with_reducible repeat (first | refine blk_drewN ?_ _ | refine blk_drew ?_ | refine blk_alloc ?_ _)); refine blk_put (cs := #[.int .i64 ((rd_T27 y116 x12_1).f0.f0), .int .i64 ((rd_T27 y116 x12_1).f0.f1), .int .i64 ((rd_T27 y116 x12_1).f0.f2), .int .i64 0, .int .i64 0, .int .i64 0, .int .i64 0, .int .i64 0, .int .i64 0]) ?_ 3 _ rfl; (with_reducible repeat (first | refine blk_drewN ?_ _ | refine blk_drew ?_ | refine blk_alloc ?_ _)); refine blk_put (cs := #[.int .i64 ((rd_T27 y116 x12_1).f0.f0), .int .i64 ((rd_T27 y116 x12_1).f0.f1), .int .i64 0, .int .i64 0, .int .i64 0, .int .i64 0, .int .i64 0, .int .i64 0, .int .i64 0]) ?_ 2 _ rfl; (with_reducible repeat (first | refine blk_drewN ?_ _ | refine blk_drew ?_ | refine blk_alloc ?_ _)); refine blk_put (cs := #[.int .i64 ((rd_T27 y116 x12_1).f0.f0), .int .i64 0, .int .i64 0, .int .i64 0, .int .i64 0, .int .i64 0, .int .i64 0, .int .i64 0, .int .i64 0]) ?_ 1 _ rfl; (with_reducible repeat (first | refine blk_drewN ?_ _ | refine blk_drew ?_ | refine blk_alloc ?_ _)); refine blk_put (cs := #[.int .i64 0, .int .i64 0, .int .i64 0, .int .i64 0, .int .i64 0, .int .i64 0, .int .i64 0, .int .i64 0, .int .i64 0]) ?_ 0 _ rfl; (with_reducible repeat (first | refine blk_drewN ?_ _ | refine blk_drew ?_ | refine blk_alloc ?_ _)); exact BK120.out) hb); have n3_ := Aside0.mk (below_step (by repeat (first | (with_reducible first | exact HB.out | apply below_alloc | apply pw_below_drewN | apply below_drew1 | refine below_set ?_ GE115.out | refine below_set ?_ GE120.out) | exact HB.out)) hb); clear HO_10; clear BK115; clear BK120; clear HB; have HO_10 := n0_; have BK115 := n1_; have BK120 := n2_; have HB := n3_; clear n0_ n1_ n2_ n3_; (try clear hb); (try clear hb2); (try clear hk); (try clear hi)))
              go_roundg k1
              case measure => have := HK1.out; omega
              case rel => exact ⟨(wrap64 (x12_1 + 1)), (by first | rfl | (simp; done) | (simp [*]; done)), H', ⟨by have := HK1.out; omega⟩, ⟨by (with_reducible repeat (first | apply Kd.R_alloc | apply Kd.R_drewN | apply Kd.R_drew)); exact Kd.R_mono HO_10.out (fun _ hk => trivial)⟩, ⟨by (with_reducible repeat (first | refine blk_drewN ?_ _ | refine blk_drew ?_ | refine blk_alloc ?_ _)); exact BK115.out⟩, ⟨by repeat (first | (with_reducible first | exact HB.out | apply below_alloc | apply pw_below_drewN | apply below_drew1 | refine below_set ?_ GE115.out | refine below_set ?_ GE120.out) | exact HB.out)⟩⟩
            · rw [if_neg c11] at H
              have c11b0 : (t121 == 0) = false := beq_eq_false_iff_ne.mpr c11
              have c11b1 : (t121 != 0) = true := bne_iff_ne.mpr c11
              obtain rfl := Option.some.inj H
              have p119 : 0 ≤ (x12_1 : Int) := of_decide_eq_true (by first | (with_reducible assumption) | assumption)
              have q119 : x12_1 < (y116.length : Int) := of_decide_eq_true (by first | (with_reducible assumption) | assumption)
              obtain ⟨ad119, e119, hx119_0, hx119_1, hx119_2, hx119_3, hx119_4, hx119_5, hx119_6, hx119_7, hx119_8⟩ := at_T27 (Kd.R_reads' HO_10.out).2.2 x12_1 p119 q119
              cases e119
              replace p119 := eq_true p119
              replace q119 := eq_true q119
              go_wp2_with (first | ((with_reducible refine gate_dst (N := 4) rfl ?_); refine box_event ?hg (N := 4) ?hd (cs := #[.int .i64 0, .int .i64 0, .int .i64 0, .int .i64 0, .int .i64 0, .int .i64 0, .int .i64 0, .int .i64 0, .int .i64 0]) (t := 27) ?hr ?_; (case hd => rfl); (case hg => rfl); (case hr => first | (go_simp; done) | (go_simp; rfl)); intro gb120 hg w16 hbox hb; have n0_ := Aside0.mk (Kd.R_below (Kd.R_elderB (by (with_reducible repeat (first | apply Kd.R_alloc | apply Kd.R_drewN | apply Kd.R_drew)); exact HO_10.out) gb120 (Nat.le_of_eq hg.symm)) hb); have n1_ := Aside0.mk (blk_below (g := gb115) (o := .cells #[.int .i64 a0_0, .int .i64 a0_1, .int .i64 a0_2, .int .i64 a0_3, .int .i64 a0_4, .int .i64 a0_5, .int .i64 a0_6, .int .i64 a0_7, .int .i64 a0_8, .int .i64 a0_9, .int .i64 a0_10, .int .i64 a0_11, .int .i64 a0_12, .int .i64 a0_13, .int .i64 a0_14, .int .i64 a0_15, .int .i64 a0_16, .int .i64 a0_17, .int .i64 a0_18] 29 (0, 0)) (by (with_reducible repeat (first | refine blk_drewN ?_ _ | refine blk_drew ?_ | refine blk_alloc ?_ _)); exact BK115.out) hb); have n2_ := Aside0.mk (below_step (by repeat (first | (with_reducible first | exact HB.out | apply below_alloc | apply pw_below_drewN | apply below_drew1 | refine below_set ?_ GE115.out) | exact HB.out)) hb); have n3_ := Aside0.mk (hbox); have n4_ := Aside0.mk ((by rw [hg]; exact (below_size (by repeat (first | (with_reducible first | exact HB.out | apply below_alloc | apply pw_below_drewN | apply below_drew1 | refine below_set ?_ GE115.out) | exact HB.out))) : w.heap.size ≤ gb120)); have n5_ := Aside0.mk ((by rw [hg]; exact (below_size (by repeat (first | (with_reducible first | exact HB.out | apply below_alloc | apply pw_below_drewN | apply below_drew1 | refine below_set ?_ GE115.out) | exact HB.out))) : w.heap.size ≤ gb120)); have n6_ := Aside0.mk ((by rw [hg]; exact Nat.ne_of_lt (blk_lt (g := gb115) (o := .cells #[.int .i64 a0_0, .int .i64 a0_1, .int .i64 a0_2, .int .i64 a0_3, .int .i64 a0_4, .int .i64 a0_5, .int .i64 a0_6, .int .i64 a0_7, .int .i64 a0_8, .int .i64 a0_9, .int .i64 a0_10, .int .i64 a0_11, .int .i64 a0_12, .int .i64 a0_13, .int .i64 a0_14, .int .i64 a0_15, .int .i64 a0_16, .int .i64 a0_17, .int .i64 a0_18] 29 (0, 0)) (by (with_reducible repeat (first | refine blk_drewN ?_ _ | refine blk_drew ?_ | refine blk_alloc ?_ _)); exact BK115.out)) : gb115 ≠ gb120)); have n7_ := Aside0.mk ((by rw [hg]; exact Nat.ne_of_gt (blk_lt (g := gb115) (o := .cells #[.int .i64 a0_0, .int .i64 a0_1, .int .i64 a0_2, .int .i64 a0_3, .int .i64 a0_4, .int .i64 a0_5, .int .i64 a0_6, .int .i64 a0_7, .int .i64 a0_8, .int .i64 a0_9, .int .i64 a0_10, .int .i64 a0_11, .int .i64 a0_12, .int .i64 a0_13, .int .i64 a0_14, .int .i64 a0_15, .int .i64 a0_16, .int .i64 a0_17, .int .i64 a0_18] 29 (0, 0)) (by (with_reducible repeat (first | refine blk_drewN ?_ _ | refine blk_drew ?_ | refine blk_alloc ?_ _)); exact BK115.out)) : gb120 ≠ gb115)); clear HO_10; clear BK115; clear HB; have HO_10 := n0_; have BK115 := n1_; have HB := n2_; have BK120 := n3_; have GW120 := n4_; have GE120 := n5_; have NB115_120 := n6_; have NB120_115 := n7_; clear n0_ n1_ n2_ n3_ n4_ n5_ n6_ n7_; clear hb hbox hg; have hnb17 := NB120_115.out; have hnc17 := NB115_120.out; have hcz18_0 : w16.cell? ⟨gb120, 0, none⟩ = some (.int .i64 0) := (blk_cell BK120.out 0).trans rfl; have hcz18_1 : w16.cell? ⟨gb120, 1, none⟩ = some (.int .i64 0) := (blk_cell BK120.out 1).trans rfl; have hcz18_2 : w16.cell? ⟨gb120, 2, none⟩ = some (.int .i64 0) := (blk_cell BK120.out 2).trans rfl; have hcz18_3 : w16.cell? ⟨gb120, 3, none⟩ = some (.int .i64 0) := (blk_cell BK120.out 3).trans rfl; have hcz18_4 : w16.cell? ⟨gb120, 4, none⟩ = some (.int .i64 0) := (blk_cell BK120.out 4).trans rfl; have hcz18_5 : w16.cell? ⟨gb120, 5, none⟩ = some (.int .i64 0) := (blk_cell BK120.out 5).trans rfl; have hcz18_6 : w16.cell? ⟨gb120, 6, none⟩ = some (.int .i64 0) := (blk_cell BK120.out 6).trans rfl; have hcz18_7 : w16.cell? ⟨gb120, 7, none⟩ = some (.int .i64 0) := (blk_cell BK120.out 7).trans rfl; have hcz18_8 : w16.cell? ⟨gb120, 8, none⟩ = some (.int .i64 0) := (blk_cell BK120.out 8).trans rfl; have hfz18_0 := blk_frozen BK120.out 0; have hfz18_1 := blk_frozen BK120.out 1; have hfz18_2 := blk_frozen BK120.out 2; have hfz18_3 := blk_frozen BK120.out 3; have hfz18_4 := blk_frozen BK120.out 4; have hfz18_5 := blk_frozen BK120.out 5; have hfz18_6 := blk_frozen BK120.out 6; have hfz18_7 := blk_frozen BK120.out 7; have hfz18_8 := blk_frozen BK120.out 8) | ((with_reducible refine gate_callee (f := 16) rfl ?_); refine goesL_ (some 17) rfl rfl Try.func16 (by kernel_rfl) rfl #[.agg #[.int .i64 ((rd_T27 y116 x12_1).f0.f0), .int .i64 ((rd_T27 y116 x12_1).f0.f1), .int .i64 ((rd_T27 y116 x12_1).f0.f2), .int .i64 ((rd_T27 y116 x12_1).f0.f3), .int .i64 ((rd_T27 y116 x12_1).f0.f4), .int .i64 ((rd_T27 y116 x12_1).f0.f5), .int .i64 ((rd_T27 y116 x12_1).f1.f0), .int .i64 ((rd_T27 y116 x12_1).f1.f1), .int .i64 ((rd_T27 y116 x12_1).f1.f2)]] rfl (by (try simp only [List.map_toArray, List.map_cons, List.map_nil]); first | done | rfl | (simp only [List.length_drop, List.length_take]; rfl)) ?_; (with_reducible refine (closed_Check.calls ((rd_T27 y116 x12_1).f0.f0) ((rd_T27 y116 x12_1).f0.f1) ((rd_T27 y116 x12_1).f0.f2) ((rd_T27 y116 x12_1).f0.f3) ((rd_T27 y116 x12_1).f0.f4) ((rd_T27 y116 x12_1).f0.f5) ((rd_T27 y116 x12_1).f1.f0) ((rd_T27 y116 x12_1).f1.f1) ((rd_T27 y116 x12_1).f1.f2) t121 _ A10.out).mono ?_); rintro e w19 ⟨rfl, hb⟩; refine ⟨_, rfl, ?_⟩; have n0_ := Aside0.mk (Kd.R_below (by (with_reducible repeat (first | apply Kd.R_alloc | apply Kd.R_drewN | apply Kd.R_drew)); exact (Kd.R_mono (Kd.R_far (p := ⟨gb120, 8, none⟩) (Kd.R_far (p := ⟨gb120, 7, none⟩) (Kd.R_far (p := ⟨gb120, 6, none⟩) (Kd.R_far (p := ⟨gb120, 5, none⟩) (Kd.R_far (p := ⟨gb120, 4, none⟩) (Kd.R_far (p := ⟨gb120, 3, none⟩) (Kd.R_far (p := ⟨gb120, 2, none⟩) (Kd.R_far (p := ⟨gb120, 1, none⟩) (Kd.R_far (p := ⟨gb120, 0, none⟩) (Kd.R_mono HO_10.out (fun k_ hk => (⟨hk, hk.2⟩ : _ ∧ k_ ≠ gb120))) (fun _ hk => hk.2) (.int .i64 ((rd_T27 y116 x12_1).f0.f0))) (fun _ hk => hk.2) (.int .i64 ((rd_T27 y116 x12_1).f0.f1))) (fun _ hk => hk.2) (.int .i64 ((rd_T27 y116 x12_1).f0.f2))) (fun _ hk => hk.2) (.int .i64 ((rd_T27 y116 x12_1).f0.f3))) (fun _ hk => hk.2) (.int .i64 ((rd_T27 y116 x12_1).f0.f4))) (fun _ hk => hk.2) (.int .i64 ((rd_T27 y116 x12_1).f0.f5))) (fun _ hk => hk.2) (.int .i64 ((rd_T27 y116 x12_1).f1.f0))) (fun _ hk => hk.2) (.int .i64 ((rd_T27 y116 x12_1).f1.f1))) (fun _ hk => hk.2) (.int .i64 ((rd_T27 y116 x12_1).f1.f2))) (fun _ h_ => h_.1))) hb); have n1_ := Aside0.mk (blk_below (g := gb115) (o := .cells #[.int .i64 a0_0, .int .i64 a0_1, .int .i64 a0_2, .int .i64 a0_3, .int .i64 a0_4, .int .i64 a0_5, .int .i64 a0_6, .int .i64 a0_7, .int .i64 a0_8, .int .i64 a0_9, .int .i64 a0_10, .int .i64 a0_11, .int .i64 a0_12, .int .i64 a0_13, .int .i64 a0_14, .int .i64 a0_15, .int .i64 a0_16, .int .i64 a0_17, .int .i64 a0_18] 29 (0, 0)) (by (with_reducible repeat (first | refine blk_drewN ?_ _ | refine blk_drew ?_ | refine blk_alloc ?_ _)); refine blk_far ?_ NB115_120.out _; (with_reducible repeat (first | refine blk_drewN ?_ _ | refine blk_drew ?_ | refine blk_alloc ?_ _)); refine blk_far ?_ NB115_120.out _; (with_reducible repeat (first | refine blk_drewN ?_ _ | refine blk_drew ?_ | refine blk_alloc ?_ _)); refine blk_far ?_ NB115_120.out _; (with_reducible repeat (first | refine blk_drewN ?_ _ | refine blk_drew ?_ | refine blk_alloc ?_ _)); refine blk_far ?_ NB115_120.out _; (with_reducible repeat (first | refine blk_drewN ?_ _ | refine blk_drew ?_ | refine blk_alloc ?_ _)); refine blk_far ?_ NB115_120.out _; (with_reducible repeat (first | refine blk_drewN ?_ _ | refine blk_drew ?_ | refine blk_alloc ?_ _)); refine blk_far ?_ NB115_120.out _; (with_reducible repeat (first | refine blk_drewN ?_ _ | refine blk_drew ?_ | refine blk_alloc ?_ _)); refine blk_far ?_ NB115_120.out _; (with_reducible repeat (first | refine blk_drewN ?_ _ | refine blk_drew ?_ | refine blk_alloc ?_ _)); refine blk_far ?_ NB115_120.out _; (with_reducible repeat (first | refine blk_drewN ?_ _ | refine blk_drew ?_ | refine blk_alloc ?_ _)); refine blk_far ?_ NB115_120.out _; (with_reducible repeat (first | refine blk_drewN ?_ _ | refine blk_drew ?_ | refine blk_alloc ?_ _)); exact BK115.out) hb); have n2_ := Aside0.mk (blk_below (g := gb120) (o := .cells #[.int .i64 ((rd_T27 y116 x12_1).f0.f0), .int .i64 ((rd_T27 y116 x12_1).f0.f1), .int .i64 ((rd_T27 y116 x12_1).f0.f2), .int .i64 ((rd_T27 y116 x12_1).f0.f3), .int .i64 ((rd_T27 y116 x12_1).f0.f4), .int .i64 ((rd_T27 y116 x12_1).f0.f5), .int .i64 ((rd_T27 y116 x12_1).f1.f0), .int .i64 ((rd_T27 y116 x12_1).f1.f1), .int .i64 ((rd_T27 y116 x12_1).f1.f2)] 27 (0, 0)) (by (with_reducible repeat (first | refine blk_drewN ?_ _ | refine blk_drew ?_ | refine blk_alloc ?_ _)); refine blk_put (cs := #[.int .i64 ((rd_T27 y116 x12_1).f0.f0), .int .i64 ((rd_T27 y116 x12_1).f0.f1), .int .i64 ((rd_T27 y116 x12_1).f0.f2), .int .i64 ((rd_T27 y116 x12_1).f0.f3), .int .i64 ((rd_T27 y116 x12_1).f0.f4), .int .i64 ((rd_T27 y116 x12_1).f0.f5), .int .i64 ((rd_T27 y116 x12_1).f1.f0), .int .i64 ((rd_T27 y116 x12_1).f1.f1), .int .i64 0]) ?_ 8 _ rfl; (with_reducible repeat (first | refine blk_drewN ?_ _ | refine blk_drew ?_ | refine blk_alloc ?_ _)); refine blk_put (cs := #[.int .i64 ((rd_T27 y116 x12_1).f0.f0), .int .i64 ((rd_T27 y116 x12_1).f0.f1), .int .i64 ((rd_T27 y116 x12_1).f0.f2), .int .i64 ((rd_T27 y116 x12_1).f0.f3), .int .i64 ((rd_T27 y116 x12_1).f0.f4), .int .i64 ((rd_T27 y116 x12_1).f0.f5), .int .i64 ((rd_T27 y116 x12_1).f1.f0), .int .i64 0, .int .i64 0]) ?_ 7 _ rfl; (with_reducible repeat (first | refine blk_drewN ?_ _ | refine blk_drew ?_ | refine blk_alloc ?_ _)); refine blk_put (cs := #[.int .i64 ((rd_T27 y116 x12_1).f0.f0), .int .i64 ((rd_T27 y116 x12_1).f0.f1), .int .i64 ((rd_T27 y116 x12_1).f0.f2), .int .i64 ((rd_T27 y116 x12_1).f0.f3), .int .i64 ((rd_T27 y116 x12_1).f0.f4), .int .i64 ((rd_T27 y116 x12_1).f0.f5), .int .i64 0, .int .i64 0, .int .i64 0]) ?_ 6 _ rfl; (with_reducible repeat (first | refine blk_drewN ?_ _ | refine blk_drew ?_ | refine blk_alloc ?_ _)); refine blk_put (cs := #[.int .i64 ((rd_T27 y116 x12_1).f0.f0), .int .i64 ((rd_T27 y116 x12_1).f0.f1), .int .i64 ((rd_T27 y116 x12_1).f0.f2), .int .i64 ((rd_T27 y116 x12_1).f0.f3), .int .i64 ((rd_T27 y116 x12_1).f0.f4), .int .i64 0, .int .i64 0, .int .i64 0, .int .i64 0]) ?_ 5 _ rfl; (with_reducible repeat (first | refine blk_drewN ?_ _ | refine blk_drew ?_ | refine blk_alloc ?_ _)); refine blk_put (cs := #[.int .i64 ((rd_T27 y116 x12_1).f0.f0), .int .i64 ((rd_T27 y116 x12_1).f0.f1), .int .i64 ((rd_T27 y116 x12_1).f0.f2), .int .i64 ((rd_T27 y116 x12_1).f0.f3), .int .i64 0, .int .i64 0, .int .i64 0, .int .i64 0, .int .i64 0]) ?_ 4 _ rfl; (with_reducible repeat (first | refine blk_drewN ?_ _ | refine blk_drew ?_ | refine blk_alloc ?_ _)); refine blk_put (cs := #[.int .i64 ((rd_T27 y116 x12_1).f0.f0), .int .i64 ((rd_T27 y116 x12_1).f0.f1), .int .i64 ((rd_T27 y116 x12_1).f0.f2), .int .i64 0, .int .i64 0, .int .i64 0, .int .i64 0, .int .i64 0, .int .i64 0]) ?_ 3 _ rfl; (with_reducible repeat (first | refine blk_drewN ?_ _ | refine blk_drew ?_ | refine blk_alloc ?_ _)); refine blk_put (cs := #[.int .i64 ((rd_T27 y116 x12_1).f0.f0), .int .i64 ((rd_T27 y116 x12_1).f0.f1), .int .i64 0, .int .i64 0, .int .i64 0, .int .i64 0, .int .i64 0, .int .i64 0, .int .i64 0]) ?_ 2 _ rfl; (with_reducible repeat (first | refine blk_drewN ?_ _ | refine blk_drew ?_ | refine blk_alloc ?_ _)); refine blk_put (cs := #[.int .i64 ((rd_T27 y116 x12_1).f0.f0), .int .i64 0, .int .i64 0, .int .i64 0, .int .i64 0, .int .i64 0, .int .i64 0, .int .i64 0, .int .i64 0]) ?_ 1 _ rfl; (with_reducible repeat (first | refine blk_drewN ?_ _ | refine blk_drew ?_ | refine blk_alloc ?_ _)); refine blk_put (cs := #[.int .i64 0, .int .i64 0, .int .i64 0, .int .i64 0, .int .i64 0, .int .i64 0, .int .i64 0, .int .i64 0, .int .i64 0]) ?_ 0 _ rfl; (with_reducible repeat (first | refine blk_drewN ?_ _ | refine blk_drew ?_ | refine blk_alloc ?_ _)); exact BK120.out) hb); have n3_ := Aside0.mk (below_step (by repeat (first | (with_reducible first | exact HB.out | apply below_alloc | apply pw_below_drewN | apply below_drew1 | refine below_set ?_ GE115.out | refine below_set ?_ GE120.out) | exact HB.out)) hb); clear HO_10; clear BK115; clear BK120; clear HB; have HO_10 := n0_; have BK115 := n1_; have BK120 := n2_; have HB := n3_; clear n0_ n1_ n2_ n3_; (try clear hb); (try clear hb2); (try clear hk); (try clear hi)))
              go_ret
              exact ⟨by first | rfl | (simp [errW_none, errW_some] <;> rfl) | (simp [*, errW_none, errW_some] <;> rfl), by repeat (first | (with_reducible first | exact HB.out | apply below_alloc | apply pw_below_drewN | apply below_drew1 | refine below_set ?_ GE115.out | refine below_set ?_ GE120.out) | exact HB.out)⟩
          · rw [if_neg c9] at H
            exact absurd H (by simp)
        · rw [if_neg c8] at H
          exact absurd H (by simp)
      · rw [if_neg c7] at H
        have c7b0 : decide (x12_1 < (y116.length : Int)) = false := decide_eq_false c7
        clear c7
        by_cases c20 : a0_18 < (-256)
        · rw [if_pos c20] at H
          have c20b0 : decide (a0_18 < (-256)) = true := decide_eq_true c20
          clear c20
          obtain rfl := Option.some.inj H
          have hcz21_0 : wr.cell? ⟨gb115, 0, none⟩ = some (.int .i64 a0_0) := (blk_cell BK115.out 0).trans rfl
          have hcz21_1 : wr.cell? ⟨gb115, 1, none⟩ = some (.int .i64 a0_1) := (blk_cell BK115.out 1).trans rfl
          have hcz21_2 : wr.cell? ⟨gb115, 2, none⟩ = some (.int .i64 a0_2) := (blk_cell BK115.out 2).trans rfl
          have hcz21_3 : wr.cell? ⟨gb115, 3, none⟩ = some (.int .i64 a0_3) := (blk_cell BK115.out 3).trans rfl
          have hcz21_4 : wr.cell? ⟨gb115, 4, none⟩ = some (.int .i64 a0_4) := (blk_cell BK115.out 4).trans rfl
          have hcz21_5 : wr.cell? ⟨gb115, 5, none⟩ = some (.int .i64 a0_5) := (blk_cell BK115.out 5).trans rfl
          have hcz21_6 : wr.cell? ⟨gb115, 6, none⟩ = some (.int .i64 a0_6) := (blk_cell BK115.out 6).trans rfl
          have hcz21_7 : wr.cell? ⟨gb115, 7, none⟩ = some (.int .i64 a0_7) := (blk_cell BK115.out 7).trans rfl
          have hcz21_8 : wr.cell? ⟨gb115, 8, none⟩ = some (.int .i64 a0_8) := (blk_cell BK115.out 8).trans rfl
          have hcz21_9 : wr.cell? ⟨gb115, 9, none⟩ = some (.int .i64 a0_9) := (blk_cell BK115.out 9).trans rfl
          have hcz21_10 : wr.cell? ⟨gb115, 10, none⟩ = some (.int .i64 a0_10) := (blk_cell BK115.out 10).trans rfl
          have hcz21_11 : wr.cell? ⟨gb115, 11, none⟩ = some (.int .i64 a0_11) := (blk_cell BK115.out 11).trans rfl
          have hcz21_12 : wr.cell? ⟨gb115, 12, none⟩ = some (.int .i64 a0_12) := (blk_cell BK115.out 12).trans rfl
          have hcz21_13 : wr.cell? ⟨gb115, 13, none⟩ = some (.int .i64 a0_13) := (blk_cell BK115.out 13).trans rfl
          have hcz21_14 : wr.cell? ⟨gb115, 14, none⟩ = some (.int .i64 a0_14) := (blk_cell BK115.out 14).trans rfl
          have hcz21_15 : wr.cell? ⟨gb115, 15, none⟩ = some (.int .i64 a0_15) := (blk_cell BK115.out 15).trans rfl
          have hcz21_16 : wr.cell? ⟨gb115, 16, none⟩ = some (.int .i64 a0_16) := (blk_cell BK115.out 16).trans rfl
          have hcz21_17 : wr.cell? ⟨gb115, 17, none⟩ = some (.int .i64 a0_17) := (blk_cell BK115.out 17).trans rfl
          have hcz21_18 : wr.cell? ⟨gb115, 18, none⟩ = some (.int .i64 a0_18) := (blk_cell BK115.out 18).trans rfl
          have hfz21_0 := blk_frozen BK115.out 0
          have hfz21_1 := blk_frozen BK115.out 1
          have hfz21_2 := blk_frozen BK115.out 2
          have hfz21_3 := blk_frozen BK115.out 3
          have hfz21_4 := blk_frozen BK115.out 4
          have hfz21_5 := blk_frozen BK115.out 5
          have hfz21_6 := blk_frozen BK115.out 6
          have hfz21_7 := blk_frozen BK115.out 7
          have hfz21_8 := blk_frozen BK115.out 8
          have hfz21_9 := blk_frozen BK115.out 9
          have hfz21_10 := blk_frozen BK115.out 10
          have hfz21_11 := blk_frozen BK115.out 11
          have hfz21_12 := blk_frozen BK115.out 12
          have hfz21_13 := blk_frozen BK115.out 13
          have hfz21_14 := blk_frozen BK115.out 14
          have hfz21_15 := blk_frozen BK115.out 15
          have hfz21_16 := blk_frozen BK115.out 16
          have hfz21_17 := blk_frozen BK115.out 17
          have hfz21_18 := blk_frozen BK115.out 18
          go_wp2
          go_ret
          exact ⟨by first | rfl | (simp [errW_none, errW_some] <;> rfl) | (simp [*, errW_none, errW_some] <;> rfl), by repeat (first | (with_reducible first | exact HB.out | apply below_alloc | apply pw_below_drewN | apply below_drew1 | refine below_set ?_ GE115.out) | exact HB.out)⟩
        · rw [if_neg c20] at H
          have c20b0 : decide (a0_18 < (-256)) = false := decide_eq_false c20
          clear c20
          by_cases c22 : a0_18 > 256
          · rw [if_pos c22] at H
            have c22b0 : decide (256 < a0_18) = true := decide_eq_true c22
            clear c22
            obtain rfl := Option.some.inj H
            have hcz23_0 : wr.cell? ⟨gb115, 0, none⟩ = some (.int .i64 a0_0) := (blk_cell BK115.out 0).trans rfl
            have hcz23_1 : wr.cell? ⟨gb115, 1, none⟩ = some (.int .i64 a0_1) := (blk_cell BK115.out 1).trans rfl
            have hcz23_2 : wr.cell? ⟨gb115, 2, none⟩ = some (.int .i64 a0_2) := (blk_cell BK115.out 2).trans rfl
            have hcz23_3 : wr.cell? ⟨gb115, 3, none⟩ = some (.int .i64 a0_3) := (blk_cell BK115.out 3).trans rfl
            have hcz23_4 : wr.cell? ⟨gb115, 4, none⟩ = some (.int .i64 a0_4) := (blk_cell BK115.out 4).trans rfl
            have hcz23_5 : wr.cell? ⟨gb115, 5, none⟩ = some (.int .i64 a0_5) := (blk_cell BK115.out 5).trans rfl
            have hcz23_6 : wr.cell? ⟨gb115, 6, none⟩ = some (.int .i64 a0_6) := (blk_cell BK115.out 6).trans rfl
            have hcz23_7 : wr.cell? ⟨gb115, 7, none⟩ = some (.int .i64 a0_7) := (blk_cell BK115.out 7).trans rfl
            have hcz23_8 : wr.cell? ⟨gb115, 8, none⟩ = some (.int .i64 a0_8) := (blk_cell BK115.out 8).trans rfl
            have hcz23_9 : wr.cell? ⟨gb115, 9, none⟩ = some (.int .i64 a0_9) := (blk_cell BK115.out 9).trans rfl
            have hcz23_10 : wr.cell? ⟨gb115, 10, none⟩ = some (.int .i64 a0_10) := (blk_cell BK115.out 10).trans rfl
            have hcz23_11 : wr.cell? ⟨gb115, 11, none⟩ = some (.int .i64 a0_11) := (blk_cell BK115.out 11).trans rfl
            have hcz23_12 : wr.cell? ⟨gb115, 12, none⟩ = some (.int .i64 a0_12) := (blk_cell BK115.out 12).trans rfl
            have hcz23_13 : wr.cell? ⟨gb115, 13, none⟩ = some (.int .i64 a0_13) := (blk_cell BK115.out 13).trans rfl
            have hcz23_14 : wr.cell? ⟨gb115, 14, none⟩ = some (.int .i64 a0_14) := (blk_cell BK115.out 14).trans rfl
            have hcz23_15 : wr.cell? ⟨gb115, 15, none⟩ = some (.int .i64 a0_15) := (blk_cell BK115.out 15).trans rfl
            have hcz23_16 : wr.cell? ⟨gb115, 16, none⟩ = some (.int .i64 a0_16) := (blk_cell BK115.out 16).trans rfl
            have hcz23_17 : wr.cell? ⟨gb115, 17, none⟩ = some (.int .i64 a0_17) := (blk_cell BK115.out 17).trans rfl
            have hcz23_18 : wr.cell? ⟨gb115, 18, none⟩ = some (.int .i64 a0_18) := (blk_cell BK115.out 18).trans rfl
            have hfz23_0 := blk_frozen BK115.out 0
            have hfz23_1 := blk_frozen BK115.out 1
            have hfz23_2 := blk_frozen BK115.out 2
            have hfz23_3 := blk_frozen BK115.out 3
            have hfz23_4 := blk_frozen BK115.out 4
            have hfz23_5 := blk_frozen BK115.out 5
            have hfz23_6 := blk_frozen BK115.out 6
            have hfz23_7 := blk_frozen BK115.out 7
            have hfz23_8 := blk_frozen BK115.out 8
            have hfz23_9 := blk_frozen BK115.out 9
            have hfz23_10 := blk_frozen BK115.out 10
            have hfz23_11 := blk_frozen BK115.out 11
            have hfz23_12 := blk_frozen BK115.out 12
            have hfz23_13 := blk_frozen BK115.out 13
            have hfz23_14 := blk_frozen BK115.out 14
            have hfz23_15 := blk_frozen BK115.out 15
            have hfz23_16 := blk_frozen BK115.out 16
            have hfz23_17 := blk_frozen BK115.out 17
            have hfz23_18 := blk_frozen BK115.out 18
            go_wp2
            go_ret
            exact ⟨by first | rfl | (simp [errW_none, errW_some] <;> rfl) | (simp [*, errW_none, errW_some] <;> rfl), by repeat (first | (with_reducible first | exact HB.out | apply below_alloc | apply pw_below_drewN | apply below_drew1 | refine below_set ?_ GE115.out) | exact HB.out)⟩
          · rw [if_neg c22] at H
            have c22b0 : decide (256 < a0_18) = false := decide_eq_false c22
            clear c22
            obtain rfl := Option.some.inj H
            have hcz24_0 : wr.cell? ⟨gb115, 0, none⟩ = some (.int .i64 a0_0) := (blk_cell BK115.out 0).trans rfl
            have hcz24_1 : wr.cell? ⟨gb115, 1, none⟩ = some (.int .i64 a0_1) := (blk_cell BK115.out 1).trans rfl
            have hcz24_2 : wr.cell? ⟨gb115, 2, none⟩ = some (.int .i64 a0_2) := (blk_cell BK115.out 2).trans rfl
            have hcz24_3 : wr.cell? ⟨gb115, 3, none⟩ = some (.int .i64 a0_3) := (blk_cell BK115.out 3).trans rfl
            have hcz24_4 : wr.cell? ⟨gb115, 4, none⟩ = some (.int .i64 a0_4) := (blk_cell BK115.out 4).trans rfl
            have hcz24_5 : wr.cell? ⟨gb115, 5, none⟩ = some (.int .i64 a0_5) := (blk_cell BK115.out 5).trans rfl
            have hcz24_6 : wr.cell? ⟨gb115, 6, none⟩ = some (.int .i64 a0_6) := (blk_cell BK115.out 6).trans rfl
            have hcz24_7 : wr.cell? ⟨gb115, 7, none⟩ = some (.int .i64 a0_7) := (blk_cell BK115.out 7).trans rfl
            have hcz24_8 : wr.cell? ⟨gb115, 8, none⟩ = some (.int .i64 a0_8) := (blk_cell BK115.out 8).trans rfl
            have hcz24_9 : wr.cell? ⟨gb115, 9, none⟩ = some (.int .i64 a0_9) := (blk_cell BK115.out 9).trans rfl
            have hcz24_10 : wr.cell? ⟨gb115, 10, none⟩ = some (.int .i64 a0_10) := (blk_cell BK115.out 10).trans rfl
            have hcz24_11 : wr.cell? ⟨gb115, 11, none⟩ = some (.int .i64 a0_11) := (blk_cell BK115.out 11).trans rfl
            have hcz24_12 : wr.cell? ⟨gb115, 12, none⟩ = some (.int .i64 a0_12) := (blk_cell BK115.out 12).trans rfl
            have hcz24_13 : wr.cell? ⟨gb115, 13, none⟩ = some (.int .i64 a0_13) := (blk_cell BK115.out 13).trans rfl
            have hcz24_14 : wr.cell? ⟨gb115, 14, none⟩ = some (.int .i64 a0_14) := (blk_cell BK115.out 14).trans rfl
            have hcz24_15 : wr.cell? ⟨gb115, 15, none⟩ = some (.int .i64 a0_15) := (blk_cell BK115.out 15).trans rfl
            have hcz24_16 : wr.cell? ⟨gb115, 16, none⟩ = some (.int .i64 a0_16) := (blk_cell BK115.out 16).trans rfl
            have hcz24_17 : wr.cell? ⟨gb115, 17, none⟩ = some (.int .i64 a0_17) := (blk_cell BK115.out 17).trans rfl
            have hcz24_18 : wr.cell? ⟨gb115, 18, none⟩ = some (.int .i64 a0_18) := (blk_cell BK115.out 18).trans rfl
            have hfz24_0 := blk_frozen BK115.out 0
            have hfz24_1 := blk_frozen BK115.out 1
            have hfz24_2 := blk_frozen BK115.out 2
            have hfz24_3 := blk_frozen BK115.out 3
            have hfz24_4 := blk_frozen BK115.out 4
            have hfz24_5 := blk_frozen BK115.out 5
            have hfz24_6 := blk_frozen BK115.out 6
            have hfz24_7 := blk_frozen BK115.out 7
            have hfz24_8 := blk_frozen BK115.out 8
            have hfz24_9 := blk_frozen BK115.out 9
            have hfz24_10 := blk_frozen BK115.out 10
            have hfz24_11 := blk_frozen BK115.out 11
            have hfz24_12 := blk_frozen BK115.out 12
            have hfz24_13 := blk_frozen BK115.out 13
            have hfz24_14 := blk_frozen BK115.out 14
            have hfz24_15 := blk_frozen BK115.out 15
            have hfz24_16 := blk_frozen BK115.out 16
            have hfz24_17 := blk_frozen BK115.out 17
            have hfz24_18 := blk_frozen BK115.out 18
            go_wp2
            go_ret
            exact ⟨by first | rfl | (simp [errW_none, errW_some] <;> rfl) | (simp [*, errW_none, errW_some] <;> rfl), by repeat (first | (with_reducible first | exact HB.out | apply below_alloc | apply pw_below_drewN | apply below_drew1 | refine below_set ?_ GE115.out) | exact HB.out)⟩
def web_in.f (a0 : Int) (a1 : Int) (a2 : Int) : Option (Bool) := if a0 ≥ a1 then (some (decide (a0 ≤ a2))) else (some false)
set_option maxHeartbeats 8000000 in
set_option maxRecDepth 100000 in
theorem web_in.calls (a0 : Int) (a1 : Int) (a2 : Int) (r : Bool) (w : World) (h : web_in.f a0 a1 a2 = some r) :
    Calls Try.prog 10 #[.int .i64 a0, .int .i64 a1, .int .i64 a2] w fun e w' => e = .returned (.bool r) ∧ Drawn0 w w' := by
  have H : (if a0 ≥ a1 then (some (decide (a0 ≤ a2))) else (some false)) = some r := h
  clear h
  by_cases c4 : a0 ≥ a1
  · rw [if_pos c4] at H
    have c4b0 : decide (a1 ≤ a0) = true := decide_eq_true c4
    clear c4
    obtain rfl := Option.some.inj H
    go_enter Try.func10, Try.ntmps10
    go_wp2
    go_ret
    exact ⟨by first | rfl | (simp; done) | (simp [*]; done), by repeat (first | exact Drawn0.refl _ | apply Drawn0.step)⟩
  · rw [if_neg c4] at H
    have c4b0 : decide (a1 ≤ a0) = false := decide_eq_false c4
    clear c4
    obtain rfl := Option.some.inj H
    go_enter Try.func10, Try.ntmps10
    go_wp2
    go_ret
    exact ⟨by first | rfl | (simp; done) | (simp [*]; done), by repeat (first | exact Drawn0.refl _ | apply Drawn0.step)⟩
end Go.Proofs.Ytpfilkfdnjbejaa.Q
