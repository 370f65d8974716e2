/- Plain Lean functions of the Go functions, and proofs that the Go calls come to them; laid out by this session's program wip/tools/hp.py. -/
import Derived.Test.YtakoklgmhglpbaaQ0
import Derived.Test.YtakoklgmhglpbaaQ7
import Derived.Test.YtakoklgmhglpbaaQ10
import Derived.Test.YtakoklgmhglpbaaQ13
import Derived.Test.YtakoklgmhglpbaaQ15
namespace Go.Proofs.Ytakoklgmhglpbaa.Q
open Go.RowKit Go.Proofs.YtakoklgmhglpbaaW.PrintWords Go.Proofs.YtakoklgmhglpbaaW.PrintLast Go.Proofs.YtakoklgmhglpbaaW.PrintMore
attribute [local go_sem] max2_int min2_int max_two min_two max_three min_three max_four min_four   -- for this text's walks alone
set_option linter.unusedVariables false
set_option linter.unusedSimpArgs false

/-! ### papermilllaw53_PackWhere: function 6 -/
mutual
def papermilllaw53_PackWhere.l0 : Nat → List (S38) → Int → Int → Int → Int → Int → Option (Bool)
  | 0, _, _, _, _, _, _ => none
  | k + 1, x0, x1, x2, x7, x8, x10 => if x10 < x7 then (if 0 ≤ x10 then (if x10 < (x0.length : Int) then ((papermilllaw53_times.f k ((rd_T38 x0 x10).f0) x1 x2).bind fun t231 => (if t231 > 0 then (none) else (papermilllaw53_PackWhere.l0 k x0 x1 x2 x7 x8 (wrap64 (x10 + 1))))) else (none)) else (none)) else (papermilllaw53_PackWhere.l1 k x0 x1 x2 x7 x8 0)
def papermilllaw53_PackWhere.l1 : Nat → List (S38) → Int → Int → Int → Int → Int → Option (Bool)
  | 0, _, _, _, _, _, _ => none
  | k + 1, x0, x1, x2, x7, x8, x11 => if 0 ≤ x7 then (if x7 < (x0.length : Int) then (if x11 < (((rd_T38 x0 x7).f0).length : Int) then (if 0 ≤ x11 then (if x8 < (wrap64 (((rd_T43 ((rd_T38 x0 x7).f0) x11).f1.f1) - ((rd_T43 ((rd_T38 x0 x7).f0) x11).f1.f0))) then (if ((rd_T43 ((rd_T38 x0 x7).f0) x11).f0) = x1 then (if (wrap64 (((rd_T43 ((rd_T38 x0 x7).f0) x11).f1.f0) + x8)) = x2 then ((papermilllaw53_awake.f).bind fun t236 => (some t236)) else (none)) else (none)) else (if x11 ≤ (wrap64 (x11 + 1)) then (if (wrap64 (x11 + 1)) ≤ (((rd_T38 x0 x7).f0).length : Int) then ((papermilllaw53_times.f k ((((rd_T38 x0 x7).f0).take ((wrap64 (x11 + 1)) : Int).toNat).drop (x11 : Int).toNat) x1 x2).bind fun t242 => (if t242 > 0 then (none) else (papermilllaw53_PackWhere.l1 k x0 x1 x2 x7 (wrap64 (x8 - (wrap64 (((rd_T43 ((rd_T38 x0 x7).f0) x11).f1.f1) - ((rd_T43 ((rd_T38 x0 x7).f0) x11).f1.f0))))) (wrap64 (x11 + 1))))) else (none)) else (none))) else (none)) else (none)) else (none)) else (none)
end
def papermilllaw53_PackWhere.f (k : Nat) (l0 : List (S38)) (a1 : Int) (a2 : Int) : Option (Bool) := (papermilllaw53_short.f k l0).bind fun t226 => (if t226 = true then ((pack_Where.f k l0 a1 a2).bind fun bt227 => (if bt227.2.2 = 0 then (if bt227.1 < 0 then (none) else (if bt227.1 ≥ (l0.length : Int) then (none) else (if bt227.2.1 < 0 then (none) else (papermilllaw53_PackWhere.l0 k l0 a1 a2 bt227.1 bt227.2.1 0)))) else (if bt227.1 = 0 then (if bt227.2.1 = 0 then ((papermilllaw53_awake.f).bind fun t243 => (some t243)) else (none)) else (none)))) else ((papermilllaw53_awake.f).bind fun t244 => (some t244)))
theorem papermilllaw53_PackWhere.mono_l : ∀ k, (∀ y0 y1 y2 y3 y4 y5, LeO (papermilllaw53_PackWhere.l0 k y0 y1 y2 y3 y4 y5) (papermilllaw53_PackWhere.l0 (k + 1) y0 y1 y2 y3 y4 y5)) ∧ (∀ y0 y1 y2 y3 y4 y5, LeO (papermilllaw53_PackWhere.l1 k y0 y1 y2 y3 y4 y5) (papermilllaw53_PackWhere.l1 (k + 1) y0 y1 y2 y3 y4 y5))
  | 0 => ⟨fun _ _ _ _ _ _ r h => by simp [papermilllaw53_PackWhere.l0] at h, fun _ _ _ _ _ _ r h => by simp [papermilllaw53_PackWhere.l1] at h⟩
  | k + 1 => by
    obtain ⟨ih0, ih1⟩ := papermilllaw53_PackWhere.mono_l k
    refine ⟨?_, ?_⟩
    · intro y0 y1 y2 y3 y4 y5
      unfold papermilllaw53_PackWhere.l0
      repeat' first
      | (with_reducible exact ih0 _ _ _ _ _ _)
      | (with_reducible exact ih1 _ _ _ _ _ _)
      | (with_reducible exact pack_Where.mono _ _ _ _)
      | (with_reducible exact papermilllaw53_short.mono _ _)
      | (with_reducible exact papermilllaw53_times.mono _ _ _ _)
      | (with_reducible exact LeO.refl _)
      | (with_reducible exact LeO.none _)
      | (with_reducible refine LeO.ite ?_ ?_)
      | (with_reducible refine LeO.bind ?_ (fun _ => ?_))
      | exact ih0 _ _ _ _ _ _
      | exact ih1 _ _ _ _ _ _
      | exact pack_Where.mono _ _ _ _
      | exact papermilllaw53_short.mono _ _
      | exact papermilllaw53_times.mono _ _ _ _
      | exact LeO.none _
      | refine LeO.ite ?_ ?_
      | refine LeO.bind ?_ (fun _ => ?_)
    · intro y0 y1 y2 y3 y4 y5
      unfold papermilllaw53_PackWhere.l1
      repeat' first
      | (with_reducible exact ih0 _ _ _ _ _ _)
      | (with_reducible exact ih1 _ _ _ _ _ _)
      | (with_reducible exact pack_Where.mono _ _ _ _)
      | (with_reducible exact papermilllaw53_short.mono _ _)
      | (with_reducible exact papermilllaw53_times.mono _ _ _ _)
      | (with_reducible exact LeO.refl _)
      | (with_reducible exact LeO.none _)
      | (with_reducible refine LeO.ite ?_ ?_)
      | (with_reducible refine LeO.bind ?_ (fun _ => ?_))
      | exact ih0 _ _ _ _ _ _
      | exact ih1 _ _ _ _ _ _
      | exact pack_Where.mono _ _ _ _
      | exact papermilllaw53_short.mono _ _
      | exact papermilllaw53_times.mono _ _ _ _
      | exact LeO.none _
      | refine LeO.ite ?_ ?_
      | refine LeO.bind ?_ (fun _ => ?_)
theorem papermilllaw53_PackWhere.mono : ∀ a0 a1 a2 k, LeO (papermilllaw53_PackWhere.f k a0 a1 a2) (papermilllaw53_PackWhere.f (k + 1) a0 a1 a2) := by
  intro a0 a1 a2 k
  obtain ⟨ih0, ih1⟩ := papermilllaw53_PackWhere.mono_l k
  unfold papermilllaw53_PackWhere.f
  repeat' first
      | (with_reducible exact ih0 _ _ _ _ _ _)
      | (with_reducible exact ih1 _ _ _ _ _ _)
      | (with_reducible exact pack_Where.mono _ _ _ _)
      | (with_reducible exact papermilllaw53_short.mono _ _)
      | (with_reducible exact papermilllaw53_times.mono _ _ _ _)
      | (with_reducible exact LeO.refl _)
      | (with_reducible exact LeO.none _)
      | (with_reducible refine LeO.ite ?_ ?_)
      | (with_reducible refine LeO.bind ?_ (fun _ => ?_))
      | exact ih0 _ _ _ _ _ _
      | exact ih1 _ _ _ _ _ _
      | exact pack_Where.mono _ _ _ _
      | exact papermilllaw53_short.mono _ _
      | exact papermilllaw53_times.mono _ _ _ _
      | exact LeO.none _
      | refine LeO.ite ?_ ?_
      | refine LeO.bind ?_ (fun _ => ?_)
set_option maxHeartbeats 8000000 in
set_option maxRecDepth 100000 in
theorem papermilllaw53_PackWhere.calls (k : Nat) (A0 : Option Addr) (c0 : Nat) (l0 : List (S38)) (a1 : Int) (a2 : Int) (r : Bool) (w : World) (hr0 : Kd.C k38 w A0 l0.length l0) (hc0 : l0.length ≤ c0) (h : papermilllaw53_PackWhere.f k l0 a1 a2 = some r) :
    Calls Try.prog 6 #[.slice A0 l0.length c0, .int .i64 a1, .int .i64 a2] w fun e w' => e = .returned (.bool r) ∧ Below w.heap.size w w' := by
  have hu43 := Try.underlying43
  have HR0 := Aside0.mk hr0
  have HC0 := Aside0.mk hc0
  clear hr0 hc0
  have HB := Aside0.mk (Below.refl w.heap.size w)
  have H : ((papermilllaw53_short.f k l0).bind fun t226 => (if t226 = true then ((pack_Where.f k l0 a1 a2).bind fun bt227 => (if bt227.2.2 = 0 then (if bt227.1 < 0 then (none) else (if bt227.1 ≥ (l0.length : Int) then (none) else (if bt227.2.1 < 0 then (none) else (papermilllaw53_PackWhere.l0 k l0 a1 a2 bt227.1 bt227.2.1 0)))) else (if bt227.1 = 0 then (if bt227.2.1 = 0 then ((papermilllaw53_awake.f).bind fun t243 => (some t243)) else (none)) else (none)))) else ((papermilllaw53_awake.f).bind fun t244 => (some t244)))) = some r := h
  clear h
  replace H := Option.bind_eq_some_iff.mp H
  obtain ⟨t226, A40, H⟩ := H
  replace H : (if t226 = true then ((pack_Where.f k l0 a1 a2).bind fun bt227 => (if bt227.2.2 = 0 then (if bt227.1 < 0 then (none) else (if bt227.1 ≥ (l0.length : Int) then (none) else (if bt227.2.1 < 0 then (none) else (papermilllaw53_PackWhere.l0 k l0 a1 a2 bt227.1 bt227.2.1 0)))) else (if bt227.1 = 0 then (if bt227.2.1 = 0 then ((papermilllaw53_awake.f).bind fun t243 => (some t243)) else (none)) else (none)))) else ((papermilllaw53_awake.f).bind fun t244 => (some t244))) = some r := H
  have A4 := Aside0.mk A40
  clear A40
  by_cases c5 : t226 = true
  · subst c5
    have H1 : ((pack_Where.f k l0 a1 a2).bind fun bt227 => (if bt227.2.2 = 0 then (if bt227.1 < 0 then (none) else (if bt227.1 ≥ (l0.length : Int) then (none) else (if bt227.2.1 < 0 then (none) else (papermilllaw53_PackWhere.l0 k l0 a1 a2 bt227.1 bt227.2.1 0)))) else (if bt227.1 = 0 then (if bt227.2.1 = 0 then ((papermilllaw53_awake.f).bind fun t243 => (some t243)) else (none)) else (none)))) = some r := by rw [if_pos rfl] at H; exact H
    clear H
    have H := H1
    clear H1
    replace H := Option.bind_eq_some_iff.mp H
    obtain ⟨⟨t227, t228, t229⟩, A60, H⟩ := H
    replace H : (if t229 = 0 then (if t227 < 0 then (none) else (if t227 ≥ (l0.length : Int) then (none) else (if t228 < 0 then (none) else (papermilllaw53_PackWhere.l0 k l0 a1 a2 t227 t228 0)))) else (if t227 = 0 then (if t228 = 0 then ((papermilllaw53_awake.f).bind fun t243 => (some t243)) else (none)) else (none))) = some r := H
    have A6 := Aside0.mk A60
    clear A60
    by_cases c7 : t229 = 0
    · rw [if_pos c7] at H
      have c7b0 : (t229 == 0) = true := beq_iff_eq.mpr c7
      have c7b1 : (t229 != 0) = false := bne_eq_false_iff_eq.mpr c7
      clear c7
      by_cases c8 : t227 < 0
      · rw [if_pos c8] at H
        exact absurd H (by simp)
      · rw [if_neg c8] at H
        have c8b0 : decide (t227 < 0) = false := decide_eq_false c8
        clear c8
        by_cases c9 : t227 ≥ (l0.length : Int)
        · rw [if_pos c9] at H
          exact absurd H (by simp)
        · rw [if_neg c9] at H
          have c9b0 : decide ((l0.length : Int) ≤ t227) = false := decide_eq_false c9
          clear c9
          by_cases c10 : t228 < 0
          · rw [if_pos c10] at H
            exact absurd H (by simp)
          · rw [if_neg c10] at H
            have c10b0 : decide (t228 < 0) = false := decide_eq_false c10
            clear c10
            have H' := Aside0.mk H
            clear H
            go_enter Try.func6, Try.ntmps6
            go_wp2_with (first | ((with_reducible refine gate_callee (f := 15) rfl ?_); refine goesL_ (some 15) rfl rfl Try.func15 (by kernel_rfl) rfl #[.slice A0 l0.length c0] rfl (by (try simp only [List.map_toArray, List.map_cons, List.map_nil]); first | done | rfl | (simp only [List.length_drop, List.length_take]; rfl)) ?_; (with_reducible refine (papermilllaw53_short.calls k _ _ l0 true _ ?side1 ?side2 A4.out).mono ?_); (case side1 => repeat (first | exact HR0.out | (with_reducible refine Kd.C_alloc ?_ _) | (with_reducible refine Kd.C_drewN ?_ _) | (with_reducible refine Kd.C_drew ?_))); (case side2 => exact HC0.out); rintro e w' ⟨rfl, ⟨nd, rfl⟩⟩; refine ⟨_, rfl, ?_⟩) | ((with_reducible refine gate_callee (f := 16) rfl ?_); refine goesL_ (some 22) rfl rfl Try.func16 (by kernel_rfl) rfl #[.slice A0 l0.length c0, .int .i64 a1, .int .i64 a2] rfl (by (try simp only [List.map_toArray, List.map_cons, List.map_nil]); first | done | rfl | (simp only [List.length_drop, List.length_take]; rfl)) ?_; (with_reducible refine (pack_Where.calls k _ _ l0 a1 a2 t227 t228 t229 _ ?side1 ?side2 A6.out).mono ?_); (case side1 => repeat (first | exact HR0.out | (with_reducible refine Kd.C_alloc ?_ _) | (with_reducible refine Kd.C_drewN ?_ _) | (with_reducible refine Kd.C_drew ?_))); (case side2 => exact HC0.out); rintro e w11 ⟨rfl, hb⟩; refine ⟨_, rfl, ?_⟩; have n0_ := Aside0.mk (below_step (by repeat (first | (with_reducible first | exact HB.out | apply below_alloc | apply pw_below_drewN | apply below_drew1) | exact HB.out)) hb); clear HB; have HB := n0_; clear n0_; (try clear hb); (try clear hb2); (try clear hk); (try clear hi)))
            go_loopg [10] k (fun kq v10 w' => ∃ (x10_1 : Int), v10 = .int .i64 x10_1 ∧ Aside0 (papermilllaw53_PackWhere.l0 kq l0 a1 a2 t227 t228 x10_1 = some r) ∧ Aside0 (kq ≤ k) ∧ Aside0 (Below w.heap.size w w'))
            case atStart => exact ⟨(0), (by first | rfl | (simp; done) | (simp [*]; done)), H', ⟨Nat.le_refl _⟩, ⟨by repeat (first | (with_reducible first | exact HB.out | apply below_alloc | apply pw_below_drewN | apply below_drew1) | exact HB.out)⟩⟩
            case round =>
              clear H'
              try clear c1
              try clear p2
              try clear c5
              try clear c6
              try clear c7
              try clear c7b0
              try clear c7b1
              try clear c8
              try clear c8b0
              try clear c9
              try clear c9b0
              try clear c10
              try clear c10b0
              obtain ⟨x10_1, rfl, HA, HK1, HB⟩ := hrel
              cases gk with
              | zero => exact absurd HA.out (by simp [papermilllaw53_PackWhere.l0])
              | succ k1 =>
                have H := HA.out
                clear HA
                simp only [papermilllaw53_PackWhere.l0] at H
                by_cases c12 : x10_1 < t227
                · rw [if_pos c12] at H
                  have c12b0 : decide (x10_1 < t227) = true := decide_eq_true c12
                  clear c12
                  by_cases c13 : 0 ≤ x10_1
                  · rw [if_pos c13] at H
                    have c13b0 : decide (0 ≤ x10_1) = true := decide_eq_true c13
                    clear c13
                    by_cases c14 : x10_1 < (l0.length : Int)
                    · rw [if_pos c14] at H
                      have c14b0 : decide (x10_1 < (l0.length : Int)) = true := decide_eq_true c14
                      clear c14
                      replace H := Option.bind_eq_some_iff.mp H
                      obtain ⟨t231, A150, H⟩ := H
                      replace H : (if t231 > 0 then (none) else (papermilllaw53_PackWhere.l0 k1 l0 a1 a2 t227 t228 (wrap64 (x10_1 + 1)))) = some r := H
                      have A15 := Aside0.mk A150
                      clear A150
                      by_cases c16 : t231 > 0
                      · rw [if_pos c16] at H
                        exact absurd H (by simp)
                      · rw [if_neg c16] at H
                        have c16b0 : decide (0 < t231) = false := decide_eq_false c16
                        clear c16
                        have H' := Aside0.mk H
                        clear H
                        have p230 : 0 ≤ (x10_1 : Int) := of_decide_eq_true (by first | (with_reducible assumption) | assumption)
                        have q230 : x10_1 < (l0.length : Int) := of_decide_eq_true (by first | (with_reducible assumption) | assumption)
                        obtain ⟨ad230, A230_0, c230_0, e230, hx230_0, hl230_0, hi230_0⟩ := at_T38 HR0.out x10_1 p230 q230
                        cases e230
                        replace hx230_0 := (HB.out.cell (World.block_lt_of_cell? w _ hx230_0)).trans hx230_0
                        have HR230_0 := Aside0.mk hi230_0
                        have HC230_0 := Aside0.mk hl230_0
                        clear hi230_0 hl230_0
                        replace p230 := eq_true p230
                        replace q230 := eq_true q230
                        go_wp2_with (first | ((with_reducible refine gate_callee (f := 18) rfl ?_); refine goesL_ (some 61) rfl rfl Try.func18 (by kernel_rfl) rfl #[.slice A230_0 ((rd_T38 l0 x10_1).f0).length c230_0, .int .i64 a1, .int .i64 a2] rfl (by (try simp only [List.map_toArray, List.map_cons, List.map_nil]); first | done | rfl | (simp only [List.length_drop, List.length_take]; rfl)) ?_; (with_reducible refine (papermilllaw53_times.calls k1 _ _ ((rd_T38 l0 x10_1).f0) a1 a2 t231 _ ?side1 ?side2 A15.out).mono ?_); (case side1 => repeat (first | exact (Kd.C_below HR230_0.out HB.out) | (with_reducible refine Kd.C_alloc ?_ _) | (with_reducible refine Kd.C_drewN ?_ _) | (with_reducible refine Kd.C_drew ?_))); (case side2 => exact HC230_0.out); rintro e w' ⟨rfl, ⟨nd, rfl⟩⟩; refine ⟨_, rfl, ?_⟩))
                        go_roundg k1
                        case measure => have := HK1.out; omega
                        case rel => exact ⟨(wrap64 (x10_1 + 1)), (by first | rfl | (simp; done) | (simp [*]; done)), H', ⟨by have := HK1.out; omega⟩, ⟨by repeat (first | (with_reducible first | exact HB.out | apply below_alloc | apply pw_below_drewN | apply below_drew1) | exact HB.out)⟩⟩
                    · rw [if_neg c14] at H
                      exact absurd H (by simp)
                  · rw [if_neg c13] at H
                    exact absurd H (by simp)
                · rw [if_neg c12] at H
                  have c12b0 : decide (x10_1 < t227) = false := decide_eq_false c12
                  clear c12
                  have H' := Aside0.mk H
                  clear H
                  go_wp2
                  go_loopg [8, 11] k1 (fun kq v8 v11 w' => ∃ (x8_2 : Int) (x11_2 : Int), v8 = .int .i64 x8_2 ∧ v11 = .int .i64 x11_2 ∧ Aside0 (papermilllaw53_PackWhere.l1 kq l0 a1 a2 t227 x8_2 x11_2 = some r) ∧ Aside0 (kq ≤ k1) ∧ Aside0 (Below w.heap.size w w'))
                  case atStart => exact ⟨(t228), (0), (by first | rfl | (simp; done) | (simp [*]; done)), (by first | rfl | (simp; done) | (simp [*]; done)), H', ⟨Nat.le_refl _⟩, ⟨by repeat (first | (with_reducible first | exact HB.out | apply below_alloc | apply pw_below_drewN | apply below_drew1) | exact HB.out)⟩⟩
                  case round =>
                    clear H'
                    try clear c1
                    try clear c2
                    try clear p2
                    try clear q2
                    try clear hx2
                    try clear c5
                    try clear c6
                    try clear p6
                    try clear c7
                    try clear c7b0
                    try clear c7b1
                    try clear c8
                    try clear c8b0
                    try clear c9
                    try clear c9b0
                    try clear c10
                    try clear c10b0
                    try clear c12
                    try clear c12b0
                    try clear c13
                    try clear c13b0
                    try clear c14
                    try clear c14b0
                    try clear c15
                    try clear c16
                    try clear c16b0
                    try clear hx230_0
                    try clear p2
                    try clear p230
                    try clear q230
                    obtain ⟨x8_2, x11_2, rfl, rfl, HA, HK2, HB⟩ := hrel
                    cases gk with
                    | zero => exact absurd HA.out (by simp [papermilllaw53_PackWhere.l1])
                    | succ k2 =>
                      have H := HA.out
                      clear HA
                      simp only [papermilllaw53_PackWhere.l1] at H
                      by_cases c17 : 0 ≤ t227
                      · rw [if_pos c17] at H
                        have c17b0 : decide (0 ≤ t227) = true := decide_eq_true c17
                        clear c17
                        by_cases c18 : t227 < (l0.length : Int)
                        · rw [if_pos c18] at H
                          have c18b0 : decide (t227 < (l0.length : Int)) = true := decide_eq_true c18
                          clear c18
                          by_cases c19 : x11_2 < (((rd_T38 l0 t227).f0).length : Int)
                          · rw [if_pos c19] at H
                            have c19b0 : decide (x11_2 < (((rd_T38 l0 t227).f0).length : Int)) = true := decide_eq_true c19
                            clear c19
                            by_cases c20 : 0 ≤ x11_2
                            · rw [if_pos c20] at H
                              have c20b0 : decide (0 ≤ x11_2) = true := decide_eq_true c20
                              clear c20
                              by_cases c21 : x8_2 < (wrap64 (((rd_T43 ((rd_T38 l0 t227).f0) x11_2).f1.f1) - ((rd_T43 ((rd_T38 l0 t227).f0) x11_2).f1.f0)))
                              · rw [if_pos c21] at H
                                have c21b0 : decide (x8_2 < (wrap64 (((rd_T43 ((rd_T38 l0 t227).f0) x11_2).f1.f1) - ((rd_T43 ((rd_T38 l0 t227).f0) x11_2).f1.f0)))) = true := decide_eq_true c21
                                clear c21
                                by_cases c22 : ((rd_T43 ((rd_T38 l0 t227).f0) x11_2).f0) = a1
                                · rw [if_pos c22] at H
                                  have c22b0 : (((rd_T43 ((rd_T38 l0 t227).f0) x11_2).f0) == a1) = true := beq_iff_eq.mpr c22
                                  have c22b1 : (((rd_T43 ((rd_T38 l0 t227).f0) x11_2).f0) != a1) = false := bne_eq_false_iff_eq.mpr c22
                                  clear c22
                                  by_cases c23 : (wrap64 (((rd_T43 ((rd_T38 l0 t227).f0) x11_2).f1.f0) + x8_2)) = a2
                                  · rw [if_pos c23] at H
                                    have c23b0 : ((wrap64 (((rd_T43 ((rd_T38 l0 t227).f0) x11_2).f1.f0) + x8_2)) == a2) = true := beq_iff_eq.mpr c23
                                    have c23b1 : ((wrap64 (((rd_T43 ((rd_T38 l0 t227).f0) x11_2).f1.f0) + x8_2)) != a2) = false := bne_eq_false_iff_eq.mpr c23
                                    clear c23
                                    replace H := Option.bind_eq_some_iff.mp H
                                    obtain ⟨t236, A240, H⟩ := H
                                    replace H : (some t236) = some r := H
                                    have A24 := Aside0.mk A240
                                    clear A240
                                    obtain rfl := Option.some.inj H
                                    have p232 : 0 ≤ (t227 : Int) := of_decide_eq_true (by first | (with_reducible assumption) | assumption)
                                    have q232 : t227 < (l0.length : Int) := of_decide_eq_true (by first | (with_reducible assumption) | assumption)
                                    obtain ⟨ad232, A232_0, c232_0, e232, hx232_0, hl232_0, hi232_0⟩ := at_T38 HR0.out t227 p232 q232
                                    cases e232
                                    replace hx232_0 := (HB.out.cell (World.block_lt_of_cell? w _ hx232_0)).trans hx232_0
                                    have HR232_0 := Aside0.mk hi232_0
                                    have HC232_0 := Aside0.mk hl232_0
                                    clear hi232_0 hl232_0
                                    replace p232 := eq_true p232
                                    replace q232 := eq_true q232
                                    have p233 : 0 ≤ (t227 : Int) := of_decide_eq_true (by first | (with_reducible assumption) | assumption)
                                    have q233 : t227 < (l0.length : Int) := of_decide_eq_true (by first | (with_reducible assumption) | assumption)
                                    obtain ⟨ad233, A233_0, c233_0, e233, hx233_0, hl233_0, hi233_0⟩ := at_T38 HR0.out t227 p233 q233
                                    obtain rfl : ad232 = ad233 := (by injection e233)
                                    replace hx233_0 := (HB.out.cell (World.block_lt_of_cell? w _ hx233_0)).trans hx233_0
                                    have HR233_0 := Aside0.mk hi233_0
                                    have HC233_0 := Aside0.mk hl233_0
                                    clear hi233_0 hl233_0
                                    replace p233 := eq_true p233
                                    replace q233 := eq_true q233
                                    have ea_ := Option.some.inj (hx232_0.symm.trans hx233_0)
                                    injection ea_ with ea_ en_ ec_
                                    subst ea_
                                    subst ec_
                                    clear en_
                                    have p234 : 0 ≤ (x11_2 : Int) := of_decide_eq_true (by first | (with_reducible assumption) | assumption)
                                    have q234 : x11_2 < (((rd_T38 l0 t227).f0).length : Int) := of_decide_eq_true (by first | (with_reducible assumption) | assumption)
                                    obtain ⟨ad234, e234, hx234_0, hx234_1, hx234_2⟩ := at_T43 HR233_0.out x11_2 p234 q234
                                    cases e234
                                    replace hx234_0 := (HB.out.cell (World.block_lt_of_cell? w _ hx234_0)).trans hx234_0
                                    replace hx234_1 := (HB.out.cell (World.block_lt_of_cell? w _ hx234_1)).trans hx234_1
                                    replace hx234_2 := (HB.out.cell (World.block_lt_of_cell? w _ hx234_2)).trans hx234_2
                                    replace p234 := eq_true p234
                                    replace q234 := eq_true q234
                                    go_wp2_with (first | ((with_reducible refine gate_dst (N := 12) rfl ?_); (try (refine gate_guard (by rfl) ?_; dsimp only)); refine box_event ?hg (N := 12) ?hd (cs := #[.int .i64 0, .int .i64 0, .int .i64 0]) (t := 43) ?hr ?_; (case hd => rfl); (case hg => rfl); (case hr => first | (go_simp; done) | (go_simp; rfl)); intro gb235 hg w25 hbox hb; have n0_ := Aside0.mk (below_step (by repeat (first | (with_reducible first | exact HB.out | apply below_alloc | apply pw_below_drewN | apply below_drew1) | exact HB.out)) hb); have n1_ := Aside0.mk (hbox); have n2_ := Aside0.mk ((by rw [hg]; exact (below_size (by repeat (first | (with_reducible first | exact HB.out | apply below_alloc | apply pw_below_drewN | apply below_drew1) | exact HB.out))) : w.heap.size ≤ gb235)); have n3_ := Aside0.mk ((by rw [hg]; exact (below_size (by repeat (first | (with_reducible first | exact HB.out | apply below_alloc | apply pw_below_drewN | apply below_drew1) | exact HB.out))) : w.heap.size ≤ gb235)); clear HB; have HB := n0_; have BK235 := n1_; have GW235 := n2_; have GE235 := n3_; clear n0_ n1_ n2_ n3_; clear hb hbox hg; have hcz26_0 : w25.cell? ⟨gb235, 0, none⟩ = some (.int .i64 0) := (blk_cell BK235.out 0).trans rfl; have hcz26_1 : w25.cell? ⟨gb235, 1, none⟩ = some (.int .i64 0) := (blk_cell BK235.out 1).trans rfl; have hcz26_2 : w25.cell? ⟨gb235, 2, none⟩ = some (.int .i64 0) := (blk_cell BK235.out 2).trans rfl; have hfz26_0 := blk_frozen BK235.out 0; have hfz26_1 := blk_frozen BK235.out 1; have hfz26_2 := blk_frozen BK235.out 2) | (go_at_call 10; (with_reducible refine (papermilllaw53_awake.calls  t236 _ A24.out).mono ?_); rintro e w27 ⟨rfl, hb⟩; have n0_ := Aside0.mk (blk_below (g := gb235) (o := .cells #[.int .i64 ((rd_T43 ((rd_T38 l0 t227).f0) x11_2).f0), .int .i64 ((rd_T43 ((rd_T38 l0 t227).f0) x11_2).f1.f0), .int .i64 ((rd_T43 ((rd_T38 l0 t227).f0) x11_2).f1.f1)] 43 (0, 0)) (by (with_reducible repeat (first | refine blk_drewN ?_ _ | refine blk_drew ?_ | refine blk_alloc ?_ _)); refine blk_put (cs := #[.int .i64 ((rd_T43 ((rd_T38 l0 t227).f0) x11_2).f0), .int .i64 ((rd_T43 ((rd_T38 l0 t227).f0) x11_2).f1.f0), .int .i64 0]) ?_ 2 _ rfl; (with_reducible repeat (first | refine blk_drewN ?_ _ | refine blk_drew ?_ | refine blk_alloc ?_ _)); refine blk_put (cs := #[.int .i64 ((rd_T43 ((rd_T38 l0 t227).f0) x11_2).f0), .int .i64 0, .int .i64 0]) ?_ 1 _ rfl; (with_reducible repeat (first | refine blk_drewN ?_ _ | refine blk_drew ?_ | refine blk_alloc ?_ _)); refine blk_put (cs := #[.int .i64 0, .int .i64 0, .int .i64 0]) ?_ 0 _ rfl; (with_reducible repeat (first | refine blk_drewN ?_ _ | refine blk_drew ?_ | refine blk_alloc ?_ _)); exact BK235.out) hb); have n1_ := Aside0.mk (below_step (by repeat (first | (with_reducible first | exact HB.out | apply below_alloc | apply pw_below_drewN | apply below_drew1 | refine below_set ?_ GE235.out) | exact HB.out)) hb); clear BK235; clear HB; have BK235 := n0_; have HB := n1_; clear n0_ n1_; (try clear hb); (try clear hb2); (try clear hk); (try clear hi)))
                                    go_ret
                                    exact ⟨by first | rfl | (simp [errW_none, errW_some] <;> rfl) | (simp [*, errW_none, errW_some] <;> rfl), by repeat (first | (with_reducible first | exact HB.out | apply below_alloc | apply pw_below_drewN | apply below_drew1 | refine below_set ?_ GE235.out) | exact HB.out)⟩
                                  · rw [if_neg c23] at H
                                    exact absurd H (by simp)
                                · rw [if_neg c22] at H
                                  exact absurd H (by simp)
                              · rw [if_neg c21] at H
                                have c21b0 : decide (x8_2 < (wrap64 (((rd_T43 ((rd_T38 l0 t227).f0) x11_2).f1.f1) - ((rd_T43 ((rd_T38 l0 t227).f0) x11_2).f1.f0)))) = false := decide_eq_false c21
                                clear c21
                                have c28b0 := eq_true (of_decide_eq_true (by first | (with_reducible assumption) | assumption) : 0 ≤ x11_2)
                                by_cases c29 : x11_2 ≤ (wrap64 (x11_2 + 1))
                                · rw [if_pos c29] at H
                                  have c29b0 := eq_true c29
                                  have c29b1 : decide (x11_2 ≤ (wrap64 (x11_2 + 1))) = true := decide_eq_true c29
                                  by_cases c30 : (wrap64 (x11_2 + 1)) ≤ (((rd_T38 l0 t227).f0).length : Int)
                                  · rw [if_pos c30] at H
                                    have c30b0 := eq_true c30
                                    have c30b1 : decide ((wrap64 (x11_2 + 1)) ≤ (((rd_T38 l0 t227).f0).length : Int)) = true := decide_eq_true c30
                                    obtain ⟨y238, hy238⟩ : ∃ y_ : List (S43), y_ = ((((rd_T38 l0 t227).f0).take ((wrap64 (x11_2 + 1)) : Int).toNat).drop (x11_2 : Int).toNat) := ⟨_, rfl⟩
                                    replace H : ((papermilllaw53_times.f k2 y238 a1 a2).bind fun t242 => (if t242 > 0 then (none) else (papermilllaw53_PackWhere.l1 k2 l0 a1 a2 t227 (wrap64 (x8_2 - (wrap64 (((rd_T43 ((rd_T38 l0 t227).f0) x11_2).f1.f1) - ((rd_T43 ((rd_T38 l0 t227).f0) x11_2).f1.f0))))) (wrap64 (x11_2 + 1))))) = some r := by first | (rw [hy238]; with_reducible exact H) | (have H2_ := (Option.bind_some _ _).symm.trans H; rw [hy238]; with_reducible exact H2_) | (have H2_ := (Option.bind_some _ _).symm.trans H; with_reducible exact H2_) | with_reducible exact H | (rw [hy238]; exact H) | exact H
                                    have Ny238 := Aside0.mk hy238
                                    clear hy238
                                    replace H := Option.bind_eq_some_iff.mp H
                                    obtain ⟨t242, A310, H⟩ := H
                                    replace H : (if t242 > 0 then (none) else (papermilllaw53_PackWhere.l1 k2 l0 a1 a2 t227 (wrap64 (x8_2 - (wrap64 (((rd_T43 ((rd_T38 l0 t227).f0) x11_2).f1.f1) - ((rd_T43 ((rd_T38 l0 t227).f0) x11_2).f1.f0))))) (wrap64 (x11_2 + 1)))) = some r := H
                                    have A31 := Aside0.mk A310
                                    clear A310
                                    by_cases c32 : t242 > 0
                                    · rw [if_pos c32] at H
                                      exact absurd H (by simp)
                                    · rw [if_neg c32] at H
                                      have c32b0 : decide (0 < t242) = false := decide_eq_false c32
                                      clear c32
                                      have H' := Aside0.mk H
                                      clear H
                                      have p232 : 0 ≤ (t227 : Int) := of_decide_eq_true (by first | (with_reducible assumption) | assumption)
                                      have q232 : t227 < (l0.length : Int) := of_decide_eq_true (by first | (with_reducible assumption) | assumption)
                                      obtain ⟨ad232, A232_0, c232_0, e232, hx232_0, hl232_0, hi232_0⟩ := at_T38 HR0.out t227 p232 q232
                                      cases e232
                                      replace hx232_0 := (HB.out.cell (World.block_lt_of_cell? w _ hx232_0)).trans hx232_0
                                      have HR232_0 := Aside0.mk hi232_0
                                      have HC232_0 := Aside0.mk hl232_0
                                      clear hi232_0 hl232_0
                                      replace p232 := eq_true p232
                                      replace q232 := eq_true q232
                                      have p233 : 0 ≤ (t227 : Int) := of_decide_eq_true (by first | (with_reducible assumption) | assumption)
                                      have q233 : t227 < (l0.length : Int) := of_decide_eq_true (by first | (with_reducible assumption) | assumption)
                                      obtain ⟨ad233, A233_0, c233_0, e233, hx233_0, hl233_0, hi233_0⟩ := at_T38 HR0.out t227 p233 q233
                                      obtain rfl : ad232 = ad233 := (by injection e233)
                                      replace hx233_0 := (HB.out.cell (World.block_lt_of_cell? w _ hx233_0)).trans hx233_0
                                      have HR233_0 := Aside0.mk hi233_0
                                      have HC233_0 := Aside0.mk hl233_0
                                      clear hi233_0 hl233_0
                                      replace p233 := eq_true p233
                                      replace q233 := eq_true q233
                                      have ea_ := Option.some.inj (hx232_0.symm.trans hx233_0)
                                      injection ea_ with ea_ en_ ec_
                                      subst ea_
                                      subst ec_
                                      clear en_
                                      have p234 : 0 ≤ (x11_2 : Int) := of_decide_eq_true (by first | (with_reducible assumption) | assumption)
                                      have q234 : x11_2 < (((rd_T38 l0 t227).f0).length : Int) := of_decide_eq_true (by first | (with_reducible assumption) | assumption)
                                      obtain ⟨ad234, e234, hx234_0, hx234_1, hx234_2⟩ := at_T43 HR233_0.out x11_2 p234 q234
                                      cases e234
                                      replace hx234_0 := (HB.out.cell (World.block_lt_of_cell? w _ hx234_0)).trans hx234_0
                                      replace hx234_1 := (HB.out.cell (World.block_lt_of_cell? w _ hx234_1)).trans hx234_1
                                      replace hx234_2 := (HB.out.cell (World.block_lt_of_cell? w _ hx234_2)).trans hx234_2
                                      replace p234 := eq_true p234
                                      replace q234 := eq_true q234
                                      go_wp2_with (first | ((with_reducible refine gate_dst (N := 12) rfl ?_); (try (refine gate_guard (by rfl) ?_; dsimp only)); refine box_event ?hg (N := 12) ?hd (cs := #[.int .i64 0, .int .i64 0, .int .i64 0]) (t := 43) ?hr ?_; (case hd => rfl); (case hg => rfl); (case hr => first | (go_simp; done) | (go_simp; rfl)); intro gb235 hg w33 hbox hb; have n0_ := Aside0.mk (below_step (by repeat (first | (with_reducible first | exact HB.out | apply below_alloc | apply pw_below_drewN | apply below_drew1) | exact HB.out)) hb); have n1_ := Aside0.mk (hbox); have n2_ := Aside0.mk ((by rw [hg]; exact (below_size (by repeat (first | (with_reducible first | exact HB.out | apply below_alloc | apply pw_below_drewN | apply below_drew1) | exact HB.out))) : w.heap.size ≤ gb235)); have n3_ := Aside0.mk ((by rw [hg]; exact (below_size (by repeat (first | (with_reducible first | exact HB.out | apply below_alloc | apply pw_below_drewN | apply below_drew1) | exact HB.out))) : w.heap.size ≤ gb235)); clear HB; have HB := n0_; have BK235 := n1_; have GW235 := n2_; have GE235 := n3_; clear n0_ n1_ n2_ n3_; clear hb hbox hg; have hcz34_0 : w33.cell? ⟨gb235, 0, none⟩ = some (.int .i64 0) := (blk_cell BK235.out 0).trans rfl; have hcz34_1 : w33.cell? ⟨gb235, 1, none⟩ = some (.int .i64 0) := (blk_cell BK235.out 1).trans rfl; have hcz34_2 : w33.cell? ⟨gb235, 2, none⟩ = some (.int .i64 0) := (blk_cell BK235.out 2).trans rfl; have hfz34_0 := blk_frozen BK235.out 0; have hfz34_1 := blk_frozen BK235.out 1; have hfz34_2 := blk_frozen BK235.out 2) | ((with_reducible refine gate_store (t := 43) (p := 12) rfl ?_); refine store_event (t := 43) (p := 12) (v := ?vo_w35) (w1 := (((w33.setCell ⟨gb235, 0, none⟩ (.int .i64 ((rd_T43 ((rd_T38 l0 t227).f0) x11_2).f0))).setCell ⟨gb235, 1, none⟩ (.int .i64 ((rd_T43 ((rd_T38 l0 t227).f0) x11_2).f1.f0))).setCell ⟨gb235, 2, none⟩ (.int .i64 ((rd_T43 ((rd_T38 l0 t227).f0) x11_2).f1.f1)))) ?hg ?ho ?hn ?hr ?_; (case ho => rfl); (case hg => rfl); (case hn => rfl); (case hr => first | (go_simp; done) | (go_simp; rfl)); intro w35 hw; have n0_ : Aside0 (w35.heap[gb235]? = some (.cells #[.int .i64 ((rd_T43 ((rd_T38 l0 t227).f0) x11_2).f0), .int .i64 ((rd_T43 ((rd_T38 l0 t227).f0) x11_2).f1.f0), .int .i64 ((rd_T43 ((rd_T38 l0 t227).f0) x11_2).f1.f1)] 43 (0, 0))) := ⟨(by rw [hw]; exact (by (with_reducible repeat (first | refine blk_drewN ?_ _ | refine blk_drew ?_ | refine blk_alloc ?_ _)); refine blk_put (cs := #[.int .i64 ((rd_T43 ((rd_T38 l0 t227).f0) x11_2).f0), .int .i64 ((rd_T43 ((rd_T38 l0 t227).f0) x11_2).f1.f0), .int .i64 0]) ?_ 2 _ rfl; (with_reducible repeat (first | refine blk_drewN ?_ _ | refine blk_drew ?_ | refine blk_alloc ?_ _)); refine blk_put (cs := #[.int .i64 ((rd_T43 ((rd_T38 l0 t227).f0) x11_2).f0), .int .i64 0, .int .i64 0]) ?_ 1 _ rfl; (with_reducible repeat (first | refine blk_drewN ?_ _ | refine blk_drew ?_ | refine blk_alloc ?_ _)); refine blk_put (cs := #[.int .i64 0, .int .i64 0, .int .i64 0]) ?_ 0 _ rfl; (with_reducible repeat (first | refine blk_drewN ?_ _ | refine blk_drew ?_ | refine blk_alloc ?_ _)); exact BK235.out))⟩; have n1_ : Aside0 (Below w.heap.size w w35) := ⟨(by rw [hw]; exact (by repeat (first | (with_reducible first | exact HB.out | apply below_alloc | apply pw_below_drewN | apply below_drew1 | refine below_set ?_ GE235.out) | exact HB.out)))⟩; clear hw; clear BK235; clear HB; have BK235 := n0_; have HB := n1_; clear n0_ n1_; have hcz36_0 : w35.cell? ⟨gb235, 0, none⟩ = some (.int .i64 ((rd_T43 ((rd_T38 l0 t227).f0) x11_2).f0)) := (blk_cell BK235.out 0).trans rfl; have hcz36_1 : w35.cell? ⟨gb235, 1, none⟩ = some (.int .i64 ((rd_T43 ((rd_T38 l0 t227).f0) x11_2).f1.f0)) := (blk_cell BK235.out 1).trans rfl; have hcz36_2 : w35.cell? ⟨gb235, 2, none⟩ = some (.int .i64 ((rd_T43 ((rd_T38 l0 t227).f0) x11_2).f1.f1)) := (blk_cell BK235.out 2).trans rfl; have hfz36_0 := blk_frozen BK235.out 0; have hfz36_1 := blk_frozen BK235.out 1; have hfz36_2 := blk_frozen BK235.out 2; have p237 : 0 ≤ (t227 : Int) := of_decide_eq_true (by first | (with_reducible assumption) | assumption); have q237 : t227 < (l0.length : Int) := of_decide_eq_true (by first | (with_reducible assumption) | assumption); obtain ⟨ad237, A237_0, c237_0, e237, hx237_0, hl237_0, hi237_0⟩ := at_T38 HR0.out t227 p237 q237; obtain rfl : ad232 = ad237 := (by injection e237); replace hx237_0 := (HB.out.cell (World.block_lt_of_cell? w _ hx237_0)).trans hx237_0; have HR237_0 := Aside0.mk hi237_0; have HC237_0 := Aside0.mk hl237_0; clear hi237_0 hl237_0; replace p237 := eq_true p237; replace q237 := eq_true q237; have q37 : ((wrap64 (x11_2 + 1)) : Int) ≤ ((((rd_T38 l0 t227).f0).length : Int) : Int) := of_decide_eq_true (by first | (with_reducible assumption) | assumption); obtain ⟨i037, hi037, _, hsz37, _⟩ := info_parts info43; have hroom37 : ((rd_T38 l0 t227).f0).length ≤ c237_0 := HC237_0.out; have hC37 : Kd.C k43 _ A237_0 ((rd_T38 l0 t227).f0).length ((rd_T38 l0 t227).f0) := HR237_0.out; have ql37 : (x11_2 : Int) ≤ ((wrap64 (x11_2 + 1)) : Int) := of_decide_eq_true (by first | (with_reducible assumption) | assumption); have q037 : (0 : Int) ≤ (x11_2 : Int) := of_decide_eq_true (by first | (with_reducible assumption) | assumption); have hcut37 := cut_mid (P := Try.prog) 22 43 .i64 .i64 Try.underlying22 hi037 3 hsz37 A237_0 ((rd_T38 l0 t227).f0).length c237_0 x11_2 (wrap64 (x11_2 + 1)) q037 ql37 q37 hroom37; have hr37 := Kd.C_mid (lo := (x11_2 : Int).toNat) (hi := ((wrap64 (x11_2 + 1)) : Int).toNat) (c := c237_0) hC37 (by omega) (by omega) hroom37; obtain ⟨A37, hA37⟩ : ∃ A1, A1 = (if c237_0 = (x11_2 : Int).toNat then A237_0 else (A237_0 : Option Addr).map (·.add ((x11_2 : Int).toNat * 3))) := ⟨_, rfl⟩; obtain ⟨c37, hc37⟩ : ∃ c1, c1 = c237_0 - (x11_2 : Int).toNat := ⟨_, rfl⟩; have hy37 : y238.length = ((wrap64 (x11_2 + 1)) : Int).toNat - (x11_2 : Int).toNat := (by rw [Ny238.out, List.length_drop, List.length_take] <;> omega); rw [show (((rd_T38 l0 t227).f0).take ((wrap64 (x11_2 + 1)) : Int).toNat).drop (x11_2 : Int).toNat = y238 from Ny238.out.symm] at hr37; replace hr37 : Kd.C k43 _ A37 y238.length y238 := (by rw [hA37]; exact hr37); rw [← hy37, ← hA37, ← hc37] at hcut37; have HR241 := Aside0.mk hr37; have HC241 := Aside0.mk (show y238.length ≤ c37 from by rw [hy37, hc37]; exact Nat.sub_le_sub_right (Nat.le_trans (by omega) hroom37) _); clear hr37 hC37 hroom37 hi037 hsz37 hc37; have KY37 := Aside0.mk hy37; have KA37 := Aside0.mk hA37; clear hy37 hA37; replace q37 := eq_true q37) | ((with_reducible refine gate_callee (f := 18) rfl ?_); refine goesL_ (some 118) rfl rfl Try.func18 (by kernel_rfl) rfl #[.slice A37 y238.length c37, .int .i64 a1, .int .i64 a2] rfl (by (try simp only [List.map_toArray, List.map_cons, List.map_nil]); first | done | rfl | (simp only [List.length_drop, List.length_take]; rfl)) ?_; (with_reducible refine (papermilllaw53_times.calls k2 _ _ y238 a1 a2 t242 _ ?side1 ?side2 A31.out).mono ?_); (case side1 => repeat (first | exact (Kd.C_below HR241.out HB.out) | (with_reducible refine Kd.C_alloc ?_ _) | (with_reducible refine Kd.C_drewN ?_ _) | (with_reducible refine Kd.C_drew ?_))); (case side2 => exact HC241.out); rintro e w' ⟨rfl, ⟨nd, rfl⟩⟩; refine ⟨_, rfl, ?_⟩))
                                      go_roundg k2
                                      case measure => have := HK1.out; have := HK2.out; omega
                                      case rel => exact ⟨(wrap64 (x8_2 - (wrap64 (((rd_T43 ((rd_T38 l0 t227).f0) x11_2).f1.f1) - ((rd_T43 ((rd_T38 l0 t227).f0) x11_2).f1.f0))))), (wrap64 (x11_2 + 1)), (by first | rfl | (simp; done) | (simp [*]; done)), (by first | rfl | (simp; done) | (simp [*]; done)), H', ⟨by have := HK1.out; have := HK2.out; omega⟩, ⟨by repeat (first | (with_reducible first | exact HB.out | apply below_alloc | apply pw_below_drewN | apply below_drew1 | refine below_set ?_ GE235.out) | exact HB.out)⟩⟩
                                  · rw [if_neg c30] at H
                                    exact absurd H (by simp)
                                · rw [if_neg c29] at H
                                  exact absurd H (by simp)
                            · rw [if_neg c20] at H
                              exact absurd H (by simp)
                          · rw [if_neg c19] at H
                            exact absurd H (by simp)
                        · rw [if_neg c18] at H
                          exact absurd H (by simp)
                      · rw [if_neg c17] at H
                        exact absurd H (by simp)
    · rw [if_neg c7] at H
      have c7b0 : (t229 == 0) = false := beq_eq_false_iff_ne.mpr c7
      have c7b1 : (t229 != 0) = true := bne_iff_ne.mpr c7
      by_cases c38 : t227 = 0
      · rw [if_pos c38] at H
        have c38b0 : (t227 == 0) = true := beq_iff_eq.mpr c38
        have c38b1 : (t227 != 0) = false := bne_eq_false_iff_eq.mpr c38
        clear c38
        by_cases c39 : t228 = 0
        · rw [if_pos c39] at H
          have c39b0 : (t228 == 0) = true := beq_iff_eq.mpr c39
          have c39b1 : (t228 != 0) = false := bne_eq_false_iff_eq.mpr c39
          clear c39
          replace H := Option.bind_eq_some_iff.mp H
          obtain ⟨t243, A400, H⟩ := H
          replace H : (some t243) = some r := H
          have A40 := Aside0.mk A400
          clear A400
          obtain rfl := Option.some.inj H
          go_enter Try.func6, Try.ntmps6
          go_wp2_with (first | ((with_reducible refine gate_callee (f := 15) rfl ?_); refine goesL_ (some 15) rfl rfl Try.func15 (by kernel_rfl) rfl #[.slice A0 l0.length c0] rfl (by (try simp only [List.map_toArray, List.map_cons, List.map_nil]); first | done | rfl | (simp only [List.length_drop, List.length_take]; rfl)) ?_; (with_reducible refine (papermilllaw53_short.calls k _ _ l0 true _ ?side1 ?side2 A4.out).mono ?_); (case side1 => repeat (first | exact HR0.out | (with_reducible refine Kd.C_alloc ?_ _) | (with_reducible refine Kd.C_drewN ?_ _) | (with_reducible refine Kd.C_drew ?_))); (case side2 => exact HC0.out); rintro e w' ⟨rfl, ⟨nd, rfl⟩⟩; refine ⟨_, rfl, ?_⟩) | ((with_reducible refine gate_callee (f := 16) rfl ?_); refine goesL_ (some 22) rfl rfl Try.func16 (by kernel_rfl) rfl #[.slice A0 l0.length c0, .int .i64 a1, .int .i64 a2] rfl (by (try simp only [List.map_toArray, List.map_cons, List.map_nil]); first | done | rfl | (simp only [List.length_drop, List.length_take]; rfl)) ?_; (with_reducible refine (pack_Where.calls k _ _ l0 a1 a2 t227 t228 t229 _ ?side1 ?side2 A6.out).mono ?_); (case side1 => repeat (first | exact HR0.out | (with_reducible refine Kd.C_alloc ?_ _) | (with_reducible refine Kd.C_drewN ?_ _) | (with_reducible refine Kd.C_drew ?_))); (case side2 => exact HC0.out); rintro e w41 ⟨rfl, hb⟩; refine ⟨_, rfl, ?_⟩; have n0_ := Aside0.mk (below_step (by repeat (first | (with_reducible first | exact HB.out | apply below_alloc | apply pw_below_drewN | apply below_drew1) | exact HB.out)) hb); clear HB; have HB := n0_; clear n0_; (try clear hb); (try clear hb2); (try clear hk); (try clear hi)) | (go_at_call 10; (with_reducible refine (papermilllaw53_awake.calls  t243 _ A40.out).mono ?_); rintro e w42 ⟨rfl, hb⟩; have n0_ := Aside0.mk (below_step (by repeat (first | (with_reducible first | exact HB.out | apply below_alloc | apply pw_below_drewN | apply below_drew1) | exact HB.out)) hb); clear HB; have HB := n0_; clear n0_; (try clear hb); (try clear hb2); (try clear hk); (try clear hi)))
          go_ret
          exact ⟨by first | rfl | (simp [errW_none, errW_some] <;> rfl) | (simp [*, errW_none, errW_some] <;> rfl), by repeat (first | (with_reducible first | exact HB.out | apply below_alloc | apply pw_below_drewN | apply below_drew1) | exact HB.out)⟩
        · rw [if_neg c39] at H
          exact absurd H (by simp)
      · rw [if_neg c38] at H
        exact absurd H (by simp)
  · replace c5 := Bool.eq_false_iff.mpr c5
    subst c5
    have H1 : ((papermilllaw53_awake.f).bind fun t244 => (some t244)) = some r := by rw [if_neg (show ¬ (false = true) by decide)] at H; exact H
    clear H
    have H := H1
    clear H1
    replace H := Option.bind_eq_some_iff.mp H
    obtain ⟨t244, A430, H⟩ := H
    replace H : (some t244) = some r := H
    have A43 := Aside0.mk A430
    clear A430
    obtain rfl := Option.some.inj H
    go_enter Try.func6, Try.ntmps6
    go_wp2_with (first | ((with_reducible refine gate_callee (f := 15) rfl ?_); refine goesL_ (some 15) rfl rfl Try.func15 (by kernel_rfl) rfl #[.slice A0 l0.length c0] rfl (by (try simp only [List.map_toArray, List.map_cons, List.map_nil]); first | done | rfl | (simp only [List.length_drop, List.length_take]; rfl)) ?_; (with_reducible refine (papermilllaw53_short.calls k _ _ l0 false _ ?side1 ?side2 A4.out).mono ?_); (case side1 => repeat (first | exact HR0.out | (with_reducible refine Kd.C_alloc ?_ _) | (with_reducible refine Kd.C_drewN ?_ _) | (with_reducible refine Kd.C_drew ?_))); (case side2 => exact HC0.out); rintro e w' ⟨rfl, ⟨nd, rfl⟩⟩; refine ⟨_, rfl, ?_⟩) | ((with_reducible refine gate_callee (f := 10) rfl ?_); refine goesL_ (some 17) rfl rfl Try.func10 (by kernel_rfl) rfl #[] rfl (by (try simp only [List.map_toArray, List.map_cons, List.map_nil]); first | done | rfl | (simp only [List.length_drop, List.length_take]; rfl)) ?_; (with_reducible refine (papermilllaw53_awake.calls  t244 _ A43.out).mono ?_); rintro e w44 ⟨rfl, hb⟩; refine ⟨_, rfl, ?_⟩; have n0_ := Aside0.mk (below_step (by repeat (first | (with_reducible first | exact HB.out | apply below_alloc | apply pw_below_drewN | apply below_drew1) | exact HB.out)) hb); clear HB; have HB := n0_; clear n0_; (try clear hb); (try clear hb2); (try clear hk); (try clear hi)))
    go_ret
    exact ⟨by first | rfl | (simp [errW_none, errW_some] <;> rfl) | (simp [*, errW_none, errW_some] <;> rfl), by repeat (first | (with_reducible first | exact HB.out | apply below_alloc | apply pw_below_drewN | apply below_drew1) | exact HB.out)⟩

end Go.Proofs.Ytakoklgmhglpbaa.Q
