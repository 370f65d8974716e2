/- Plain Lean functions of the Go functions, and proofs that the Go calls come to them; laid out by this session's program wip/tools/hp.py. -/
import Derived.Test.YtegilakgfoglpaaQ0
import Derived.Test.YtegilakgfoglpaaQ4
import Derived.Test.YtegilakgfoglpaaQ5
import Derived.Test.YtegilakgfoglpaaQ6
import Derived.Test.YtegilakgfoglpaaQ9
namespace Go.Proofs.Ytegilakgfoglpaa.Q
open Go.RowKit Go.Proofs.YtegilakgfoglpaaW.PrintWords Go.Proofs.YtegilakgfoglpaaW.PrintLast Go.Proofs.YtegilakgfoglpaaW.PrintMore
attribute [local go_sem] max2_int min2_int max_two min_two max_three min_three max_four min_four   -- for this text's walks alone
set_option linter.unusedVariables false
set_option linter.unusedSimpArgs false

/-! ### papermillref56_total: function 38 -/
def papermillref56_total.l0 : Nat → List (S39) → List Int → Int → Int → Option (Int)
  | 0, _, _, _, _ => none
  | k + 1, x0, x1, x5, x6 => if x6 < (x1.length : Int) then (if 0 ≤ x6 then (if 0 ≤ (rd x1 x6) then (if (rd x1 x6) < (x0.length : Int) then (papermillref56_total.l0 k x0 x1 (wrap64 (x5 + ((rd_T39 x0 (rd x1 x6)).f1))) (wrap64 (x6 + 1))) else (none)) else (none)) else (none)) else (some x5)
def papermillref56_total.f (k : Nat) (l0 : List (S39)) (l1 : List Int) : Option (Int) := papermillref56_total.l0 k l0 l1 0 0
theorem papermillref56_total.mono_l : ∀ k, (∀ y0 y1 y2 y3, LeO (papermillref56_total.l0 k y0 y1 y2 y3) (papermillref56_total.l0 (k + 1) y0 y1 y2 y3))
  | 0 => fun _ _ _ _ r h => by simp [papermillref56_total.l0] at h
  | k + 1 => by
    have ih0 := papermillref56_total.mono_l k
    · intro y0 y1 y2 y3
      unfold papermillref56_total.l0
      repeat' first
      | (with_reducible exact ih0 _ _ _ _)
      | (with_reducible exact LeO.refl _)
      | (with_reducible exact LeO.none _)
      | (with_reducible refine LeO.ite ?_ ?_)
      | (with_reducible refine LeO.bind ?_ (fun _ => ?_))
      | exact ih0 _ _ _ _
      | exact LeO.none _
      | refine LeO.ite ?_ ?_
      | refine LeO.bind ?_ (fun _ => ?_)
theorem papermillref56_total.mono : ∀ a0 a1 k, LeO (papermillref56_total.f k a0 a1) (papermillref56_total.f (k + 1) a0 a1) := by
  intro a0 a1 k
  have ih0 := papermillref56_total.mono_l k
  unfold papermillref56_total.f
  repeat' first
      | (with_reducible exact ih0 _ _ _ _)
      | (with_reducible exact LeO.refl _)
      | (with_reducible exact LeO.none _)
      | (with_reducible refine LeO.ite ?_ ?_)
      | (with_reducible refine LeO.bind ?_ (fun _ => ?_))
      | exact ih0 _ _ _ _
      | exact LeO.none _
      | refine LeO.ite ?_ ?_
      | refine LeO.bind ?_ (fun _ => ?_)
set_option maxHeartbeats 8000000 in
set_option maxRecDepth 100000 in
theorem papermillref56_total.calls (k : Nat) (A0 : Option Addr) (c0 : Nat) (l0 : List (S39)) (A1 : Option Addr) (c1 : Nat) (l1 : List Int) (r : Int) (w : World) (hr0 : Kd.C k39 w A0 l0.length l0) (hc0 : l0.length ≤ c0) (hr1 : Kd.C (Kd.int .i64) w A1 l1.length l1) (hc1 : l1.length ≤ c1) (h : papermillref56_total.f k l0 l1 = some r) :
    Calls Try.prog 38 #[.slice A0 l0.length c0, .slice A1 l1.length c1] w fun e w' => e = .returned (.int .i64 r) ∧ Drawn0 w w' := by
  have HR0 := Aside0.mk hr0
  have HC0 := Aside0.mk hc0
  clear hr0 hc0
  have HR1 := Aside0.mk hr1
  have HC1 := Aside0.mk hc1
  clear hr1 hc1
  have H : (papermillref56_total.l0 k l0 l1 0 0) = some r := h
  clear h
  have H' := Aside0.mk H
  clear H
  go_enter Try.func38, Try.ntmps38
  go_wp2
  go_loopg [5, 6] k (fun kq v5 v6 w' => ∃ (x5_1 : Int) (x6_1 : Int), v5 = .int .i64 x5_1 ∧ v6 = .int .i64 x6_1 ∧ Aside0 (papermillref56_total.l0 kq l0 l1 x5_1 x6_1 = some r) ∧ Aside0 (kq ≤ k) ∧ Drawn0 w w')
  case atStart => exact ⟨(0), (0), (by first | rfl | (simp; done) | (simp [*]; done)), (by first | rfl | (simp; done) | (simp [*]; done)), H', ⟨Nat.le_refl _⟩, by repeat (first | exact Drawn0.refl _ | apply Drawn0.step)⟩
  case round =>
    clear H'
    try clear c1
    try clear p2
    obtain ⟨x5_1, x6_1, rfl, rfl, HA, HK1, ⟨m1, rfl⟩⟩ := hrel
    cases gk with
    | zero => exact absurd HA.out (by simp [papermillref56_total.l0])
    | succ k1 =>
      have H := HA.out
      clear HA
      simp only [papermillref56_total.l0] at H
      by_cases c3 : x6_1 < (l1.length : Int)
      · rw [if_pos c3] at H
        have c3b0 : decide (x6_1 < (l1.length : Int)) = true := decide_eq_true c3
        clear c3
        by_cases c4 : 0 ≤ x6_1
        · rw [if_pos c4] at H
          have c4b0 : decide (0 ≤ x6_1) = true := decide_eq_true c4
          clear c4
          by_cases c5 : 0 ≤ (rd l1 x6_1)
          · rw [if_pos c5] at H
            have c5b0 : decide (0 ≤ (rd l1 x6_1)) = true := decide_eq_true c5
            clear c5
            by_cases c6 : (rd l1 x6_1) < (l0.length : Int)
            · rw [if_pos c6] at H
              have c6b0 : decide ((rd l1 x6_1) < (l0.length : Int)) = true := decide_eq_true c6
              clear c6
              have H' := Aside0.mk H
              clear H
              have p261 : 0 ≤ (x6_1 : Int) := of_decide_eq_true (by first | (with_reducible assumption) | assumption)
              have q261 : x6_1 < (l1.length : Int) := of_decide_eq_true (by first | (with_reducible assumption) | assumption)
              obtain ⟨ad261, e261, hx261_0⟩ := Kd.at_int HR1.out x6_1 p261 q261
              cases e261
              replace p261 := eq_true p261
              replace q261 := eq_true q261
              have p262 : 0 ≤ ((rd l1 x6_1) : Int) := of_decide_eq_true (by first | (with_reducible assumption) | assumption)
              have q262 : (rd l1 x6_1) < (l0.length : Int) := of_decide_eq_true (by first | (with_reducible assumption) | assumption)
              obtain ⟨ad262, e262, hx262_0, hx262_1⟩ := at_T39 HR0.out (rd l1 x6_1) p262 q262
              cases e262
              replace p262 := eq_true p262
              replace q262 := eq_true q262
              go_wp2
              go_roundg k1
              case measure => have := HK1.out; omega
              case rel => exact ⟨(wrap64 (x5_1 + ((rd_T39 l0 (rd l1 x6_1)).f1))), (wrap64 (x6_1 + 1)), (by first | rfl | (simp; done) | (simp [*]; done)), (by first | rfl | (simp; done) | (simp [*]; done)), H', ⟨by have := HK1.out; omega⟩, by repeat (first | exact Drawn0.refl _ | apply Drawn0.step)⟩
            · rw [if_neg c6] at H
              exact absurd H (by simp)
          · rw [if_neg c5] at H
            exact absurd H (by simp)
        · rw [if_neg c4] at H
          exact absurd H (by simp)
      · rw [if_neg c3] at H
        have c3b0 : decide (x6_1 < (l1.length : Int)) = false := decide_eq_false c3
        clear c3
        obtain rfl := Option.some.inj H
        go_wp2
        go_ret
        exact ⟨by first | rfl | (simp; done) | (simp [*]; done), by repeat (first | exact Drawn0.refl _ | apply Drawn0.step)⟩

/-! ### papermillref56_with: function 39 -/
def papermillref56_with.l0 : Nat → List (List Int) → Int → Int → List (List Int) → Int → Option ((List (List Int)))
  | 0, _, _, _, _, _ => none
  | k + 1, x0, x1, x2, x7, x8 => if x8 < (x0.length : Int) then ((some (([] : List Int) : List Int)).bind fun y263 => (if 0 ≤ x8 then (if y263.length + (rd_L1 x0 x8).length < 17592186044416 then ((some (y263 ++ (rd_L1 x0 x8) : List Int)).bind fun y267 => (if x8 = x1 then (if y267.length < 17592186044416 then (if x7.length < 5864062014805 then (papermillref56_with.l0 k x0 x1 x2 (x7 ++ [(y267 ++ [x2])]) (wrap64 (x8 + 1))) else (none)) else (none)) else (if x7.length < 5864062014805 then (papermillref56_with.l0 k x0 x1 x2 (x7 ++ [y267]) (wrap64 (x8 + 1))) else (none)))) else (none)) else (none))) else (if x1 = (x0.length : Int) then (if x7.length < 5864062014805 then (some (x7 ++ [(([x2] : List Int))])) else (none)) else (some x7))
def papermillref56_with.f (k : Nat) (l0 : List (List Int)) (a1 : Int) (a2 : Int) : Option ((List (List Int))) := papermillref56_with.l0 k l0 a1 a2 ([] : List (List Int)) 0
theorem papermillref56_with.mono_l : ∀ k, (∀ y0 y1 y2 y3 y4, LeO (papermillref56_with.l0 k y0 y1 y2 y3 y4) (papermillref56_with.l0 (k + 1) y0 y1 y2 y3 y4))
  | 0 => fun _ _ _ _ _ r h => by simp [papermillref56_with.l0] at h
  | k + 1 => by
    have ih0 := papermillref56_with.mono_l k
    · intro y0 y1 y2 y3 y4
      unfold papermillref56_with.l0
      repeat' first
      | (with_reducible exact ih0 _ _ _ _ _)
      | (with_reducible exact LeO.refl _)
      | (with_reducible exact LeO.none _)
      | (with_reducible refine LeO.ite ?_ ?_)
      | (with_reducible refine LeO.bind ?_ (fun _ => ?_))
      | exact ih0 _ _ _ _ _
      | exact LeO.none _
      | refine LeO.ite ?_ ?_
      | refine LeO.bind ?_ (fun _ => ?_)
theorem papermillref56_with.mono : ∀ a0 a1 a2 k, LeO (papermillref56_with.f k a0 a1 a2) (papermillref56_with.f (k + 1) a0 a1 a2) := by
  intro a0 a1 a2 k
  have ih0 := papermillref56_with.mono_l k
  unfold papermillref56_with.f
  repeat' first
      | (with_reducible exact ih0 _ _ _ _ _)
      | (with_reducible exact LeO.refl _)
      | (with_reducible exact LeO.none _)
      | (with_reducible refine LeO.ite ?_ ?_)
      | (with_reducible refine LeO.bind ?_ (fun _ => ?_))
      | exact ih0 _ _ _ _ _
      | exact LeO.none _
      | refine LeO.ite ?_ ?_
      | refine LeO.bind ?_ (fun _ => ?_)
set_option maxHeartbeats 8000000 in
set_option maxRecDepth 100000 in
theorem papermillref56_with.calls (k : Nat) (A0 : Option Addr) (c0 : Nat) (l0 : List (List Int)) (a1 : Int) (a2 : Int) (r : List (List Int)) (w : World) (hr0 : Kd.C (Kd.slice 3 (Kd.int .i64)) w A0 l0.length l0) (hc0 : l0.length ≤ c0) (h : papermillref56_with.f k l0 a1 a2 = some r) :
    Calls Try.prog 39 #[.slice A0 l0.length c0, .int .i64 a1, .int .i64 a2] w fun e w' => ∃ v0_ : Value, e = .returned (v0_) ∧ Kd.S (Kd.slice 3 (Kd.int .i64)) 37 w' w.heap.size (fun _ => True) v0_ r ∧ Below w.heap.size w w' := by
  have HR0 := Aside0.mk hr0
  have HC0 := Aside0.mk hc0
  clear hr0 hc0
  have HB := Aside0.mk (Below.refl w.heap.size w)
  have H : (papermillref56_with.l0 k l0 a1 a2 ([] : List (List Int)) 0) = some r := h
  clear h
  have H' := Aside0.mk H
  clear H
  go_enter Try.func39, Try.ntmps39
  go_wp2
  go_loopg [7, 8] k (fun kq v7 v8 w' => ∃ (x7_1 : List (List Int)) (x8_1 : Int), v8 = .int .i64 x8_1 ∧ Aside0 (papermillref56_with.l0 kq l0 a1 a2 x7_1 x8_1 = some r) ∧ Aside0 (kq ≤ k) ∧ Aside0 (Kd.S (Kd.slice 3 (Kd.int .i64)) 37 w' w.heap.size (fun _ => True) v7 x7_1) ∧ Aside0 (Below w.heap.size w w'))
  case atStart => exact ⟨(([] : List (List Int))), (0), (by first | rfl | (simp; done) | (simp [*]; done)), H', ⟨Nat.le_refl _⟩, ⟨by first | exact Kd.S_nil _ _ _ _ _ | exact Kd.N_nil _ _ _ _ _ | exact Kd.V_nil _ _ _ _ _ | exact Kd.Q_nil _ _ _ _ _ | exact Kd.R_nil _ _ _ _ _⟩, ⟨by repeat (first | (with_reducible first | exact HB.out | apply below_alloc | apply pw_below_drewN | apply below_drew1) | exact HB.out)⟩⟩
  case round =>
    clear H'
    try clear p2
    try clear c3
    obtain ⟨x7_1, x8_1, rfl, HA, HK1, HO_7, HB⟩ := hrel
    cases gk with
    | zero => exact absurd HA.out (by simp [papermillref56_with.l0])
    | succ k1 =>
      have H := HA.out
      clear HA
      simp only [papermillref56_with.l0] at H
      by_cases c4 : x8_1 < (l0.length : Int)
      · rw [if_pos c4] at H
        have c4b0 : decide (x8_1 < (l0.length : Int)) = true := decide_eq_true c4
        clear c4
        obtain ⟨y263, hy263⟩ : ∃ y_ : List Int, y_ = (([] : List Int)) := ⟨_, rfl⟩
        replace H : (if 0 ≤ x8_1 then (if y263.length + (rd_L1 l0 x8_1).length < 17592186044416 then ((some (y263 ++ (rd_L1 l0 x8_1) : List Int)).bind fun y267 => (if x8_1 = a1 then (if y267.length < 17592186044416 then (if x7_1.length < 5864062014805 then (papermillref56_with.l0 k1 l0 a1 a2 (x7_1 ++ [(y267 ++ [a2])]) (wrap64 (x8_1 + 1))) else (none)) else (none)) else (if x7_1.length < 5864062014805 then (papermillref56_with.l0 k1 l0 a1 a2 (x7_1 ++ [y267]) (wrap64 (x8_1 + 1))) else (none)))) else (none)) else (none)) = some r := by first | (rw [hy263]; with_reducible exact H) | (have H2_ := (Option.bind_some _ _).symm.trans H; rw [hy263]; with_reducible exact H2_) | (have H2_ := (Option.bind_some _ _).symm.trans H; with_reducible exact H2_) | with_reducible exact H | (rw [hy263]; exact H) | exact H
        have Ny263 := Aside0.mk hy263
        clear hy263
        by_cases c5 : 0 ≤ x8_1
        · rw [if_pos c5] at H
          have c5b0 : decide (0 ≤ x8_1) = true := decide_eq_true c5
          clear c5
          by_cases c6 : y263.length + (rd_L1 l0 x8_1).length < 17592186044416
          · rw [if_pos c6] at H
            have LMc6 := Aside0.mk c6
            clear c6
            obtain ⟨y267, hy267⟩ : ∃ y_ : List Int, y_ = (y263 ++ (rd_L1 l0 x8_1)) := ⟨_, rfl⟩
            replace H : (if x8_1 = a1 then (if y267.length < 17592186044416 then (if x7_1.length < 5864062014805 then (papermillref56_with.l0 k1 l0 a1 a2 (x7_1 ++ [(y267 ++ [a2])]) (wrap64 (x8_1 + 1))) else (none)) else (none)) else (if x7_1.length < 5864062014805 then (papermillref56_with.l0 k1 l0 a1 a2 (x7_1 ++ [y267]) (wrap64 (x8_1 + 1))) else (none))) = some r := by first | (rw [hy267]; with_reducible exact H) | (have H2_ := (Option.bind_some _ _).symm.trans H; rw [hy267]; with_reducible exact H2_) | (have H2_ := (Option.bind_some _ _).symm.trans H; with_reducible exact H2_) | with_reducible exact H | (rw [hy267]; exact H) | exact H
            have Ny267 := Aside0.mk hy267
            clear hy267
            by_cases c7 : x8_1 = a1
            · rw [if_pos c7] at H
              have c7b0 : (x8_1 == a1) = true := beq_iff_eq.mpr c7
              have c7b1 : (x8_1 != a1) = false := bne_eq_false_iff_eq.mpr c7
              clear c7
              by_cases c8 : y267.length < 17592186044416
              · rw [if_pos c8] at H
                have LMc8 := Aside0.mk c8
                clear c8
                obtain ⟨y270, hy270⟩ : ∃ y_ : List Int, y_ = (y267 ++ [a2]) := ⟨_, rfl⟩
                replace H : (if x7_1.length < 5864062014805 then (papermillref56_with.l0 k1 l0 a1 a2 (x7_1 ++ [y270]) (wrap64 (x8_1 + 1))) else (none)) = some r := by first | (rw [hy270]; with_reducible exact H) | (have H2_ := (Option.bind_some _ _).symm.trans H; rw [hy270]; with_reducible exact H2_) | (have H2_ := (Option.bind_some _ _).symm.trans H; with_reducible exact H2_) | with_reducible exact H | (rw [hy270]; exact H) | exact H
                have Ny270 := Aside0.mk hy270
                clear hy270
                by_cases c9 : x7_1.length < 5864062014805
                · rw [if_pos c9] at H
                  have LMc9 := Aside0.mk c9
                  clear c9
                  obtain ⟨y273, hy273⟩ : ∃ y_ : List (List Int), y_ = (x7_1 ++ [y270]) := ⟨_, rfl⟩
                  replace H : (papermillref56_with.l0 k1 l0 a1 a2 y273 (wrap64 (x8_1 + 1))) = some r := by first | (rw [hy273]; with_reducible exact H) | (have H2_ := (Option.bind_some _ _).symm.trans H; rw [hy273]; with_reducible exact H2_) | (have H2_ := (Option.bind_some _ _).symm.trans H; with_reducible exact H2_) | with_reducible exact H | (rw [hy273]; exact H) | exact H
                  have Ny273 := Aside0.mk hy273
                  clear hy273
                  have H' := Aside0.mk H
                  clear H
                  go_wp2_with (first | ((with_reducible refine gate_dst (N := 16) rfl ?_); refine Kd.R_lit (Kd.int .i64) _ 3 ?hg (N := 16) ?hd (xs := ([] : List Int)) (inner := []) (ok := fun _ => True) (okp := fun _ => True) ?hr ?hp (fun _ hk => hk) trivial (Below.refl _ _) (Nat.le_refl _) (by simp) ?_; (case hd => rfl); (case hg => rfl); (case hr => first | (go_simp; done) | (go_simp; rfl)); (case hp => exact (Reps.none _ _)); intro v264 w10 ho11 hb hg_ hnew_; clear hg_ hnew_; (first | rw [← Ny263.out] at ho11 | (simp only [Int.reduceToNat] at ho11; rw [← Ny263.out] at ho11)); have n0_ := Aside0.mk (Kd.S_elder' (by (with_reducible repeat (first | apply Kd.S_alloc | apply Kd.S_drewN | apply Kd.S_drew)); exact HO_7.out) (Kd.R_base ho11) hb); have n1_ := Aside0.mk (Kd.R_lower ho11 (below_size (by repeat (first | (with_reducible first | exact HB.out | apply below_alloc | apply pw_below_drewN | apply below_drew1) | exact HB.out)))); have n2_ := Aside0.mk (below_step (by repeat (first | (with_reducible first | exact HB.out | apply below_alloc | apply pw_below_drewN | apply below_drew1) | exact HB.out)) hb); clear HO_7; clear HB; have HO_7 := n0_; have HO265 := n1_; have HB := n2_; clear n0_ n1_ n2_; clear hb ho11; have p266 : 0 ≤ (x8_1 : Int) := of_decide_eq_true (by first | (with_reducible assumption) | assumption); have q266 : x8_1 < (l0.length : Int) := of_decide_eq_true (by first | (with_reducible assumption) | assumption); obtain ⟨ad266, A266_0, c266_0, e266, hx266_0, hl266_0, hi266_0⟩ := at_L1 HR0.out x8_1 p266 q266; cases e266; replace hx266_0 := (HB.out.cell (World.block_lt_of_cell? w _ hx266_0)).trans hx266_0; have HR266_0 := Aside0.mk hi266_0; have HC266_0 := Aside0.mk hl266_0; clear hi266_0 hl266_0; replace p266 := eq_true p266; replace q266 := eq_true q266) | ((with_reducible refine gate_builtin (b := .append) (xs := #[.tmp 16, .tmp 20]) rfl ?_); at_builtin; refine Kd.R_append_rows (Kd.int .i64) (w0 := w) w.heap.size rfl (.tmp 16) (.tmp 20) 37 3 (.int .i64 0) 8 rfl Try.underlying37 info3 rfl (by decide) (by omega) v264 y263 (rd_L1 l0 x8_1) _ _ _ (fun _ => True) (fun _ => False) rfl rfl ?aO ?aR (fun _ _ h => h) (fun _ h => h.elim) ?aF ?aB ?aS ?aL ?_; (case aR => repeat (first | exact (Kd.C_below HR266_0.out HB.out) | (with_reducible refine Kd.C_alloc ?_ _) | (with_reducible refine Kd.C_drewN ?_ _) | (with_reducible refine Kd.C_drew ?_))); (case aB => exact (by repeat (first | (with_reducible first | exact HB.out | apply below_alloc | apply pw_below_drewN | apply below_drew1) | exact HB.out))); (case aF => exact (fun _ _ => trivial)); (case aO => exact (by (with_reducible repeat (first | apply Kd.R_alloc | apply Kd.R_drewN | apply Kd.R_drew)); exact HO265.out)); (case aS => exact (below_size (by repeat (first | (with_reducible first | exact HB.out | apply below_alloc | apply pw_below_drewN | apply below_drew1) | exact HB.out)))); (case aL => have := LMc6.out; omega); intro v268 w12 ho hb hg hat; rw [← Ny267.out] at ho; have n0_ := Aside0.mk (Kd.S_after (ok := (fun _ => True)) (by (with_reducible repeat (first | apply Kd.S_alloc | apply Kd.S_drewN | apply Kd.S_drew)); exact HO_7.out) hg hat); have n1_ := Aside0.mk (hb); have n2_ := Aside0.mk (ho); clear HO_7; clear HB; clear HO265; have HO_7 := n0_; have HB := n1_; have HO269 := n2_; clear n0_ n1_ n2_; clear ho hb hg hat) | ((with_reducible refine gate_builtin (b := .append) (xs := #[.tmp 25, .tmp 27]) rfl ?_); at_builtin; refine Kd.R_append (Kd.int .i64) (w0 := w) w.heap.size rfl (.tmp 25) (.tmp 27) 37 3 (.int .i64 0) 8 rfl Try.underlying37 info3 rfl (by decide) (by omega) v268 y267 a2 [.int .i64 a2] (fun _ => True) (fun _ => False) rfl rfl ?aP (fun _ hk => hk.elim) ?aF ?aO ?aB ?aS ?aL ?_; (case aP => exact rfl); (case aB => exact (by repeat (first | (with_reducible first | exact HB.out | apply below_alloc | apply pw_below_drewN | apply below_drew1) | exact HB.out))); (case aF => exact (fun _ _ => trivial)); (case aO => exact (by (with_reducible repeat (first | apply Kd.R_alloc | apply Kd.R_drewN | apply Kd.R_drew)); exact HO269.out)); (case aS => exact (below_size (by repeat (first | (with_reducible first | exact HB.out | apply below_alloc | apply pw_below_drewN | apply below_drew1) | exact HB.out)))); (case aL => have := LMc8.out; omega); intro v271 w13 ho hb hg hat; rw [← Ny270.out] at ho; have n0_ := Aside0.mk (Kd.S_after (ok := (fun _ => True)) (by (with_reducible repeat (first | apply Kd.S_alloc | apply Kd.S_drewN | apply Kd.S_drew)); exact HO_7.out) hg hat); have n1_ := Aside0.mk (hb); have n2_ := Aside0.mk (ho); clear HO_7; clear HB; clear HO269; have HO_7 := n0_; have HB := n1_; have HO272 := n2_; clear n0_ n1_ n2_; clear ho hb hg hat; obtain ⟨Ao15, co15, eo15⟩ := Kd.R_slice HO272.out; subst eo15) | ((with_reducible refine gate_builtin (b := .append) (xs := #[.tmp 29, .tmp 31]) rfl ?_); at_builtin; refine Kd.S_append (Kd.slice 3 (Kd.int .i64)) (w0 := w) w.heap.size rfl (.tmp 29) (.tmp 31) 31 37 (.slice none 0 0) 24 rfl Try.underlying31 info37 rfl (by decide) (by omega) u7 x7_1 y270 [.slice Ao15 y270.length co15] (fun _ => True) (fun k_ => some k_ = (.slice Ao15 y270.length co15 : Value).ownBlock) rfl rfl ?aP (fun k_ hk_ => ((Kd.R_mono (ok' := fun k_ => ((fun _ => True)) k_ ∧ some k_ ≠ (u7 : Value).ownBlock) (Kd.R_apart' (HO272.out) (Kd.S_typed HO_7.out) (by decide)) (fun k_ hk => ⟨trivial, hk.2⟩))).1 k_ hk_.symm) ?aF ?aO ?aB ?aS ?aL ?_; (case aP => exact Kd.M_row (Kd.R_mono (Kd.R_tight rfl (Kd.R_mono (ok' := fun k_ => ((fun _ => True)) k_ ∧ some k_ ≠ (u7 : Value).ownBlock) (Kd.R_apart' (HO272.out) (Kd.S_typed HO_7.out) (by decide)) (fun k_ hk => ⟨trivial, hk.2⟩))) (fun _ h_ => h_))); (case aB => exact (by repeat (first | (with_reducible first | exact HB.out | apply below_alloc | apply pw_below_drewN | apply below_drew1) | exact HB.out))); (case aF => exact (fun _ _ => trivial)); (case aO => exact (by (with_reducible repeat (first | apply Kd.S_alloc | apply Kd.S_drewN | apply Kd.S_drew)); exact Kd.S_mono HO_7.out (fun k_ hk => ⟨trivial, fun e_ => hk.2 e_⟩))); (case aS => exact (below_size (by repeat (first | (with_reducible first | exact HB.out | apply below_alloc | apply pw_below_drewN | apply below_drew1) | exact HB.out)))); (case aL => have := LMc9.out; omega); intro v274 w14 ho hb hg hat; rw [← Ny273.out] at ho; have n0_ := Aside0.mk (hb); have n1_ := Aside0.mk (ho); clear HB; clear HO_7; clear HO272; have HB := n0_; have HO275 := n1_; clear n0_ n1_; clear ho hb hg hat))
                  go_roundg k1
                  case measure => have := HK1.out; omega
                  case rel => exact ⟨(y273), (wrap64 (x8_1 + 1)), (by first | rfl | (simp; done) | (simp [*]; done)), H', ⟨by have := HK1.out; omega⟩, ⟨by (with_reducible repeat (first | apply Kd.S_alloc | apply Kd.S_drewN | apply Kd.S_drew)); exact HO275.out⟩, ⟨by repeat (first | (with_reducible first | exact HB.out | apply below_alloc | apply pw_below_drewN | apply below_drew1) | exact HB.out)⟩⟩
                · rw [if_neg c9] at H
                  exact absurd H (by simp)
              · rw [if_neg c8] at H
                exact absurd H (by simp)
            · rw [if_neg c7] at H
              have c7b0 : (x8_1 == a1) = false := beq_eq_false_iff_ne.mpr c7
              have c7b1 : (x8_1 != a1) = true := bne_iff_ne.mpr c7
              by_cases c16 : x7_1.length < 5864062014805
              · rw [if_pos c16] at H
                have LMc16 := Aside0.mk c16
                clear c16
                obtain ⟨y276, hy276⟩ : ∃ y_ : List (List Int), y_ = (x7_1 ++ [y267]) := ⟨_, rfl⟩
                replace H : (papermillref56_with.l0 k1 l0 a1 a2 y276 (wrap64 (x8_1 + 1))) = some r := by first | (rw [hy276]; with_reducible exact H) | (have H2_ := (Option.bind_some _ _).symm.trans H; rw [hy276]; with_reducible exact H2_) | (have H2_ := (Option.bind_some _ _).symm.trans H; with_reducible exact H2_) | with_reducible exact H | (rw [hy276]; exact H) | exact H
                have Ny276 := Aside0.mk hy276
                clear hy276
                have H' := Aside0.mk H
                clear H
                go_wp2_with (first | ((with_reducible refine gate_dst (N := 16) rfl ?_); refine Kd.R_lit (Kd.int .i64) _ 3 ?hg (N := 16) ?hd (xs := ([] : List Int)) (inner := []) (ok := fun _ => True) (okp := fun _ => True) ?hr ?hp (fun _ hk => hk) trivial (Below.refl _ _) (Nat.le_refl _) (by simp) ?_; (case hd => rfl); (case hg => rfl); (case hr => first | (go_simp; done) | (go_simp; rfl)); (case hp => exact (Reps.none _ _)); intro v264 w17 ho18 hb hg_ hnew_; clear hg_ hnew_; (first | rw [← Ny263.out] at ho18 | (simp only [Int.reduceToNat] at ho18; rw [← Ny263.out] at ho18)); have n0_ := Aside0.mk (Kd.S_elder' (by (with_reducible repeat (first | apply Kd.S_alloc | apply Kd.S_drewN | apply Kd.S_drew)); exact HO_7.out) (Kd.R_base ho18) hb); have n1_ := Aside0.mk (Kd.R_lower ho18 (below_size (by repeat (first | (with_reducible first | exact HB.out | apply below_alloc | apply pw_below_drewN | apply below_drew1) | exact HB.out)))); have n2_ := Aside0.mk (below_step (by repeat (first | (with_reducible first | exact HB.out | apply below_alloc | apply pw_below_drewN | apply below_drew1) | exact HB.out)) hb); clear HO_7; clear HB; have HO_7 := n0_; have HO265 := n1_; have HB := n2_; clear n0_ n1_ n2_; clear hb ho18; have p266 : 0 ≤ (x8_1 : Int) := of_decide_eq_true (by first | (with_reducible assumption) | assumption); have q266 : x8_1 < (l0.length : Int) := of_decide_eq_true (by first | (with_reducible assumption) | assumption); obtain ⟨ad266, A266_0, c266_0, e266, hx266_0, hl266_0, hi266_0⟩ := at_L1 HR0.out x8_1 p266 q266; cases e266; replace hx266_0 := (HB.out.cell (World.block_lt_of_cell? w _ hx266_0)).trans hx266_0; have HR266_0 := Aside0.mk hi266_0; have HC266_0 := Aside0.mk hl266_0; clear hi266_0 hl266_0; replace p266 := eq_true p266; replace q266 := eq_true q266) | ((with_reducible refine gate_builtin (b := .append) (xs := #[.tmp 16, .tmp 20]) rfl ?_); at_builtin; refine Kd.R_append_rows (Kd.int .i64) (w0 := w) w.heap.size rfl (.tmp 16) (.tmp 20) 37 3 (.int .i64 0) 8 rfl Try.underlying37 info3 rfl (by decide) (by omega) v264 y263 (rd_L1 l0 x8_1) _ _ _ (fun _ => True) (fun _ => False) rfl rfl ?aO ?aR (fun _ _ h => h) (fun _ h => h.elim) ?aF ?aB ?aS ?aL ?_; (case aR => repeat (first | exact (Kd.C_below HR266_0.out HB.out) | (with_reducible refine Kd.C_alloc ?_ _) | (with_reducible refine Kd.C_drewN ?_ _) | (with_reducible refine Kd.C_drew ?_))); (case aB => exact (by repeat (first | (with_reducible first | exact HB.out | apply below_alloc | apply pw_below_drewN | apply below_drew1) | exact HB.out))); (case aF => exact (fun _ _ => trivial)); (case aO => exact (by (with_reducible repeat (first | apply Kd.R_alloc | apply Kd.R_drewN | apply Kd.R_drew)); exact HO265.out)); (case aS => exact (below_size (by repeat (first | (with_reducible first | exact HB.out | apply below_alloc | apply pw_below_drewN | apply below_drew1) | exact HB.out)))); (case aL => have := LMc6.out; omega); intro v268 w19 ho hb hg hat; rw [← Ny267.out] at ho; have n0_ := Aside0.mk (Kd.S_after (ok := (fun _ => True)) (by (with_reducible repeat (first | apply Kd.S_alloc | apply Kd.S_drewN | apply Kd.S_drew)); exact HO_7.out) hg hat); have n1_ := Aside0.mk (hb); have n2_ := Aside0.mk (ho); clear HO_7; clear HB; clear HO265; have HO_7 := n0_; have HB := n1_; have HO269 := n2_; clear n0_ n1_ n2_; clear ho hb hg hat; obtain ⟨Ao21, co21, eo21⟩ := Kd.R_slice HO269.out; subst eo21) | ((with_reducible refine gate_builtin (b := .append) (xs := #[.tmp 29, .tmp 31]) rfl ?_); at_builtin; refine Kd.S_append (Kd.slice 3 (Kd.int .i64)) (w0 := w) w.heap.size rfl (.tmp 29) (.tmp 31) 31 37 (.slice none 0 0) 24 rfl Try.underlying31 info37 rfl (by decide) (by omega) u7 x7_1 y267 [.slice Ao21 y267.length co21] (fun _ => True) (fun k_ => some k_ = (.slice Ao21 y267.length co21 : Value).ownBlock) rfl rfl ?aP (fun k_ hk_ => ((Kd.R_mono (ok' := fun k_ => ((fun _ => True)) k_ ∧ some k_ ≠ (u7 : Value).ownBlock) (Kd.R_apart' (HO269.out) (Kd.S_typed HO_7.out) (by decide)) (fun k_ hk => ⟨trivial, hk.2⟩))).1 k_ hk_.symm) ?aF ?aO ?aB ?aS ?aL ?_; (case aP => exact Kd.M_row (Kd.R_mono (Kd.R_tight rfl (Kd.R_mono (ok' := fun k_ => ((fun _ => True)) k_ ∧ some k_ ≠ (u7 : Value).ownBlock) (Kd.R_apart' (HO269.out) (Kd.S_typed HO_7.out) (by decide)) (fun k_ hk => ⟨trivial, hk.2⟩))) (fun _ h_ => h_))); (case aB => exact (by repeat (first | (with_reducible first | exact HB.out | apply below_alloc | apply pw_below_drewN | apply below_drew1) | exact HB.out))); (case aF => exact (fun _ _ => trivial)); (case aO => exact (by (with_reducible repeat (first | apply Kd.S_alloc | apply Kd.S_drewN | apply Kd.S_drew)); exact Kd.S_mono HO_7.out (fun k_ hk => ⟨trivial, fun e_ => hk.2 e_⟩))); (case aS => exact (below_size (by repeat (first | (with_reducible first | exact HB.out | apply below_alloc | apply pw_below_drewN | apply below_drew1) | exact HB.out)))); (case aL => have := LMc16.out; omega); intro v277 w20 ho hb hg hat; rw [← Ny276.out] at ho; have n0_ := Aside0.mk (hb); have n1_ := Aside0.mk (ho); clear HB; clear HO_7; clear HO269; have HB := n0_; have HO278 := n1_; clear n0_ n1_; clear ho hb hg hat))
                go_roundg k1
                case measure => have := HK1.out; omega
                case rel => exact ⟨(y276), (wrap64 (x8_1 + 1)), (by first | rfl | (simp; done) | (simp [*]; done)), H', ⟨by have := HK1.out; omega⟩, ⟨by (with_reducible repeat (first | apply Kd.S_alloc | apply Kd.S_drewN | apply Kd.S_drew)); exact HO278.out⟩, ⟨by repeat (first | (with_reducible first | exact HB.out | apply below_alloc | apply pw_below_drewN | apply below_drew1) | exact HB.out)⟩⟩
              · rw [if_neg c16] at H
                exact absurd H (by simp)
          · rw [if_neg c6] at H
            exact absurd H (by simp)
        · rw [if_neg c5] at H
          exact absurd H (by simp)
      · rw [if_neg c4] at H
        have c4b0 : decide (x8_1 < (l0.length : Int)) = false := decide_eq_false c4
        clear c4
        by_cases c22 : a1 = (l0.length : Int)
        · rw [if_pos c22] at H
          have c22b0 : (a1 == (l0.length : Int)) = true := beq_iff_eq.mpr c22
          have c22b1 : (a1 != (l0.length : Int)) = false := bne_eq_false_iff_eq.mpr c22
          clear c22
          obtain ⟨y279, hy279⟩ : ∃ y_ : List Int, y_ = (([a2] : List Int)) := ⟨_, rfl⟩
          replace H : (if x7_1.length < 5864062014805 then (some (x7_1 ++ [y279])) else (none)) = some r := by first | (rw [hy279]; with_reducible exact H) | (have H2_ := (Option.bind_some _ _).symm.trans H; rw [hy279]; with_reducible exact H2_) | (have H2_ := (Option.bind_some _ _).symm.trans H; with_reducible exact H2_) | with_reducible exact H | (rw [hy279]; exact H) | exact H
          have Ny279 := Aside0.mk hy279
          clear hy279
          by_cases c23 : x7_1.length < 5864062014805
          · rw [if_pos c23] at H
            have LMc23 := Aside0.mk c23
            clear c23
            obtain ⟨y282, hy282⟩ : ∃ y_ : List (List Int), y_ = (x7_1 ++ [y279]) := ⟨_, rfl⟩
            replace H : (some y282) = some r := by first | (rw [hy282]; with_reducible exact H) | (have H2_ := (Option.bind_some _ _).symm.trans H; rw [hy282]; with_reducible exact H2_) | (have H2_ := (Option.bind_some _ _).symm.trans H; with_reducible exact H2_) | with_reducible exact H | (rw [hy282]; exact H) | exact H
            have Ny282 := Aside0.mk hy282
            clear hy282
            obtain rfl := Option.some.inj H
            go_wp2_with (first | ((with_reducible refine gate_dst (N := 39) rfl ?_); refine Kd.R_lit (Kd.int .i64) _ 3 ?hg (N := 39) ?hd (xs := ([a2] : List Int)) (inner := [.int .i64 a2]) (ok := fun _ => True) (okp := fun _ => True) ?hr ?hp (fun _ hk => hk) trivial (Below.refl _ _) (Nat.le_refl _) (by simp) ?_; (case hd => rfl); (case hg => rfl); (case hr => first | (go_simp; done) | (go_simp; rfl)); (case hp => exact (Reps.one (show Kd.M (Kd.int .i64) _ _ _ a2 [.int .i64 a2] from rfl) (Reps.none _ _))); intro v280 w24 ho25 hb hg_ hnew_; clear hg_ hnew_; (first | rw [← Ny279.out] at ho25 | (simp only [Int.reduceToNat] at ho25; rw [← Ny279.out] at ho25)); have n0_ := Aside0.mk (Kd.S_elder' (by (with_reducible repeat (first | apply Kd.S_alloc | apply Kd.S_drewN | apply Kd.S_drew)); exact HO_7.out) (Kd.R_base ho25) hb); have n1_ := Aside0.mk (Kd.R_lower ho25 (below_size (by repeat (first | (with_reducible first | exact HB.out | apply below_alloc | apply pw_below_drewN | apply below_drew1) | exact HB.out)))); have n2_ := Aside0.mk (below_step (by repeat (first | (with_reducible first | exact HB.out | apply below_alloc | apply pw_below_drewN | apply below_drew1) | exact HB.out)) hb); clear HO_7; clear HB; have HO_7 := n0_; have HO281 := n1_; have HB := n2_; clear n0_ n1_ n2_; clear hb ho25; obtain ⟨Ao27, co27, eo27⟩ := Kd.R_slice HO281.out; subst eo27) | ((with_reducible refine gate_builtin (b := .append) (xs := #[.tmp 37, .tmp 40]) rfl ?_); at_builtin; refine Kd.S_append (Kd.slice 3 (Kd.int .i64)) (w0 := w) w.heap.size rfl (.tmp 37) (.tmp 40) 31 37 (.slice none 0 0) 24 rfl Try.underlying31 info37 rfl (by decide) (by omega) u7 x7_1 y279 [.slice Ao27 y279.length co27] (fun _ => True) (fun k_ => some k_ = (.slice Ao27 y279.length co27 : Value).ownBlock) rfl rfl ?aP (fun k_ hk_ => ((Kd.R_mono (ok' := fun k_ => ((fun _ => True)) k_ ∧ some k_ ≠ (u7 : Value).ownBlock) (Kd.R_apart' (HO281.out) (Kd.S_typed HO_7.out) (by decide)) (fun k_ hk => ⟨trivial, hk.2⟩))).1 k_ hk_.symm) ?aF ?aO ?aB ?aS ?aL ?_; (case aP => exact Kd.M_row (Kd.R_mono (Kd.R_tight rfl (Kd.R_mono (ok' := fun k_ => ((fun _ => True)) k_ ∧ some k_ ≠ (u7 : Value).ownBlock) (Kd.R_apart' (HO281.out) (Kd.S_typed HO_7.out) (by decide)) (fun k_ hk => ⟨trivial, hk.2⟩))) (fun _ h_ => h_))); (case aB => exact (by repeat (first | (with_reducible first | exact HB.out | apply below_alloc | apply pw_below_drewN | apply below_drew1) | exact HB.out))); (case aF => exact (fun _ _ => trivial)); (case aO => exact (by (with_reducible repeat (first | apply Kd.S_alloc | apply Kd.S_drewN | apply Kd.S_drew)); exact Kd.S_mono HO_7.out (fun k_ hk => ⟨trivial, fun e_ => hk.2 e_⟩))); (case aS => exact (below_size (by repeat (first | (with_reducible first | exact HB.out | apply below_alloc | apply pw_below_drewN | apply below_drew1) | exact HB.out)))); (case aL => have := LMc23.out; omega); intro v283 w26 ho hb hg hat; rw [← Ny282.out] at ho; have n0_ := Aside0.mk (hb); have n1_ := Aside0.mk (ho); clear HB; clear HO_7; clear HO281; have HB := n0_; have HO284 := n1_; clear n0_ n1_; clear ho hb hg hat))
            go_ret
            exact ⟨_, by first | rfl | (simp [errW_none, errW_some] <;> rfl) | (simp [*, errW_none, errW_some] <;> rfl), by (with_reducible repeat (first | apply Kd.S_alloc | apply Kd.S_drewN | apply Kd.S_drew)); exact HO284.out, by repeat (first | (with_reducible first | exact HB.out | apply below_alloc | apply pw_below_drewN | apply below_drew1) | exact HB.out)⟩
          · rw [if_neg c23] at H
            exact absurd H (by simp)
        · rw [if_neg c22] at H
          have c22b0 : (a1 == (l0.length : Int)) = false := beq_eq_false_iff_ne.mpr c22
          have c22b1 : (a1 != (l0.length : Int)) = true := bne_iff_ne.mpr c22
          obtain rfl := Option.some.inj H
          go_wp2
          go_ret
          exact ⟨_, by first | rfl | (simp [errW_none, errW_some] <;> rfl) | (simp [*, errW_none, errW_some] <;> rfl), by (with_reducible repeat (first | apply Kd.S_alloc | apply Kd.S_drewN | apply Kd.S_drew)); exact HO_7.out, by repeat (first | (with_reducible first | exact HB.out | apply below_alloc | apply pw_below_drewN | apply below_drew1) | exact HB.out)⟩

/-! ### papermillref56_load: function 35, by hand -/
/-- The trucks for a parcel, one after the other. -/
def rloadL (rec : List (List Int) → Option (List (List Int) × Bool)) (k : Nat) (l : List S39) (most many : Int) (trucks : List (List Int)) (at_ : Int) : Nat → Int → Option (List (List Int) × Bool)
  | 0, _ => none
  | j + 1, kk => if kk ≤ (trucks.length : Int) then (if kk < many then (papermillref56_with.f k trucks kk at_).bind fun x => if kk < (x.length : Int) then (papermillref56_total.f k l (rd_L1 x kk)).bind fun t => if t > most then rloadL rec k l most many trucks at_ j (kk + 1) else (rec x).bind fun y => if y.2 = true then some (y.1, true) else rloadL rec k l most many trucks at_ j (kk + 1) else none else some ([], false)) else some ([], false)
/-- A loading is completed; the fuel is what is left. -/
def rload (k : Nat) (l : List S39) (most many : Int) : Nat → List (List Int) → Int → Option (List (List Int) × Bool)
  | 0, trucks, _ => some (trucks, true)
  | m + 1, trucks, at_ => rloadL (fun x => rload k l most many m x (at_ + 1)) k l most many trucks at_ (trucks.length + 2) 0
theorem rloadL_mono {rec rec' : List (List Int) → Option (List (List Int) × Bool)} (hr : ∀ x, LeO (rec x) (rec' x)) (k : Nat) (l : List S39) (most many : Int) (trucks : List (List Int)) (at_ : Int) : ∀ j kk, LeO (rloadL rec k l most many trucks at_ j kk) (rloadL rec' (k + 1) l most many trucks at_ j kk)
  | 0, _ => LeO.refl _
  | j + 1, kk => by
    unfold rloadL
    refine LeO.ite (LeO.ite (LeO.bind (papermillref56_with.mono _ _ _ _) fun x => LeO.ite (LeO.bind (papermillref56_total.mono _ _ _) fun t => LeO.ite (rloadL_mono hr k l most many trucks at_ j _) (LeO.bind (hr x) fun y => LeO.ite (LeO.refl _) (rloadL_mono hr k l most many trucks at_ j _))) (LeO.refl _)) (LeO.refl _)) (LeO.refl _)
theorem rload_mono (k : Nat) (l : List S39) (most many : Int) : ∀ m trucks at_, LeO (rload k l most many m trucks at_) (rload (k + 1) l most many m trucks at_)
  | 0, _, _ => LeO.refl _
  | m + 1, trucks, at_ => by
    unfold rload
    exact rloadL_mono (fun x => rload_mono k l most many m x _) k l most many trucks at_ _ _
set_option maxHeartbeats 8000000 in
set_option maxRecDepth 100000 in
theorem rload_calls (k : Nat) (l : List S39) (most many : Int) (A : Option Addr) (c : Nat) (hl : l.length ≤ 100) (hc : l.length ≤ c) (hmany : many ≤ 100) (base : Nat) : ∀ (m : Nat) (at_ : Int) (trucks : List (List Int)) (vt : Value) (r1 : List (List Int)) (r2 : Bool) (w : World), 0 ≤ at_ → at_ + m = l.length → rload k l most many m trucks at_ = some (r1, r2) → Kd.C k39 w A l.length l → Kd.S (Kd.slice 3 (Kd.int .i64)) 37 w base (fun _ => True) vt trucks → base ≤ w.heap.size →
    Calls Try.prog 35 #[.slice A l.length c, .int .i64 most, .int .i64 many, vt, .int .i64 at_] w fun e w' => ∃ v0_ : Value, e = .returned (.tuple #[v0_, .bool r2]) ∧ Kd.S (Kd.slice 3 (Kd.int .i64)) 37 w' base (fun _ => True) v0_ r1 ∧ Below w.heap.size w w' := by
  have HCL := Aside0.mk hc
  clear hc
  intro m
  induction m with
  | zero =>
    intro at_ trucks vt r1 r2 w h0 hm h hC hS hb
    unfold rload at h
    simp only [Option.some.injEq, Prod.mk.injEq] at h
    obtain ⟨rfl, rfl⟩ := h
    have ei : (at_ == (l.length : Int)) = true := beq_iff_eq.mpr (by omega)
    have HS := Aside0.mk hS
    clear hm hS hC
    go_enter Try.func35, Try.ntmps35
    go_wp2
    go_ret2
    exact ⟨_, rfl, HS.out, Below.refl _ _⟩
  | succ m ih =>
    intro at_ trucks vt r1 r2 w h0 hm h hC hS hb
    have IH := Aside0.mk ih
    have HC := Aside0.mk hC
    have HBS := Aside0.mk hb
    obtain ⟨At, ct, et⟩ := Kd.S_slice hS
    subst et
    have htl : trucks.length ≤ 9223372036854775807 := (Kd.S_reads' hS).2.2.2.1
    have HS := Aside0.mk hS
    have ei : (at_ == (l.length : Int)) = false := beq_eq_false_iff_ne.mpr (by omega)
    have HM := Aside0.mk hm
    have hat : at_ ≤ 100 := by omega
    unfold rload at h
    have H := Aside0.mk h
    clear hm hS hC hb ih h
    go_enter Try.func35, Try.ntmps35
    go_wp2
    go_loopg [12] (trucks.length + 2) (fun gg v12 wr => ∃ kz : Int, v12 = .int .i64 kz ∧ Aside0 (0 ≤ kz) ∧ Aside0 (rloadL (fun x => rload k l most many m x (at_ + 1)) k l most many trucks at_ gg kz = some (r1, r2)) ∧ Aside0 (Below w.heap.size w wr))
    case atStart => exact ⟨0, rfl, ⟨Int.le_refl _⟩, H, ⟨Below.refl _ _⟩⟩
    case round =>
      clear H
      obtain ⟨kz, rfl, HK, H, HB⟩ := hrel
      cases gk with
      | zero => exact absurd H.out (by simp [rloadL])
      | succ k1 =>
        have h := H.out
        unfold rloadL at h
        clear H
        obtain ⟨W1, hW1⟩ : ∃ x : World, x = wr := ⟨_, rfl⟩
        subst hW1
        by_cases c1 : kz ≤ (trucks.length : Int)
        · rw [if_pos c1] at h
          have c1b : decide (kz ≤ (trucks.length : Int)) = true := decide_eq_true c1
          by_cases c2 : kz < many
          · rw [if_pos c2] at h
            have c2b : decide (kz < many) = true := decide_eq_true c2
            have HKW : Aside0 (wrap64 (kz + 1) = kz + 1) := ⟨by have := HK.out; unfold wrap64; omega⟩
            obtain ⟨x, h1, h⟩ := Option.bind_eq_some_iff.mp h
            by_cases c3 : kz < (x.length : Int)
            · rw [if_pos c3] at h
              obtain ⟨t, h2, h⟩ := Option.bind_eq_some_iff.mp h
              have A1 := Aside0.mk h1
              have A2 := Aside0.mk h2
              have P1 := HK.out
              have c3b : decide (kz < (x.length : Int)) = true := decide_eq_true c3
              have c4b : decide (0 ≤ kz) = true := decide_eq_true P1
              have C3 := Aside0.mk c3
              replace P1 := eq_true P1
              have P3 := eq_true c3
              clear c1 c2 c3 h1 h2
              by_cases c5 : t > most
              · rw [if_pos c5] at h
                have c5b : decide (most < t) = true := decide_eq_true c5
                have H := Aside0.mk h
                clear c5 h
                go_wp2_with (first | (go_at_call 39; refine (papermillref56_with.calls k At ct trucks kz at_ x _ ((Kd.S_reads' (Kd.S_below HS.out HB.out)).2.2) (Kd.S_reads' HS.out).2.1 A1.out).mono ?_; rintro e w1 ⟨v1, rfl, hs1, hb1⟩; obtain ⟨A1_, c1_, e1_⟩ := Kd.S_slice hs1; subst e1_; have HS1 := Aside0.mk hs1; have HB1 := Aside0.mk (below_step HB.out hb1); have HSZ := Aside0.mk (below_size HB.out); obtain ⟨ad_, Ai, ci, ea_, hx_, hl_, hi_⟩ := at_L1 (Kd.S_reads' hs1).2.2 kz HK.out C3.out; cases ea_; have HI := Aside0.mk hi_; have HL := Aside0.mk hl_; clear hs1 hb1 hi_ hl_) | (go_at_call 38; refine (papermillref56_total.calls k A c l Ai ci (rd_L1 x kz) t _ (Kd.C_below HC.out HB1.out) HCL.out HI.out HL.out A2.out).mono ?_; rintro e w2 ⟨rfl, ⟨nd, rfl⟩⟩; have HB2 := Aside0.mk (pw_below_drewN HB1.out nd); have HS2 := Aside0.mk (Kd.S_drewN HS1.out nd)))
                go_wp2
                go_roundg k1
                case measure => omega
                case rel => exact ⟨kz + 1, by rw [HKW.out], ⟨by have := HK.out; omega⟩, H, HB2⟩
              · rw [if_neg c5] at h
                have c5b : decide (most < t) = false := decide_eq_false c5
                obtain ⟨y, h3, h⟩ := Option.bind_eq_some_iff.mp h
                obtain ⟨y1, y2⟩ := y
                have A3 := Aside0.mk h3
                clear c5 h3
                cases y2 with
                | true =>
                  rw [if_pos rfl] at h
                  simp only [Option.some.injEq, Prod.mk.injEq] at h
                  obtain ⟨rfl, rfl⟩ := h
                  go_wp2_with (first | (go_at_call 39; refine (papermillref56_with.calls k At ct trucks kz at_ x _ ((Kd.S_reads' (Kd.S_below HS.out HB.out)).2.2) (Kd.S_reads' HS.out).2.1 A1.out).mono ?_; rintro e w1 ⟨v1, rfl, hs1, hb1⟩; obtain ⟨A1_, c1_, e1_⟩ := Kd.S_slice hs1; subst e1_; have HS1 := Aside0.mk hs1; have HB1 := Aside0.mk (below_step HB.out hb1); have HSZ := Aside0.mk (below_size HB.out); obtain ⟨ad_, Ai, ci, ea_, hx_, hl_, hi_⟩ := at_L1 (Kd.S_reads' hs1).2.2 kz HK.out C3.out; cases ea_; have HI := Aside0.mk hi_; have HL := Aside0.mk hl_; clear hs1 hb1 hi_ hl_) | (go_at_call 38; refine (papermillref56_total.calls k A c l Ai ci (rd_L1 x kz) t _ (Kd.C_below HC.out HB1.out) HCL.out HI.out HL.out A2.out).mono ?_; rintro e w2 ⟨rfl, ⟨nd, rfl⟩⟩; have HB2 := Aside0.mk (pw_below_drewN HB1.out nd); have HS2 := Aside0.mk (Kd.S_drewN HS1.out nd)) | (go_at_call 35; refine (IH.out (at_ + 1) x _ y1 _ _ (by omega) (by have := HM.out; omega) A3.out (Kd.C_below HC.out HB2.out) (Kd.S_lower HS2.out (Nat.le_trans HBS.out HSZ.out)) (Nat.le_trans HBS.out (below_size HB2.out))).mono ?_; rintro e w3 ⟨v3, rfl, hs3, hb3⟩; have HS3 := Aside0.mk hs3; have HB3 := Aside0.mk (below_step HB2.out hb3); clear hs3 hb3))
                  go_ret2
                  exact ⟨_, rfl, HS3.out, HB3.out⟩
                | false =>
                  rw [if_neg (by simp)] at h
                  have H := Aside0.mk h
                  clear h
                  go_wp2_with (first | (go_at_call 39; refine (papermillref56_with.calls k At ct trucks kz at_ x _ ((Kd.S_reads' (Kd.S_below HS.out HB.out)).2.2) (Kd.S_reads' HS.out).2.1 A1.out).mono ?_; rintro e w1 ⟨v1, rfl, hs1, hb1⟩; obtain ⟨A1_, c1_, e1_⟩ := Kd.S_slice hs1; subst e1_; have HS1 := Aside0.mk hs1; have HB1 := Aside0.mk (below_step HB.out hb1); have HSZ := Aside0.mk (below_size HB.out); obtain ⟨ad_, Ai, ci, ea_, hx_, hl_, hi_⟩ := at_L1 (Kd.S_reads' hs1).2.2 kz HK.out C3.out; cases ea_; have HI := Aside0.mk hi_; have HL := Aside0.mk hl_; clear hs1 hb1 hi_ hl_) | (go_at_call 38; refine (papermillref56_total.calls k A c l Ai ci (rd_L1 x kz) t _ (Kd.C_below HC.out HB1.out) HCL.out HI.out HL.out A2.out).mono ?_; rintro e w2 ⟨rfl, ⟨nd, rfl⟩⟩; have HB2 := Aside0.mk (pw_below_drewN HB1.out nd); have HS2 := Aside0.mk (Kd.S_drewN HS1.out nd)) | (go_at_call 35; refine (IH.out (at_ + 1) x _ y1 _ _ (by omega) (by have := HM.out; omega) A3.out (Kd.C_below HC.out HB2.out) (Kd.S_lower HS2.out (Nat.le_trans HBS.out HSZ.out)) (Nat.le_trans HBS.out (below_size HB2.out))).mono ?_; rintro e w3 ⟨v3, rfl, hs3, hb3⟩; have HS3 := Aside0.mk hs3; have HB3 := Aside0.mk (below_step HB2.out hb3); clear hs3 hb3))
                  go_roundg k1
                  case measure => omega
                  case rel => exact ⟨kz + 1, by rw [HKW.out], ⟨by have := HK.out; omega⟩, H, HB3⟩
            · rw [if_neg c3] at h; exact absurd h (by simp)
          · rw [if_neg c2] at h
            have c2b : decide (kz < many) = false := decide_eq_false c2
            simp only [Option.some.injEq, Prod.mk.injEq] at h
            obtain ⟨rfl, rfl⟩ := h
            clear c1 c2
            go_wp2
            go_ret2
            exact ⟨_, rfl, Kd.S_nil _ _ _ _ _, HB.out⟩
        · rw [if_neg c1] at h
          have c1b : decide (kz ≤ (trucks.length : Int)) = false := decide_eq_false c1
          simp only [Option.some.injEq, Prod.mk.injEq] at h
          obtain ⟨rfl, rfl⟩ := h
          clear c1
          go_wp2
          go_ret2
          exact ⟨_, rfl, Kd.S_nil _ _ _ _ _, HB.out⟩

/-! ### papermillref56_Load: function 17, by hand -/
def rLs (k : Nat) (l : List S39) (most : Int) : Nat → Int → Option (List (List Int) × Int)
  | 0, _ => none
  | j + 1, many => if many ≤ (l.length : Int) then (rload k l most many l.length [] 0).bind fun y => if y.2 = true then some (y.1, 0) else rLs k l most j (many + 1) else some ([], 0)
theorem rLs_mono (k : Nat) (l : List S39) (most : Int) : ∀ j many, LeO (rLs k l most j many) (rLs (k + 1) l most j many)
  | 0, _ => LeO.refl _
  | j + 1, many => by
    unfold rLs
    exact LeO.ite (LeO.bind (rload_mono _ _ _ _ _ _ _) fun y => LeO.ite (LeO.refl _) (rLs_mono k l most j _)) (LeO.refl _)
def papermillref56_Load.f (k : Nat) (l : List S39) (most : Int) : Option (List (List Int) × Int) := (papermillref56_right.f k l most 10).bind fun e => if e = 0 then rLs k l most (l.length + 2) 0 else some ([], e)
theorem papermillref56_Load.mono : ∀ a0 a1 k, LeO (papermillref56_Load.f k a0 a1) (papermillref56_Load.f (k + 1) a0 a1) := by
  intro a0 a1 k
  unfold papermillref56_Load.f
  exact LeO.bind (papermillref56_right.mono _ _ _ _) fun _ => LeO.ite (rLs_mono _ _ _ _ _) (LeO.refl _)
theorem right_len {k : Nat} {l : List S39} {most many : Int} (h : papermillref56_right.f k l most many = some 0) : (l.length : Int) ≤ many := by
  have key : ∀ k b, papermillref56_right.j0 k l most many b = some 0 → (l.length : Int) ≤ many := fun k b h => by
    cases k with
    | zero => simp [papermillref56_right.j0] at h
    | succ k =>
      simp only [papermillref56_right.j0] at h
      cases b with
      | true => rw [if_pos rfl] at h; exact absurd h (by decide)
      | false =>
        rw [if_neg (by decide)] at h
        by_cases c : (l.length : Int) > many
        · rw [if_pos c] at h; exact absurd h (by decide)
        · omega
  unfold papermillref56_right.f at h
  by_cases c : most < 1
  · rw [if_pos c] at h; exact key _ _ h
  · rw [if_neg c] at h; exact key _ _ h
set_option maxHeartbeats 4000000 in
set_option maxRecDepth 100000 in
theorem papermillref56_Load.calls (k : Nat) (A0 : Option Addr) (c0 : Nat) (l0 : List S39) (a1 : Int) (r1 : List (List Int)) (r2 : Int) (w : World) (hr0 : Kd.C k39 w A0 l0.length l0) (hc0 : l0.length ≤ c0) (h : papermillref56_Load.f k l0 a1 = some (r1, r2)) :
    Calls Try.prog 17 #[.slice A0 l0.length c0, .int .i64 a1] w fun e w' => ∃ v0_ : Value, e = .returned (.tuple #[v0_, .int .i64 r2]) ∧ Kd.S (Kd.slice 3 (Kd.int .i64)) 37 w' w.heap.size (fun _ => True) v0_ r1 ∧ Below w.heap.size w w' := by
  have HR0 := Aside0.mk hr0
  have HC0 := Aside0.mk hc0
  clear hr0 hc0
  unfold papermillref56_Load.f at h
  obtain ⟨e0, h1, h⟩ := Option.bind_eq_some_iff.mp h
  have A1 := Aside0.mk h1
  by_cases c3 : e0 = 0
  · rw [if_pos c3] at h
    have c3b0 : (e0 == 0) = true := beq_iff_eq.mpr c3
    have c3b1 : (e0 != 0) = false := bne_eq_false_iff_eq.mpr c3
    rw [c3] at h1
    have hl10 : l0.length ≤ 10 := by have := right_len h1; omega
    have H := Aside0.mk h
    clear c3 h1 h
    go_enter Try.func17, Try.ntmps17
    go_wp2_with (go_at_call 34; refine (papermillref56_right.calls k A0 c0 l0 a1 10 e0 _ HR0.out HC0.out A1.out).mono ?_; rintro e w2 ⟨rfl, ⟨nd, rfl⟩⟩)
    go_loopg [7] (l0.length + 2) (fun gg v7 wr => ∃ mz : Int, v7 = .int .i64 mz ∧ Aside0 (0 ≤ mz) ∧ Aside0 (rLs k l0 a1 gg mz = some (r1, r2)) ∧ Aside0 (Below w.heap.size w wr))
    case atStart => exact ⟨0, rfl, ⟨Int.le_refl _⟩, H, ⟨by repeat (first | exact Below.refl _ _ | apply below_alloc | apply pw_below_drewN | apply below_drew1)⟩⟩
    case round =>
      clear H
      obtain ⟨mz, rfl, HK, H, HB⟩ := hrel
      cases gk with
      | zero => exact absurd H.out (by simp [rLs])
      | succ k1 =>
        have h := H.out
        unfold rLs at h
        clear H
        by_cases c1 : mz ≤ (l0.length : Int)
        · rw [if_pos c1] at h
          have c1b : decide (mz ≤ (l0.length : Int)) = true := decide_eq_true c1
          have HKW : Aside0 (wrap64 (mz + 1) = mz + 1) := ⟨by have := HK.out; unfold wrap64; omega⟩
          have HM : Aside0 (mz ≤ 100) := ⟨by omega⟩
          obtain ⟨y, h1, h⟩ := Option.bind_eq_some_iff.mp h
          obtain ⟨y1, y2⟩ := y
          have A2 := Aside0.mk h1
          clear c1 h1
          cases y2 with
          | true =>
            rw [if_pos rfl] at h
            simp only [Option.some.injEq, Prod.mk.injEq] at h
            obtain ⟨rfl, rfl⟩ := h
            go_wp2_with (go_at_call 35; refine (rload_calls k l0 a1 mz A0 c0 (by omega) HC0.out HM.out w.heap.size l0.length 0 [] (.slice none 0 0) y1 true _ (by omega) (by omega) A2.out (Kd.C_below HR0.out HB.out) (Kd.S_nil _ _ _ _ _) (below_size HB.out)).mono ?_; rintro e w3 ⟨v3, rfl, hs3, hb3⟩; have HS3 := Aside0.mk hs3; have HB3 := Aside0.mk (below_step HB.out hb3); clear hs3 hb3)
            go_ret2
            exact ⟨_, rfl, HS3.out, HB3.out⟩
          | false =>
            rw [if_neg (by simp)] at h
            have H := Aside0.mk h
            clear h
            go_wp2_with (go_at_call 35; refine (rload_calls k l0 a1 mz A0 c0 (by omega) HC0.out HM.out w.heap.size l0.length 0 [] (.slice none 0 0) y1 false _ (by omega) (by omega) A2.out (Kd.C_below HR0.out HB.out) (Kd.S_nil _ _ _ _ _) (below_size HB.out)).mono ?_; rintro e w3 ⟨v3, rfl, hs3, hb3⟩; have HB3 := Aside0.mk (below_step HB.out hb3); clear hs3 hb3)
            go_roundg k1
            case measure => omega
            case rel => exact ⟨mz + 1, by rw [HKW.out], ⟨by have := HK.out; omega⟩, H, HB3⟩
        · rw [if_neg c1] at h
          have c1b : decide (mz ≤ (l0.length : Int)) = false := decide_eq_false c1
          simp only [Option.some.injEq, Prod.mk.injEq] at h
          obtain ⟨rfl, rfl⟩ := h
          clear c1
          go_wp2
          go_ret2
          exact ⟨_, rfl, Kd.S_nil _ _ _ _ _, HB.out⟩
  · rw [if_neg c3] at h
    have c3b0 : (e0 == 0) = false := beq_eq_false_iff_ne.mpr c3
    have c3b1 : (e0 != 0) = true := bne_iff_ne.mpr c3
    clear c3 h1
    simp only [Option.some.injEq, Prod.mk.injEq] at h
    obtain ⟨rfl, rfl⟩ := h
    go_enter Try.func17, Try.ntmps17
    go_wp2_with (go_at_call 34; refine (papermillref56_right.calls k A0 c0 l0 a1 10 e0 _ HR0.out HC0.out A1.out).mono ?_; rintro e w2 ⟨rfl, ⟨nd, rfl⟩⟩)
    go_ret2
    exact ⟨_, rfl, Kd.S_nil _ _ _ _ _, by repeat (first | exact Below.refl _ _ | apply below_alloc | apply pw_below_drewN | apply below_drew1)⟩

/-! ### papermilllaw56_ShipLoads: function 5 -/
def papermilllaw56_ShipLoads.f (k : Nat) (l0 : List (S39)) (a1 : Int) : Option (Bool) := if (l0.length : Int) > 7 then (if (l0.length : Int) ≤ 10 then ((papermilllaw56_awake.f k).bind fun t285 => (some t285)) else (if (l0.length : Int) > 30 then ((papermilllaw56_awake.f k).bind fun t286 => (some t286)) else ((ship_Load.f k l0 a1).bind fun bt287 => ((papermillref56_Load.f k l0 a1).bind fun bt291 => ((papermillref56_Same.f k bt287.1 bt291.1).bind fun t295 => (if t295 = true then (if bt287.2 = bt291.2 then ((papermilllaw56_awake.f k).bind fun t296 => (some t296)) else (none)) else (none))))))) else (if (l0.length : Int) > 30 then ((papermilllaw56_awake.f k).bind fun t297 => (some t297)) else ((ship_Load.f k l0 a1).bind fun bt298 => ((papermillref56_Load.f k l0 a1).bind fun bt302 => ((papermillref56_Same.f k bt298.1 bt302.1).bind fun t306 => (if t306 = true then (if bt298.2 = bt302.2 then ((papermilllaw56_awake.f k).bind fun t307 => (some t307)) else (none)) else (none))))))
theorem papermilllaw56_ShipLoads.mono : ∀ a0 a1 k, LeO (papermilllaw56_ShipLoads.f k a0 a1) (papermilllaw56_ShipLoads.f (k + 1) a0 a1) := by
  intro a0 a1 k
  unfold papermilllaw56_ShipLoads.f
  repeat' first
      | (with_reducible exact papermilllaw56_awake.mono _)
      | (with_reducible exact papermillref56_Load.mono _ _ _)
      | (with_reducible exact papermillref56_Same.mono _ _ _)
      | (with_reducible exact ship_Load.mono _ _ _)
      | (with_reducible exact LeO.refl _)
      | (with_reducible exact LeO.none _)
      | (with_reducible refine LeO.ite ?_ ?_)
      | (with_reducible refine LeO.bind ?_ (fun _ => ?_))
      | exact papermilllaw56_awake.mono _
      | exact papermillref56_Load.mono _ _ _
      | exact papermillref56_Same.mono _ _ _
      | exact ship_Load.mono _ _ _
      | exact LeO.none _
      | refine LeO.ite ?_ ?_
      | refine LeO.bind ?_ (fun _ => ?_)
set_option maxHeartbeats 8000000 in
set_option maxRecDepth 100000 in
theorem papermilllaw56_ShipLoads.calls (k : Nat) (A0 : Option Addr) (c0 : Nat) (l0 : List (S39)) (a1 : Int) (r : Bool) (w : World) (hr0 : Kd.C k39 w A0 l0.length l0) (hc0 : l0.length ≤ c0) (h : papermilllaw56_ShipLoads.f k l0 a1 = some r) :
    Calls Try.prog 5 #[.slice A0 l0.length c0, .int .i64 a1] w fun e w' => e = .returned (.bool r) ∧ Below w.heap.size w w' := by
  have HR0 := Aside0.mk hr0
  have HC0 := Aside0.mk hc0
  clear hr0 hc0
  have HB := Aside0.mk (Below.refl w.heap.size w)
  have H : (if (l0.length : Int) > 7 then (if (l0.length : Int) ≤ 10 then ((papermilllaw56_awake.f k).bind fun t285 => (some t285)) else (if (l0.length : Int) > 30 then ((papermilllaw56_awake.f k).bind fun t286 => (some t286)) else ((ship_Load.f k l0 a1).bind fun bt287 => ((papermillref56_Load.f k l0 a1).bind fun bt291 => ((papermillref56_Same.f k bt287.1 bt291.1).bind fun t295 => (if t295 = true then (if bt287.2 = bt291.2 then ((papermilllaw56_awake.f k).bind fun t296 => (some t296)) else (none)) else (none))))))) else (if (l0.length : Int) > 30 then ((papermilllaw56_awake.f k).bind fun t297 => (some t297)) else ((ship_Load.f k l0 a1).bind fun bt298 => ((papermillref56_Load.f k l0 a1).bind fun bt302 => ((papermillref56_Same.f k bt298.1 bt302.1).bind fun t306 => (if t306 = true then (if bt298.2 = bt302.2 then ((papermilllaw56_awake.f k).bind fun t307 => (some t307)) else (none)) else (none))))))) = some r := h
  clear h
  by_cases c3 : (l0.length : Int) > 7
  · rw [if_pos c3] at H
    have c3b0 : decide (7 < (l0.length : Int)) = true := decide_eq_true c3
    have c3b1 : decide (7 < l0.length) = true := decide_eq_true (by omega)
    clear c3
    by_cases c4 : (l0.length : Int) ≤ 10
    · rw [if_pos c4] at H
      have c4b0 : decide ((l0.length : Int) ≤ 10) = true := decide_eq_true c4
      have c4b1 : decide (l0.length ≤ 10) = true := decide_eq_true (by omega)
      clear c4
      replace H := Option.bind_eq_some_iff.mp H
      obtain ⟨t285, A50, H⟩ := H
      replace H : (some t285) = some r := H
      have A5 := Aside0.mk A50
      clear A50
      obtain rfl := Option.some.inj H
      go_enter Try.func5, Try.ntmps5
      go_wp2_with (first | ((with_reducible refine gate_callee (f := 11) rfl ?_); refine goesL_ (some 22) rfl rfl Try.func11 (by kernel_rfl) rfl #[] rfl (by (try simp only [List.map_toArray, List.map_cons, List.map_nil]); first | done | rfl | (simp only [List.length_drop, List.length_take]; rfl)) ?_; (with_reducible refine (papermilllaw56_awake.calls k  t285 _ A5.out).mono ?_); rintro e w6 ⟨rfl, hb⟩; refine ⟨_, rfl, ?_⟩; have n0_ := Aside0.mk (below_step (by repeat (first | (with_reducible first | exact HB.out | apply below_alloc | apply pw_below_drewN | apply below_drew1) | exact HB.out)) hb); clear HB; have HB := n0_; clear n0_; (try clear hb); (try clear hb2); (try clear hk); (try clear hi)))
      go_ret
      exact ⟨by first | rfl | (simp [errW_none, errW_some] <;> rfl) | (simp [*, errW_none, errW_some] <;> rfl), by repeat (first | (with_reducible first | exact HB.out | apply below_alloc | apply pw_below_drewN | apply below_drew1) | exact HB.out)⟩
    · rw [if_neg c4] at H
      have c4b0 : decide ((l0.length : Int) ≤ 10) = false := decide_eq_false c4
      have c4b1 : decide (l0.length ≤ 10) = false := decide_eq_false (by omega)
      clear c4
      by_cases c7 : (l0.length : Int) > 30
      · rw [if_pos c7] at H
        have c7b0 : decide (30 < (l0.length : Int)) = true := decide_eq_true c7
        have c7b1 : decide (30 < l0.length) = true := decide_eq_true (by omega)
        clear c7
        replace H := Option.bind_eq_some_iff.mp H
        obtain ⟨t286, A80, H⟩ := H
        replace H : (some t286) = some r := H
        have A8 := Aside0.mk A80
        clear A80
        obtain rfl := Option.some.inj H
        go_enter Try.func5, Try.ntmps5
        go_wp2_with (first | ((with_reducible refine gate_callee (f := 11) rfl ?_); refine goesL_ (some 22) rfl rfl Try.func11 (by kernel_rfl) rfl #[] rfl (by (try simp only [List.map_toArray, List.map_cons, List.map_nil]); first | done | rfl | (simp only [List.length_drop, List.length_take]; rfl)) ?_; (with_reducible refine (papermilllaw56_awake.calls k  t286 _ A8.out).mono ?_); rintro e w9 ⟨rfl, hb⟩; refine ⟨_, rfl, ?_⟩; have n0_ := Aside0.mk (below_step (by repeat (first | (with_reducible first | exact HB.out | apply below_alloc | apply pw_below_drewN | apply below_drew1) | exact HB.out)) hb); clear HB; have HB := n0_; clear n0_; (try clear hb); (try clear hb2); (try clear hk); (try clear hi)))
        go_ret
        exact ⟨by first | rfl | (simp [errW_none, errW_some] <;> rfl) | (simp [*, errW_none, errW_some] <;> rfl), by repeat (first | (with_reducible first | exact HB.out | apply below_alloc | apply pw_below_drewN | apply below_drew1) | exact HB.out)⟩
      · rw [if_neg c7] at H
        have c7b0 : decide (30 < (l0.length : Int)) = false := decide_eq_false c7
        have c7b1 : decide (30 < l0.length) = false := decide_eq_false (by omega)
        clear c7
        replace H := Option.bind_eq_some_iff.mp H
        obtain ⟨⟨t287, t288⟩, A100, H⟩ := H
        replace H : ((papermillref56_Load.f k l0 a1).bind fun bt291 => ((papermillref56_Same.f k t287 bt291.1).bind fun t295 => (if t295 = true then (if t288 = bt291.2 then ((papermilllaw56_awake.f k).bind fun t296 => (some t296)) else (none)) else (none)))) = some r := H
        have A10 := Aside0.mk A100
        clear A100
        replace H := Option.bind_eq_some_iff.mp H
        obtain ⟨⟨t291, t292⟩, A110, H⟩ := H
        replace H : ((papermillref56_Same.f k t287 t291).bind fun t295 => (if t295 = true then (if t288 = t292 then ((papermilllaw56_awake.f k).bind fun t296 => (some t296)) else (none)) else (none))) = some r := H
        have A11 := Aside0.mk A110
        clear A110
        replace H := Option.bind_eq_some_iff.mp H
        obtain ⟨t295, A120, H⟩ := H
        replace H : (if t295 = true then (if t288 = t292 then ((papermilllaw56_awake.f k).bind fun t296 => (some t296)) else (none)) else (none)) = some r := H
        have A12 := Aside0.mk A120
        clear A120
        by_cases c13 : t295 = true
        · subst c13
          have H1 : (if t288 = t292 then ((papermilllaw56_awake.f k).bind fun t296 => (some t296)) else (none)) = some r := by rw [if_pos rfl] at H; exact H
          clear H
          have H := H1
          clear H1
          by_cases c14 : t288 = t292
          · rw [if_pos c14] at H
            have c14b0 : (t288 == t292) = true := beq_iff_eq.mpr c14
            have c14b1 : (t288 != t292) = false := bne_eq_false_iff_eq.mpr c14
            clear c14
            replace H := Option.bind_eq_some_iff.mp H
            obtain ⟨t296, A150, H⟩ := H
            replace H : (some t296) = some r := H
            have A15 := Aside0.mk A150
            clear A150
            obtain rfl := Option.some.inj H
            go_enter Try.func5, Try.ntmps5
            go_wp2_with (first | ((with_reducible refine gate_callee (f := 16) rfl ?_); refine goesL_ (some 26) rfl rfl Try.func16 (by kernel_rfl) rfl #[.slice A0 l0.length c0, .int .i64 a1] rfl (by (try simp only [List.map_toArray, List.map_cons, List.map_nil]); first | done | rfl | (simp only [List.length_drop, List.length_take]; rfl)) ?_; (with_reducible refine (ship_Load.calls k _ _ l0 a1 t287 t288 _ ?side1 ?side2 A10.out).mono ?_); (case side1 => repeat (first | exact HR0.out | (with_reducible refine Kd.C_alloc ?_ _) | (with_reducible refine Kd.C_drewN ?_ _) | (with_reducible refine Kd.C_drew ?_))); (case side2 => exact HC0.out); rintro e w16 ⟨v289, rfl, ho0, hb⟩; refine ⟨_, rfl, ?_⟩; have n0_ := Aside0.mk (Kd.S_lower ho0 (below_size (by repeat (first | (with_reducible first | exact HB.out | apply below_alloc | apply pw_below_drewN | apply below_drew1) | exact HB.out)))); have n1_ := Aside0.mk (below_step (by repeat (first | (with_reducible first | exact HB.out | apply below_alloc | apply pw_below_drewN | apply below_drew1) | exact HB.out)) hb); clear HB; have HO290 := n0_; have HB := n1_; clear n0_ n1_; (try clear hb); (try clear hb2); (try clear hk); (try clear hi); (try clear ho0)) | ((with_reducible refine gate_callee (f := 17) rfl ?_); refine goesL_ (some 32) rfl rfl Try.func17 (by kernel_rfl) rfl #[.slice A0 l0.length c0, .int .i64 a1] rfl (by (try simp only [List.map_toArray, List.map_cons, List.map_nil]); first | done | rfl | (simp only [List.length_drop, List.length_take]; rfl)) ?_; (with_reducible refine (papermillref56_Load.calls k _ _ l0 a1 t291 t292 _ ?side1 ?side2 A11.out).mono ?_); (case side1 => repeat (first | exact (Kd.C_below HR0.out HB.out) | (with_reducible refine Kd.C_alloc ?_ _) | (with_reducible refine Kd.C_drewN ?_ _) | (with_reducible refine Kd.C_drew ?_))); (case side2 => exact HC0.out); rintro e w17 ⟨v293, rfl, ho0, hb⟩; refine ⟨_, rfl, ?_⟩; have n0_ := Aside0.mk (Kd.S_elder' (by (with_reducible repeat (first | apply Kd.S_alloc | apply Kd.S_drewN | apply Kd.S_drew)); exact HO290.out) (Kd.S_base ho0) hb); have n1_ := Aside0.mk (Kd.S_lower (Kd.S_new' ho0 (Kd.S_lt (by (with_reducible repeat (first | apply Kd.S_alloc | apply Kd.S_drewN | apply Kd.S_drew)); exact HO290.out))) (below_size (by repeat (first | (with_reducible first | exact HB.out | apply below_alloc | apply pw_below_drewN | apply below_drew1) | exact HB.out)))); have n2_ := Aside0.mk (below_step (by repeat (first | (with_reducible first | exact HB.out | apply below_alloc | apply pw_below_drewN | apply below_drew1) | exact HB.out)) hb); clear HO290; clear HB; have HO290 := n0_; have HO294 := n1_; have HB := n2_; clear n0_ n1_ n2_; (try clear hb); (try clear hb2); (try clear hk); (try clear hi); (try clear ho0); obtain ⟨Ao18, co18, eo18⟩ := Kd.S_slice HO290.out; subst eo18; obtain ⟨Ao19, co19, eo19⟩ := Kd.S_slice HO294.out; subst eo19) | ((with_reducible refine gate_callee (f := 18) rfl ?_); refine goesL_ (some 37) rfl rfl Try.func18 (by kernel_rfl) rfl #[.slice Ao18 t287.length co18, .slice Ao19 t291.length co19] rfl (by (try simp only [List.map_toArray, List.map_cons, List.map_nil]); first | done | rfl | (simp only [List.length_drop, List.length_take]; rfl)) ?_; (with_reducible refine (papermillref56_Same.calls k _ _ t287 _ _ t291 true _ ?side1 ?side2 ?side3 ?side4 A12.out).mono ?_); (case side1 => repeat (first | exact (Kd.S_reads' HO290.out).2.2 | (with_reducible refine Kd.C_alloc ?_ _) | (with_reducible refine Kd.C_drewN ?_ _) | (with_reducible refine Kd.C_drew ?_))); (case side2 => exact (Kd.S_reads' HO290.out).2.1); (case side3 => repeat (first | exact (Kd.S_reads' HO294.out).2.2 | (with_reducible refine Kd.C_alloc ?_ _) | (with_reducible refine Kd.C_drewN ?_ _) | (with_reducible refine Kd.C_drew ?_))); (case side4 => exact (Kd.S_reads' HO294.out).2.1); rintro e w' ⟨rfl, ⟨nd, rfl⟩⟩; refine ⟨_, rfl, ?_⟩) | (go_at_call 11; (with_reducible refine (papermilllaw56_awake.calls k  t296 _ A15.out).mono ?_); rintro e w20 ⟨rfl, hb⟩; have n0_ := Aside0.mk (Kd.S_below (by (with_reducible repeat (first | apply Kd.S_alloc | apply Kd.S_drewN | apply Kd.S_drew)); exact HO290.out) hb); have n1_ := Aside0.mk (Kd.S_below (by (with_reducible repeat (first | apply Kd.S_alloc | apply Kd.S_drewN | apply Kd.S_drew)); exact HO294.out) hb); have n2_ := Aside0.mk (below_step (by repeat (first | (with_reducible first | exact HB.out | apply below_alloc | apply pw_below_drewN | apply below_drew1) | exact HB.out)) hb); clear HO290; clear HO294; clear HB; have HO290 := n0_; have HO294 := n1_; have HB := n2_; clear n0_ n1_ n2_; (try clear hb); (try clear hb2); (try clear hk); (try clear hi)))
            go_ret
            exact ⟨by first | rfl | (simp [errW_none, errW_some] <;> rfl) | (simp [*, errW_none, errW_some] <;> rfl), by repeat (first | (with_reducible first | exact HB.out | apply below_alloc | apply pw_below_drewN | apply below_drew1) | exact HB.out)⟩
          · rw [if_neg c14] at H
            exact absurd H (by simp)
        · replace c13 := Bool.eq_false_iff.mpr c13
          subst c13
          have H1 : (none) = some r := by rw [if_neg (show ¬ (false = true) by decide)] at H; exact H
          clear H
          have H := H1
          clear H1
          exact absurd H (by simp)
  · rw [if_neg c3] at H
    have c3b0 : decide (7 < (l0.length : Int)) = false := decide_eq_false c3
    have c3b1 : decide (7 < l0.length) = false := decide_eq_false (by omega)
    clear c3
    by_cases c21 : (l0.length : Int) > 30
    · rw [if_pos c21] at H
      have c21b0 : decide (30 < (l0.length : Int)) = true := decide_eq_true c21
      have c21b1 : decide (30 < l0.length) = true := decide_eq_true (by omega)
      clear c21
      replace H := Option.bind_eq_some_iff.mp H
      obtain ⟨t297, A220, H⟩ := H
      replace H : (some t297) = some r := H
      have A22 := Aside0.mk A220
      clear A220
      obtain rfl := Option.some.inj H
      go_enter Try.func5, Try.ntmps5
      go_wp2_with (first | ((with_reducible refine gate_callee (f := 11) rfl ?_); refine goesL_ (some 22) rfl rfl Try.func11 (by kernel_rfl) rfl #[] rfl (by (try simp only [List.map_toArray, List.map_cons, List.map_nil]); first | done | rfl | (simp only [List.length_drop, List.length_take]; rfl)) ?_; (with_reducible refine (papermilllaw56_awake.calls k  t297 _ A22.out).mono ?_); rintro e w23 ⟨rfl, hb⟩; refine ⟨_, rfl, ?_⟩; have n0_ := Aside0.mk (below_step (by repeat (first | (with_reducible first | exact HB.out | apply below_alloc | apply pw_below_drewN | apply below_drew1) | exact HB.out)) hb); clear HB; have HB := n0_; clear n0_; (try clear hb); (try clear hb2); (try clear hk); (try clear hi)))
      go_ret
      exact ⟨by first | rfl | (simp [errW_none, errW_some] <;> rfl) | (simp [*, errW_none, errW_some] <;> rfl), by repeat (first | (with_reducible first | exact HB.out | apply below_alloc | apply pw_below_drewN | apply below_drew1) | exact HB.out)⟩
    · rw [if_neg c21] at H
      have c21b0 : decide (30 < (l0.length : Int)) = false := decide_eq_false c21
      have c21b1 : decide (30 < l0.length) = false := decide_eq_false (by omega)
      clear c21
      replace H := Option.bind_eq_some_iff.mp H
      obtain ⟨⟨t298, t299⟩, A240, H⟩ := H
      replace H : ((papermillref56_Load.f k l0 a1).bind fun bt302 => ((papermillref56_Same.f k t298 bt302.1).bind fun t306 => (if t306 = true then (if t299 = bt302.2 then ((papermilllaw56_awake.f k).bind fun t307 => (some t307)) else (none)) else (none)))) = some r := H
      have A24 := Aside0.mk A240
      clear A240
      replace H := Option.bind_eq_some_iff.mp H
      obtain ⟨⟨t302, t303⟩, A250, H⟩ := H
      replace H : ((papermillref56_Same.f k t298 t302).bind fun t306 => (if t306 = true then (if t299 = t303 then ((papermilllaw56_awake.f k).bind fun t307 => (some t307)) else (none)) else (none))) = some r := H
      have A25 := Aside0.mk A250
      clear A250
      replace H := Option.bind_eq_some_iff.mp H
      obtain ⟨t306, A260, H⟩ := H
      replace H : (if t306 = true then (if t299 = t303 then ((papermilllaw56_awake.f k).bind fun t307 => (some t307)) else (none)) else (none)) = some r := H
      have A26 := Aside0.mk A260
      clear A260
      by_cases c27 : t306 = true
      · subst c27
        have H1 : (if t299 = t303 then ((papermilllaw56_awake.f k).bind fun t307 => (some t307)) else (none)) = some r := by rw [if_pos rfl] at H; exact H
        clear H
        have H := H1
        clear H1
        by_cases c28 : t299 = t303
        · rw [if_pos c28] at H
          have c28b0 : (t299 == t303) = true := beq_iff_eq.mpr c28
          have c28b1 : (t299 != t303) = false := bne_eq_false_iff_eq.mpr c28
          clear c28
          replace H := Option.bind_eq_some_iff.mp H
          obtain ⟨t307, A290, H⟩ := H
          replace H : (some t307) = some r := H
          have A29 := Aside0.mk A290
          clear A290
          obtain rfl := Option.some.inj H
          go_enter Try.func5, Try.ntmps5
          go_wp2_with (first | ((with_reducible refine gate_callee (f := 16) rfl ?_); refine goesL_ (some 26) rfl rfl Try.func16 (by kernel_rfl) rfl #[.slice A0 l0.length c0, .int .i64 a1] rfl (by (try simp only [List.map_toArray, List.map_cons, List.map_nil]); first | done | rfl | (simp only [List.length_drop, List.length_take]; rfl)) ?_; (with_reducible refine (ship_Load.calls k _ _ l0 a1 t298 t299 _ ?side1 ?side2 A24.out).mono ?_); (case side1 => repeat (first | exact HR0.out | (with_reducible refine Kd.C_alloc ?_ _) | (with_reducible refine Kd.C_drewN ?_ _) | (with_reducible refine Kd.C_drew ?_))); (case side2 => exact HC0.out); rintro e w30 ⟨v300, rfl, ho0, hb⟩; refine ⟨_, rfl, ?_⟩; have n0_ := Aside0.mk (Kd.S_lower ho0 (below_size (by repeat (first | (with_reducible first | exact HB.out | apply below_alloc | apply pw_below_drewN | apply below_drew1) | exact HB.out)))); have n1_ := Aside0.mk (below_step (by repeat (first | (with_reducible first | exact HB.out | apply below_alloc | apply pw_below_drewN | apply below_drew1) | exact HB.out)) hb); clear HB; have HO301 := n0_; have HB := n1_; clear n0_ n1_; (try clear hb); (try clear hb2); (try clear hk); (try clear hi); (try clear ho0)) | ((with_reducible refine gate_callee (f := 17) rfl ?_); refine goesL_ (some 32) rfl rfl Try.func17 (by kernel_rfl) rfl #[.slice A0 l0.length c0, .int .i64 a1] rfl (by (try simp only [List.map_toArray, List.map_cons, List.map_nil]); first | done | rfl | (simp only [List.length_drop, List.length_take]; rfl)) ?_; (with_reducible refine (papermillref56_Load.calls k _ _ l0 a1 t302 t303 _ ?side1 ?side2 A25.out).mono ?_); (case side1 => repeat (first | exact (Kd.C_below HR0.out HB.out) | (with_reducible refine Kd.C_alloc ?_ _) | (with_reducible refine Kd.C_drewN ?_ _) | (with_reducible refine Kd.C_drew ?_))); (case side2 => exact HC0.out); rintro e w31 ⟨v304, rfl, ho0, hb⟩; refine ⟨_, rfl, ?_⟩; have n0_ := Aside0.mk (Kd.S_elder' (by (with_reducible repeat (first | apply Kd.S_alloc | apply Kd.S_drewN | apply Kd.S_drew)); exact HO301.out) (Kd.S_base ho0) hb); have n1_ := Aside0.mk (Kd.S_lower (Kd.S_new' ho0 (Kd.S_lt (by (with_reducible repeat (first | apply Kd.S_alloc | apply Kd.S_drewN | apply Kd.S_drew)); exact HO301.out))) (below_size (by repeat (first | (with_reducible first | exact HB.out | apply below_alloc | apply pw_below_drewN | apply below_drew1) | exact HB.out)))); have n2_ := Aside0.mk (below_step (by repeat (first | (with_reducible first | exact HB.out | apply below_alloc | apply pw_below_drewN | apply below_drew1) | exact HB.out)) hb); clear HO301; clear HB; have HO301 := n0_; have HO305 := n1_; have HB := n2_; clear n0_ n1_ n2_; (try clear hb); (try clear hb2); (try clear hk); (try clear hi); (try clear ho0); obtain ⟨Ao32, co32, eo32⟩ := Kd.S_slice HO301.out; subst eo32; obtain ⟨Ao33, co33, eo33⟩ := Kd.S_slice HO305.out; subst eo33) | ((with_reducible refine gate_callee (f := 18) rfl ?_); refine goesL_ (some 37) rfl rfl Try.func18 (by kernel_rfl) rfl #[.slice Ao32 t298.length co32, .slice Ao33 t302.length co33] rfl (by (try simp only [List.map_toArray, List.map_cons, List.map_nil]); first | done | rfl | (simp only [List.length_drop, List.length_take]; rfl)) ?_; (with_reducible refine (papermillref56_Same.calls k _ _ t298 _ _ t302 true _ ?side1 ?side2 ?side3 ?side4 A26.out).mono ?_); (case side1 => repeat (first | exact (Kd.S_reads' HO301.out).2.2 | (with_reducible refine Kd.C_alloc ?_ _) | (with_reducible refine Kd.C_drewN ?_ _) | (with_reducible refine Kd.C_drew ?_))); (case side2 => exact (Kd.S_reads' HO301.out).2.1); (case side3 => repeat (first | exact (Kd.S_reads' HO305.out).2.2 | (with_reducible refine Kd.C_alloc ?_ _) | (with_reducible refine Kd.C_drewN ?_ _) | (with_reducible refine Kd.C_drew ?_))); (case side4 => exact (Kd.S_reads' HO305.out).2.1); rintro e w' ⟨rfl, ⟨nd, rfl⟩⟩; refine ⟨_, rfl, ?_⟩) | (go_at_call 11; (with_reducible refine (papermilllaw56_awake.calls k  t307 _ A29.out).mono ?_); rintro e w34 ⟨rfl, hb⟩; have n0_ := Aside0.mk (Kd.S_below (by (with_reducible repeat (first | apply Kd.S_alloc | apply Kd.S_drewN | apply Kd.S_drew)); exact HO301.out) hb); have n1_ := Aside0.mk (Kd.S_below (by (with_reducible repeat (first | apply Kd.S_alloc | apply Kd.S_drewN | apply Kd.S_drew)); exact HO305.out) hb); have n2_ := Aside0.mk (below_step (by repeat (first | (with_reducible first | exact HB.out | apply below_alloc | apply pw_below_drewN | apply below_drew1) | exact HB.out)) hb); clear HO301; clear HO305; clear HB; have HO301 := n0_; have HO305 := n1_; have HB := n2_; clear n0_ n1_ n2_; (try clear hb); (try clear hb2); (try clear hk); (try clear hi)))
          go_ret
          exact ⟨by first | rfl | (simp [errW_none, errW_some] <;> rfl) | (simp [*, errW_none, errW_some] <;> rfl), by repeat (first | (with_reducible first | exact HB.out | apply below_alloc | apply pw_below_drewN | apply below_drew1) | exact HB.out)⟩
        · rw [if_neg c28] at H
          exact absurd H (by simp)
      · replace c27 := Bool.eq_false_iff.mpr c27
        subst c27
        have H1 : (none) = some r := by rw [if_neg (show ¬ (false = true) by decide)] at H; exact H
        clear H
        have H := H1
        clear H1
        exact absurd H (by simp)

end Go.Proofs.Ytegilakgfoglpaa.Q
