/- Plain Lean functions of the Go functions, and proofs that the Go calls come to them; laid out by this session's program wip/tools/hp.py. -/
import Derived.Test.YtaldnhlojllanaaQ0
namespace Go.Proofs.Ytaldnhlojllanaa.Q
open Go.RowKit Go.Proofs.YtaldnhlojllanaaW.PrintWords Go.Proofs.YtaldnhlojllanaaW.PrintLast Go.Proofs.YtaldnhlojllanaaW.PrintMore
attribute [local go_sem] max2_int min2_int max_two min_two max_three min_three max_four min_four   -- for this text's walks alone
set_option linter.unusedVariables false
set_option linter.unusedSimpArgs false

/-! ### papermilllaw10_great: function 12 -/
def papermilllaw10_great.f (a0_0 : Int) (l0_1 : List (S42)) : Option (Bool) := some (decide ((l0_1.length : Int) > 600))
set_option maxHeartbeats 8000000 in
set_option maxRecDepth 100000 in
theorem papermilllaw10_great.calls (a0_0 : Int) (A0_1 : Option Addr) (c0_1 : Nat) (l0_1 : List (S42)) (r : Bool) (w : World) (hr0_1 : Kd.C k42 w A0_1 l0_1.length l0_1) (hc0_1 : l0_1.length ≤ c0_1) (h : papermilllaw10_great.f a0_0 l0_1 = some r) :
    Calls Try.prog 12 #[.agg #[.int .i64 a0_0, .slice A0_1 l0_1.length c0_1]] w fun e w' => e = .returned (.bool r) ∧ Below w.heap.size w w' := by
  have hu24 := Try.underlying24
  have HR0_1 := Aside0.mk hr0_1
  have HC0_1 := Aside0.mk hc0_1
  clear hr0_1 hc0_1
  have HB := Aside0.mk (Below.refl w.heap.size w)
  have H : (some (decide ((l0_1.length : Int) > 600))) = some r := h
  clear h
  obtain rfl := Option.some.inj H
  go_enter Try.func12, Try.ntmps12
  go_wp2_with (first | ((with_reducible refine gate_dst (N := 1) rfl ?_); refine box_event ?hg (N := 1) ?hd (cs := #[.int .i64 a0_0, .slice A0_1 l0_1.length c0_1]) (t := 24) ?hr ?_; (case hd => rfl); (case hg => rfl); (case hr => first | (go_simp; done) | (go_simp; rfl)); intro gb101 hg w2 hbox hb; have n0_ := Aside0.mk (below_step (by repeat (first | (with_reducible first | exact HB.out | apply below_alloc | apply pw_below_drewN | apply below_drew1) | exact HB.out)) hb); have n1_ := Aside0.mk (hbox); have n2_ := Aside0.mk ((by rw [hg]; exact (below_size (by repeat (first | (with_reducible first | exact HB.out | apply below_alloc | apply pw_below_drewN | apply below_drew1) | exact HB.out))) : w.heap.size ≤ gb101)); have n3_ := Aside0.mk ((by rw [hg]; exact (below_size (by repeat (first | (with_reducible first | exact HB.out | apply below_alloc | apply pw_below_drewN | apply below_drew1) | exact HB.out))) : w.heap.size ≤ gb101)); clear HB; have HB := n0_; have BK101 := n1_; have GW101 := n2_; have GE101 := n3_; clear n0_ n1_ n2_ n3_; clear hb hbox hg; have hcz3_0 : w2.cell? ⟨gb101, 0, none⟩ = some (.int .i64 a0_0) := (blk_cell BK101.out 0).trans rfl; have hcz3_1 : w2.cell? ⟨gb101, 1, none⟩ = some (.slice A0_1 l0_1.length c0_1) := (blk_cell BK101.out 1).trans rfl; have hfz3_0 := blk_frozen BK101.out 0; have hfz3_1 := blk_frozen BK101.out 1))
  go_ret
  exact ⟨by first | rfl | (simp [errW_none, errW_some] <;> rfl) | (simp [*, errW_none, errW_some] <;> rfl), by repeat (first | (with_reducible first | exact HB.out | apply below_alloc | apply pw_below_drewN | apply below_drew1 | refine below_set ?_ GE101.out) | exact HB.out)⟩

/-! ### graph_Check: function 14 -/
mutual
def graph_Check.j0 : Nat → Bool → Int → List (S42) → Option (Int)
  | 0, _, _, _ => none
  | k + 1, x12, x103000, x103001 => if x12 = true then (some 1) else (if (x103001.length : Int) > 512 then (some 8) else (graph_Check.l0 k x103001 (x103001.length : Int) 0 x103000 x103001))
def graph_Check.l0 : Nat → List (S42) → Int → Int → Int → List (S42) → Option (Int)
  | 0, _, _, _, _, _ => none
  | k + 1, x18, x19, x20, x103000, x103001 => if x20 < x19 then (if 0 ≤ x20 then (if x20 < (x18.length : Int) then (if ((rd_T42 x18 x20).f0) < 0 then (some 7) else (if ((rd_T42 x18 x20).f0) ≥ x103000 then (some 7) else (if ((rd_T42 x18 x20).f1) < 0 then (some 7) else (if ((rd_T42 x18 x20).f1) ≥ x103000 then (some 7) else (graph_Check.l0 k x18 x19 (wrap64 (x20 + 1)) x103000 x103001))))) else (none)) else (none)) else (some 0)
end
def graph_Check.f (k : Nat) (a0_0 : Int) (l0_1 : List (S42)) : Option (Int) := if a0_0 < 0 then (graph_Check.j0 k true a0_0 l0_1) else (graph_Check.j0 k (decide (a0_0 > 64)) a0_0 l0_1)
theorem graph_Check.mono_l : ∀ k, (∀ y0 y1 y2, LeO (graph_Check.j0 k y0 y1 y2) (graph_Check.j0 (k + 1) y0 y1 y2)) ∧ (∀ y0 y1 y2 y3 y4, LeO (graph_Check.l0 k y0 y1 y2 y3 y4) (graph_Check.l0 (k + 1) y0 y1 y2 y3 y4))
  | 0 => ⟨fun _ _ _ r h => by simp [graph_Check.j0] at h, fun _ _ _ _ _ r h => by simp [graph_Check.l0] at h⟩
  | k + 1 => by
    obtain ⟨ih0, ih1⟩ := graph_Check.mono_l k
    refine ⟨?_, ?_⟩
    · intro y0 y1 y2
      unfold graph_Check.j0
      repeat' first
      | (with_reducible exact ih0 _ _ _)
      | (with_reducible exact ih1 _ _ _ _ _)
      | (with_reducible exact LeO.refl _)
      | (with_reducible exact LeO.none _)
      | (with_reducible refine LeO.ite ?_ ?_)
      | (with_reducible refine LeO.bind ?_ (fun _ => ?_))
      | exact ih0 _ _ _
      | exact ih1 _ _ _ _ _
      | exact LeO.none _
      | refine LeO.ite ?_ ?_
      | refine LeO.bind ?_ (fun _ => ?_)
    · intro y0 y1 y2 y3 y4
      unfold graph_Check.l0
      repeat' first
      | (with_reducible exact ih0 _ _ _)
      | (with_reducible exact ih1 _ _ _ _ _)
      | (with_reducible exact LeO.refl _)
      | (with_reducible exact LeO.none _)
      | (with_reducible refine LeO.ite ?_ ?_)
      | (with_reducible refine LeO.bind ?_ (fun _ => ?_))
      | exact ih0 _ _ _
      | exact ih1 _ _ _ _ _
      | exact LeO.none _
      | refine LeO.ite ?_ ?_
      | refine LeO.bind ?_ (fun _ => ?_)
theorem graph_Check.mono : ∀ a0 a1 k, LeO (graph_Check.f k a0 a1) (graph_Check.f (k + 1) a0 a1) := by
  intro a0 a1 k
  obtain ⟨ih0, ih1⟩ := graph_Check.mono_l k
  unfold graph_Check.f
  repeat' first
      | (with_reducible exact ih0 _ _ _)
      | (with_reducible exact ih1 _ _ _ _ _)
      | (with_reducible exact LeO.refl _)
      | (with_reducible exact LeO.none _)
      | (with_reducible refine LeO.ite ?_ ?_)
      | (with_reducible refine LeO.bind ?_ (fun _ => ?_))
      | exact ih0 _ _ _
      | exact ih1 _ _ _ _ _
      | exact LeO.none _
      | refine LeO.ite ?_ ?_
      | refine LeO.bind ?_ (fun _ => ?_)
set_option maxHeartbeats 8000000 in
set_option maxRecDepth 100000 in
theorem graph_Check.calls (k : Nat) (a0_0 : Int) (A0_1 : Option Addr) (c0_1 : Nat) (l0_1 : List (S42)) (r : Int) (w : World) (hr0_1 : Kd.C k42 w A0_1 l0_1.length l0_1) (hc0_1 : l0_1.length ≤ c0_1) (h : graph_Check.f k a0_0 l0_1 = some r) :
    Calls Try.prog 14 #[.agg #[.int .i64 a0_0, .slice A0_1 l0_1.length c0_1]] w fun e w' => e = .returned (.int .i64 r) ∧ Below w.heap.size w w' := by
  have hu24 := Try.underlying24
  have hu42 := Try.underlying42
  have HR0_1 := Aside0.mk hr0_1
  have HC0_1 := Aside0.mk hc0_1
  clear hr0_1 hc0_1
  have HB := Aside0.mk (Below.refl w.heap.size w)
  have H : (if a0_0 < 0 then (graph_Check.j0 k true a0_0 l0_1) else (graph_Check.j0 k (decide (a0_0 > 64)) a0_0 l0_1)) = some r := h
  clear h
  have HC2 := Aside0.mk H
  clear H
  go_enter Try.func14, Try.ntmps14
  go_upto_region 1 with (first | ((with_reducible refine gate_dst (N := 1) rfl ?_); refine box_event ?hg (N := 1) ?hd (cs := #[.int .i64 a0_0, .slice A0_1 l0_1.length c0_1]) (t := 24) ?hr ?_; (case hd => rfl); (case hg => rfl); (case hr => first | (go_simp; done) | (go_simp; rfl)); intro gb102 hg w3 hbox hb; have n0_ := Aside0.mk (below_step (by repeat (first | (with_reducible first | exact HB.out | apply below_alloc | apply pw_below_drewN | apply below_drew1) | exact HB.out)) hb); have n1_ := Aside0.mk (hbox); have n2_ := Aside0.mk ((by rw [hg]; exact (below_size (by repeat (first | (with_reducible first | exact HB.out | apply below_alloc | apply pw_below_drewN | apply below_drew1) | exact HB.out))) : w.heap.size ≤ gb102)); have n3_ := Aside0.mk ((by rw [hg]; exact (below_size (by repeat (first | (with_reducible first | exact HB.out | apply below_alloc | apply pw_below_drewN | apply below_drew1) | exact HB.out))) : w.heap.size ≤ gb102)); clear HB; have HB := n0_; have BK102 := n1_; have GW102 := n2_; have GE102 := n3_; clear n0_ n1_ n2_ n3_; clear hb hbox hg))
  (try simp only [Act.put, List.setIfInBounds_toArray, List.set_cons_zero, List.set_cons_succ])
  go_cut [12] (fun v12 wc => ∃ (kq : Nat) (x12_1 : Bool), v12 = .bool x12_1 ∧ Aside0 (graph_Check.j0 kq x12_1 a0_0 l0_1 = some r) ∧ Aside0 (kq ≤ k) ∧ Aside0 (wc.heap[gb102]? = some (.cells #[.int .i64 a0_0, (.slice A0_1 l0_1.length c0_1)] 24 (0, 0))) ∧ Aside0 (Below w.heap.size w wc))
  case first =>
    have H := HC2.out
    clear HC2
    by_cases c4 : a0_0 < 0
    · rw [if_pos c4] at H
      have c4b0 : decide (a0_0 < 0) = true := decide_eq_true c4
      clear c4
      (first | rw [c4b0] | (simp only [i64_w, i32_w]; rw [c4b0]) | skip)
      have H' := Aside0.mk H
      clear H
      have hcz5_0 : w3.cell? ⟨gb102, 0, none⟩ = some (.int .i64 a0_0) := (blk_cell BK102.out 0).trans rfl
      have hcz5_1 : w3.cell? ⟨gb102, 1, none⟩ = some (.slice A0_1 l0_1.length c0_1) := (blk_cell BK102.out 1).trans rfl
      have hfz5_0 := blk_frozen BK102.out 0
      have hfz5_1 := blk_frozen BK102.out 1
      go_wp2
      go_meet
      case rel => exact ⟨_, (true), (by first | rfl | (simp; done) | (simp [*]; done)), H', ⟨by first | omega | exact Nat.le_refl _⟩, ⟨by (with_reducible repeat (first | refine blk_drewN ?_ _ | refine blk_drew ?_ | refine blk_alloc ?_ _)); exact BK102.out⟩, ⟨by repeat (first | (with_reducible first | exact HB.out | apply below_alloc | apply pw_below_drewN | apply below_drew1 | refine below_set ?_ GE102.out) | exact HB.out)⟩⟩
    · rw [if_neg c4] at H
      have c4b0 : decide (a0_0 < 0) = false := decide_eq_false c4
      clear c4
      (first | rw [c4b0] | (simp only [i64_w, i32_w]; rw [c4b0]) | skip)
      have H' := Aside0.mk H
      clear H
      have hcz6_0 : w3.cell? ⟨gb102, 0, none⟩ = some (.int .i64 a0_0) := (blk_cell BK102.out 0).trans rfl
      have hcz6_1 : w3.cell? ⟨gb102, 1, none⟩ = some (.slice A0_1 l0_1.length c0_1) := (blk_cell BK102.out 1).trans rfl
      have hfz6_0 := blk_frozen BK102.out 0
      have hfz6_1 := blk_frozen BK102.out 1
      go_wp2
      go_meet
      case rel => exact ⟨_, (decide (a0_0 > 64)), (by first | rfl | (simp; done) | (simp [*]; done)), H', ⟨by first | omega | exact Nat.le_refl _⟩, ⟨by (with_reducible repeat (first | refine blk_drewN ?_ _ | refine blk_drew ?_ | refine blk_alloc ?_ _)); exact BK102.out⟩, ⟨by repeat (first | (with_reducible first | exact HB.out | apply below_alloc | apply pw_below_drewN | apply below_drew1 | refine below_set ?_ GE102.out) | exact HB.out)⟩⟩
  case rest =>
    clear HC2
    (try clear c1); (try clear p2); (try clear c4); (try clear c4b0); (try clear hcz5_0); (try clear hcz5_1); (try clear hcz6_0); (try clear hcz6_1); (try clear hfz5_0); (try clear hfz5_1); (try clear hfz6_0); (try clear hfz6_1)
    obtain ⟨kq, x12_1, rfl, HA, HJ1, BK102, HB⟩ := hcut
    cases kq with
    | zero => exact absurd HA.out (by simp [graph_Check.j0])
    | succ kj1 =>
      have H := HA.out
      clear HA
      simp only [graph_Check.j0] at H
      by_cases c7 : x12_1 = true
      · subst c7
        have H1 : (some 1) = some r := by rw [if_pos rfl] at H; exact H
        clear H
        have H := H1
        clear H1
        obtain rfl := Option.some.inj H
        go_wp2
        go_ret
        exact ⟨by first | rfl | (simp [errW_none, errW_some] <;> rfl) | (simp [*, errW_none, errW_some] <;> rfl), by repeat (first | (with_reducible first | exact HB.out | apply below_alloc | apply pw_below_drewN | apply below_drew1 | refine below_set ?_ GE102.out) | exact HB.out)⟩
      · replace c7 := Bool.eq_false_iff.mpr c7
        subst c7
        have H1 : (if (l0_1.length : Int) > 512 then (some 8) else (graph_Check.l0 kj1 l0_1 (l0_1.length : Int) 0 a0_0 l0_1)) = some r := by rw [if_neg (show ¬ (false = true) by decide)] at H; exact H
        clear H
        have H := H1
        clear H1
        by_cases c8 : (l0_1.length : Int) > 512
        · rw [if_pos c8] at H
          have c8b0 : decide (512 < (l0_1.length : Int)) = true := decide_eq_true c8
          have c8b1 : decide (512 < l0_1.length) = true := decide_eq_true (by omega)
          clear c8
          obtain rfl := Option.some.inj H
          have hcz9_0 : wc.cell? ⟨gb102, 0, none⟩ = some (.int .i64 a0_0) := (blk_cell BK102.out 0).trans rfl
          have hcz9_1 : wc.cell? ⟨gb102, 1, none⟩ = some (.slice A0_1 l0_1.length c0_1) := (blk_cell BK102.out 1).trans rfl
          have hfz9_0 := blk_frozen BK102.out 0
          have hfz9_1 := blk_frozen BK102.out 1
          go_wp2
          go_ret
          exact ⟨by first | rfl | (simp [errW_none, errW_some] <;> rfl) | (simp [*, errW_none, errW_some] <;> rfl), by repeat (first | (with_reducible first | exact HB.out | apply below_alloc | apply pw_below_drewN | apply below_drew1 | refine below_set ?_ GE102.out) | exact HB.out)⟩
        · rw [if_neg c8] at H
          have c8b0 : decide (512 < (l0_1.length : Int)) = false := decide_eq_false c8
          have c8b1 : decide (512 < l0_1.length) = false := decide_eq_false (by omega)
          clear c8
          have H' := Aside0.mk H
          clear H
          have hcz10_0 : wc.cell? ⟨gb102, 0, none⟩ = some (.int .i64 a0_0) := (blk_cell BK102.out 0).trans rfl
          have hcz10_1 : wc.cell? ⟨gb102, 1, none⟩ = some (.slice A0_1 l0_1.length c0_1) := (blk_cell BK102.out 1).trans rfl
          have hfz10_0 := blk_frozen BK102.out 0
          have hfz10_1 := blk_frozen BK102.out 1
          go_wp2
          go_loopg [20] kj1 (fun kq v20 w' => ∃ (x20_2 : Int), v20 = .int .i64 x20_2 ∧ Aside0 (graph_Check.l0 kq l0_1 (l0_1.length : Int) x20_2 a0_0 l0_1 = some r) ∧ Aside0 (kq ≤ kj1) ∧ Aside0 (w'.heap[gb102]? = some (.cells #[.int .i64 a0_0, (.slice A0_1 l0_1.length c0_1)] 24 (0, 0))) ∧ Aside0 (Below w.heap.size w w'))
          case atStart => exact ⟨(0), (by first | rfl | (simp; done) | (simp [*]; done)), H', ⟨Nat.le_refl _⟩, ⟨by (with_reducible repeat (first | refine blk_drewN ?_ _ | refine blk_drew ?_ | refine blk_alloc ?_ _)); exact BK102.out⟩, ⟨by repeat (first | (with_reducible first | exact HB.out | apply below_alloc | apply pw_below_drewN | apply below_drew1 | refine below_set ?_ GE102.out) | exact HB.out)⟩⟩
          case round =>
            clear H'
            (try clear c1); (try clear p2); (try clear c4); (try clear c4b0); (try clear c7); (try clear c8); (try clear c8b0); (try clear c8b1); (try clear hcz10_0); (try clear hcz10_1); (try clear hcz5_0); (try clear hcz5_1); (try clear hcz6_0); (try clear hcz6_1); (try clear hcz9_0); (try clear hcz9_1); (try clear hfz10_0); (try clear hfz10_1); (try clear hfz5_0); (try clear hfz5_1); (try clear hfz6_0); (try clear hfz6_1); (try clear hfz9_0); (try clear hfz9_1); (try clear p2)
            obtain ⟨x20_2, rfl, HA, HK2, BK102, HB⟩ := hrel
            cases gk with
            | zero => exact absurd HA.out (by simp [graph_Check.l0])
            | succ k2 =>
              have H := HA.out
              clear HA
              simp only [graph_Check.l0] at H
              by_cases c11 : x20_2 < (l0_1.length : Int)
              · rw [if_pos c11] at H
                have c11b0 : decide (x20_2 < (l0_1.length : Int)) = true := decide_eq_true c11
                clear c11
                by_cases c12 : 0 ≤ x20_2
                · rw [if_pos c12] at H
                  have c12b0 : decide (0 ≤ x20_2) = true := decide_eq_true c12
                  clear c12
                  by_cases c13 : x20_2 < (l0_1.length : Int)
                  · rw [if_pos c13] at H
                    have c13b0 : decide (x20_2 < (l0_1.length : Int)) = true := decide_eq_true c13
                    clear c13
                    by_cases c14 : ((rd_T42 l0_1 x20_2).f0) < 0
                    · rw [if_pos c14] at H
                      have c14b0 : decide (((rd_T42 l0_1 x20_2).f0) < 0) = true := decide_eq_true c14
                      clear c14
                      obtain rfl := Option.some.inj H
                      have p103 : 0 ≤ (x20_2 : Int) := of_decide_eq_true (by first | (with_reducible assumption) | assumption)
                      have q103 : x20_2 < (l0_1.length : Int) := of_decide_eq_true (by first | (with_reducible assumption) | assumption)
                      obtain ⟨ad103, e103, hx103_0, hx103_1⟩ := at_T42 HR0_1.out x20_2 p103 q103
                      cases e103
                      replace hx103_0 := (HB.out.cell (World.block_lt_of_cell? w _ hx103_0)).trans hx103_0
                      replace hx103_1 := (HB.out.cell (World.block_lt_of_cell? w _ hx103_1)).trans hx103_1
                      replace p103 := eq_true p103
                      replace q103 := eq_true q103
                      go_wp2_with (first | ((with_reducible refine gate_dst (N := 4) rfl ?_); refine box_event ?hg (N := 4) ?hd (cs := #[.int .i64 0, .int .i64 0]) (t := 42) ?hr ?_; (case hd => rfl); (case hg => rfl); (case hr => first | (go_simp; done) | (go_simp; rfl)); intro gb104 hg w15 hbox hb; have n0_ := Aside0.mk (blk_below (g := gb102) (o := .cells #[.int .i64 a0_0, .slice (some ad103) l0_1.length c0_1] 24 (0, 0)) (by (with_reducible repeat (first | refine blk_drewN ?_ _ | refine blk_drew ?_ | refine blk_alloc ?_ _)); exact BK102.out) hb); have n1_ := Aside0.mk (below_step (by repeat (first | (with_reducible first | exact HB.out | apply below_alloc | apply pw_below_drewN | apply below_drew1 | refine below_set ?_ GE102.out) | exact HB.out)) hb); have n2_ := Aside0.mk (hbox); have n3_ := Aside0.mk ((by rw [hg]; exact (below_size (by repeat (first | (with_reducible first | exact HB.out | apply below_alloc | apply pw_below_drewN | apply below_drew1 | refine below_set ?_ GE102.out) | exact HB.out))) : w.heap.size ≤ gb104)); have n4_ := Aside0.mk ((by rw [hg]; exact (below_size (by repeat (first | (with_reducible first | exact HB.out | apply below_alloc | apply pw_below_drewN | apply below_drew1 | refine below_set ?_ GE102.out) | exact HB.out))) : w.heap.size ≤ gb104)); have n5_ := Aside0.mk ((by rw [hg]; exact Nat.ne_of_lt (blk_lt (g := gb102) (o := .cells #[.int .i64 a0_0, .slice (some ad103) l0_1.length c0_1] 24 (0, 0)) (by (with_reducible repeat (first | refine blk_drewN ?_ _ | refine blk_drew ?_ | refine blk_alloc ?_ _)); exact BK102.out)) : gb102 ≠ gb104)); have n6_ := Aside0.mk ((by rw [hg]; exact Nat.ne_of_gt (blk_lt (g := gb102) (o := .cells #[.int .i64 a0_0, .slice (some ad103) l0_1.length c0_1] 24 (0, 0)) (by (with_reducible repeat (first | refine blk_drewN ?_ _ | refine blk_drew ?_ | refine blk_alloc ?_ _)); exact BK102.out)) : gb104 ≠ gb102)); clear BK102; clear HB; have BK102 := n0_; have HB := n1_; have BK104 := n2_; have GW104 := n3_; have GE104 := n4_; have NB102_104 := n5_; have NB104_102 := n6_; clear n0_ n1_ n2_ n3_ n4_ n5_ n6_; clear hb hbox hg; have hnb16 := NB104_102.out; have hnc16 := NB102_104.out; have hcz17_0 : w15.cell? ⟨gb104, 0, none⟩ = some (.int .i64 0) := (blk_cell BK104.out 0).trans rfl; have hcz17_1 : w15.cell? ⟨gb104, 1, none⟩ = some (.int .i64 0) := (blk_cell BK104.out 1).trans rfl; have hfz17_0 := blk_frozen BK104.out 0; have hfz17_1 := blk_frozen BK104.out 1))
                      go_ret
                      exact ⟨by first | rfl | (simp [errW_none, errW_some] <;> rfl) | (simp [*, errW_none, errW_some] <;> rfl), by repeat (first | (with_reducible first | exact HB.out | apply below_alloc | apply pw_below_drewN | apply below_drew1 | refine below_set ?_ GE102.out | refine below_set ?_ GE104.out) | exact HB.out)⟩
                    · rw [if_neg c14] at H
                      have c14b0 : decide (((rd_T42 l0_1 x20_2).f0) < 0) = false := decide_eq_false c14
                      clear c14
                      by_cases c18 : ((rd_T42 l0_1 x20_2).f0) ≥ a0_0
                      · rw [if_pos c18] at H
                        have c18b0 : decide (a0_0 ≤ ((rd_T42 l0_1 x20_2).f0)) = true := decide_eq_true c18
                        clear c18
                        obtain rfl := Option.some.inj H
                        have p103 : 0 ≤ (x20_2 : Int) := of_decide_eq_true (by first | (with_reducible assumption) | assumption)
                        have q103 : x20_2 < (l0_1.length : Int) := of_decide_eq_true (by first | (with_reducible assumption) | assumption)
                        obtain ⟨ad103, e103, hx103_0, hx103_1⟩ := at_T42 HR0_1.out x20_2 p103 q103
                        cases e103
                        replace hx103_0 := (HB.out.cell (World.block_lt_of_cell? w _ hx103_0)).trans hx103_0
                        replace hx103_1 := (HB.out.cell (World.block_lt_of_cell? w _ hx103_1)).trans hx103_1
                        replace p103 := eq_true p103
                        replace q103 := eq_true q103
                        go_wp2_with (first | ((with_reducible refine gate_dst (N := 4) rfl ?_); refine box_event ?hg (N := 4) ?hd (cs := #[.int .i64 0, .int .i64 0]) (t := 42) ?hr ?_; (case hd => rfl); (case hg => rfl); (case hr => first | (go_simp; done) | (go_simp; rfl)); intro gb104 hg w19 hbox hb; have n0_ := Aside0.mk (blk_below (g := gb102) (o := .cells #[.int .i64 a0_0, .slice (some ad103) l0_1.length c0_1] 24 (0, 0)) (by (with_reducible repeat (first | refine blk_drewN ?_ _ | refine blk_drew ?_ | refine blk_alloc ?_ _)); exact BK102.out) hb); have n1_ := Aside0.mk (below_step (by repeat (first | (with_reducible first | exact HB.out | apply below_alloc | apply pw_below_drewN | apply below_drew1 | refine below_set ?_ GE102.out) | exact HB.out)) hb); have n2_ := Aside0.mk (hbox); have n3_ := Aside0.mk ((by rw [hg]; exact (below_size (by repeat (first | (with_reducible first | exact HB.out | apply below_alloc | apply pw_below_drewN | apply below_drew1 | refine below_set ?_ GE102.out) | exact HB.out))) : w.heap.size ≤ gb104)); have n4_ := Aside0.mk ((by rw [hg]; exact (below_size (by repeat (first | (with_reducible first | exact HB.out | apply below_alloc | apply pw_below_drewN | apply below_drew1 | refine below_set ?_ GE102.out) | exact HB.out))) : w.heap.size ≤ gb104)); have n5_ := Aside0.mk ((by rw [hg]; exact Nat.ne_of_lt (blk_lt (g := gb102) (o := .cells #[.int .i64 a0_0, .slice (some ad103) l0_1.length c0_1] 24 (0, 0)) (by (with_reducible repeat (first | refine blk_drewN ?_ _ | refine blk_drew ?_ | refine blk_alloc ?_ _)); exact BK102.out)) : gb102 ≠ gb104)); have n6_ := Aside0.mk ((by rw [hg]; exact Nat.ne_of_gt (blk_lt (g := gb102) (o := .cells #[.int .i64 a0_0, .slice (some ad103) l0_1.length c0_1] 24 (0, 0)) (by (with_reducible repeat (first | refine blk_drewN ?_ _ | refine blk_drew ?_ | refine blk_alloc ?_ _)); exact BK102.out)) : gb104 ≠ gb102)); clear BK102; clear HB; have BK102 := n0_; have HB := n1_; have BK104 := n2_; have GW104 := n3_; have GE104 := n4_; have NB102_104 := n5_; have NB104_102 := n6_; clear n0_ n1_ n2_ n3_ n4_ n5_ n6_; clear hb hbox hg; have hnb20 := NB104_102.out; have hnc20 := NB102_104.out; have hcz21_0 : w19.cell? ⟨gb104, 0, none⟩ = some (.int .i64 0) := (blk_cell BK104.out 0).trans rfl; have hcz21_1 : w19.cell? ⟨gb104, 1, none⟩ = some (.int .i64 0) := (blk_cell BK104.out 1).trans rfl; have hfz21_0 := blk_frozen BK104.out 0; have hfz21_1 := blk_frozen BK104.out 1; have hcz22_0 : w19.cell? ⟨gb102, 0, none⟩ = some (.int .i64 a0_0) := (blk_cell BK102.out 0).trans rfl; have hcz22_1 : w19.cell? ⟨gb102, 1, none⟩ = some (.slice (some ad103) l0_1.length c0_1) := (blk_cell BK102.out 1).trans rfl; have hfz22_0 := blk_frozen BK102.out 0; have hfz22_1 := blk_frozen BK102.out 1))
                        go_ret
                        exact ⟨by first | rfl | (simp [errW_none, errW_some] <;> rfl) | (simp [*, errW_none, errW_some] <;> rfl), by repeat (first | (with_reducible first | exact HB.out | apply below_alloc | apply pw_below_drewN | apply below_drew1 | refine below_set ?_ GE102.out | refine below_set ?_ GE104.out) | exact HB.out)⟩
                      · rw [if_neg c18] at H
                        have c18b0 : decide (a0_0 ≤ ((rd_T42 l0_1 x20_2).f0)) = false := decide_eq_false c18
                        clear c18
                        by_cases c23 : ((rd_T42 l0_1 x20_2).f1) < 0
                        · rw [if_pos c23] at H
                          have c23b0 : decide (((rd_T42 l0_1 x20_2).f1) < 0) = true := decide_eq_true c23
                          clear c23
                          obtain rfl := Option.some.inj H
                          have p103 : 0 ≤ (x20_2 : Int) := of_decide_eq_true (by first | (with_reducible assumption) | assumption)
                          have q103 : x20_2 < (l0_1.length : Int) := of_decide_eq_true (by first | (with_reducible assumption) | assumption)
                          obtain ⟨ad103, e103, hx103_0, hx103_1⟩ := at_T42 HR0_1.out x20_2 p103 q103
                          cases e103
                          replace hx103_0 := (HB.out.cell (World.block_lt_of_cell? w _ hx103_0)).trans hx103_0
                          replace hx103_1 := (HB.out.cell (World.block_lt_of_cell? w _ hx103_1)).trans hx103_1
                          replace p103 := eq_true p103
                          replace q103 := eq_true q103
                          go_wp2_with (first | ((with_reducible refine gate_dst (N := 4) rfl ?_); refine box_event ?hg (N := 4) ?hd (cs := #[.int .i64 0, .int .i64 0]) (t := 42) ?hr ?_; (case hd => rfl); (case hg => rfl); (case hr => first | (go_simp; done) | (go_simp; rfl)); intro gb104 hg w24 hbox hb; have n0_ := Aside0.mk (blk_below (g := gb102) (o := .cells #[.int .i64 a0_0, .slice (some ad103) l0_1.length c0_1] 24 (0, 0)) (by (with_reducible repeat (first | refine blk_drewN ?_ _ | refine blk_drew ?_ | refine blk_alloc ?_ _)); exact BK102.out) hb); have n1_ := Aside0.mk (below_step (by repeat (first | (with_reducible first | exact HB.out | apply below_alloc | apply pw_below_drewN | apply below_drew1 | refine below_set ?_ GE102.out) | exact HB.out)) hb); have n2_ := Aside0.mk (hbox); have n3_ := Aside0.mk ((by rw [hg]; exact (below_size (by repeat (first | (with_reducible first | exact HB.out | apply below_alloc | apply pw_below_drewN | apply below_drew1 | refine below_set ?_ GE102.out) | exact HB.out))) : w.heap.size ≤ gb104)); have n4_ := Aside0.mk ((by rw [hg]; exact (below_size (by repeat (first | (with_reducible first | exact HB.out | apply below_alloc | apply pw_below_drewN | apply below_drew1 | refine below_set ?_ GE102.out) | exact HB.out))) : w.heap.size ≤ gb104)); have n5_ := Aside0.mk ((by rw [hg]; exact Nat.ne_of_lt (blk_lt (g := gb102) (o := .cells #[.int .i64 a0_0, .slice (some ad103) l0_1.length c0_1] 24 (0, 0)) (by (with_reducible repeat (first | refine blk_drewN ?_ _ | refine blk_drew ?_ | refine blk_alloc ?_ _)); exact BK102.out)) : gb102 ≠ gb104)); have n6_ := Aside0.mk ((by rw [hg]; exact Nat.ne_of_gt (blk_lt (g := gb102) (o := .cells #[.int .i64 a0_0, .slice (some ad103) l0_1.length c0_1] 24 (0, 0)) (by (with_reducible repeat (first | refine blk_drewN ?_ _ | refine blk_drew ?_ | refine blk_alloc ?_ _)); exact BK102.out)) : gb104 ≠ gb102)); clear BK102; clear HB; have BK102 := n0_; have HB := n1_; have BK104 := n2_; have GW104 := n3_; have GE104 := n4_; have NB102_104 := n5_; have NB104_102 := n6_; clear n0_ n1_ n2_ n3_ n4_ n5_ n6_; clear hb hbox hg; have hnb25 := NB104_102.out; have hnc25 := NB102_104.out; have hcz26_0 : w24.cell? ⟨gb104, 0, none⟩ = some (.int .i64 0) := (blk_cell BK104.out 0).trans rfl; have hcz26_1 : w24.cell? ⟨gb104, 1, none⟩ = some (.int .i64 0) := (blk_cell BK104.out 1).trans rfl; have hfz26_0 := blk_frozen BK104.out 0; have hfz26_1 := blk_frozen BK104.out 1; have hcz27_0 : w24.cell? ⟨gb102, 0, none⟩ = some (.int .i64 a0_0) := (blk_cell BK102.out 0).trans rfl; have hcz27_1 : w24.cell? ⟨gb102, 1, none⟩ = some (.slice (some ad103) l0_1.length c0_1) := (blk_cell BK102.out 1).trans rfl; have hfz27_0 := blk_frozen BK102.out 0; have hfz27_1 := blk_frozen BK102.out 1))
                          go_ret
                          exact ⟨by first | rfl | (simp [errW_none, errW_some] <;> rfl) | (simp [*, errW_none, errW_some] <;> rfl), by repeat (first | (with_reducible first | exact HB.out | apply below_alloc | apply pw_below_drewN | apply below_drew1 | refine below_set ?_ GE102.out | refine below_set ?_ GE104.out) | exact HB.out)⟩
                        · rw [if_neg c23] at H
                          have c23b0 : decide (((rd_T42 l0_1 x20_2).f1) < 0) = false := decide_eq_false c23
                          clear c23
                          by_cases c28 : ((rd_T42 l0_1 x20_2).f1) ≥ a0_0
                          · rw [if_pos c28] at H
                            have c28b0 : decide (a0_0 ≤ ((rd_T42 l0_1 x20_2).f1)) = true := decide_eq_true c28
                            clear c28
                            obtain rfl := Option.some.inj H
                            have p103 : 0 ≤ (x20_2 : Int) := of_decide_eq_true (by first | (with_reducible assumption) | assumption)
                            have q103 : x20_2 < (l0_1.length : Int) := of_decide_eq_true (by first | (with_reducible assumption) | assumption)
                            obtain ⟨ad103, e103, hx103_0, hx103_1⟩ := at_T42 HR0_1.out x20_2 p103 q103
                            cases e103
                            replace hx103_0 := (HB.out.cell (World.block_lt_of_cell? w _ hx103_0)).trans hx103_0
                            replace hx103_1 := (HB.out.cell (World.block_lt_of_cell? w _ hx103_1)).trans hx103_1
                            replace p103 := eq_true p103
                            replace q103 := eq_true q103
                            go_wp2_with (first | ((with_reducible refine gate_dst (N := 4) rfl ?_); refine box_event ?hg (N := 4) ?hd (cs := #[.int .i64 0, .int .i64 0]) (t := 42) ?hr ?_; (case hd => rfl); (case hg => rfl); (case hr => first | (go_simp; done) | (go_simp; rfl)); intro gb104 hg w29 hbox hb; have n0_ := Aside0.mk (blk_below (g := gb102) (o := .cells #[.int .i64 a0_0, .slice (some ad103) l0_1.length c0_1] 24 (0, 0)) (by (with_reducible repeat (first | refine blk_drewN ?_ _ | refine blk_drew ?_ | refine blk_alloc ?_ _)); exact BK102.out) hb); have n1_ := Aside0.mk (below_step (by repeat (first | (with_reducible first | exact HB.out | apply below_alloc | apply pw_below_drewN | apply below_drew1 | refine below_set ?_ GE102.out) | exact HB.out)) hb); have n2_ := Aside0.mk (hbox); have n3_ := Aside0.mk ((by rw [hg]; exact (below_size (by repeat (first | (with_reducible first | exact HB.out | apply below_alloc | apply pw_below_drewN | apply below_drew1 | refine below_set ?_ GE102.out) | exact HB.out))) : w.heap.size ≤ gb104)); have n4_ := Aside0.mk ((by rw [hg]; exact (below_size (by repeat (first | (with_reducible first | exact HB.out | apply below_alloc | apply pw_below_drewN | apply below_drew1 | refine below_set ?_ GE102.out) | exact HB.out))) : w.heap.size ≤ gb104)); have n5_ := Aside0.mk ((by rw [hg]; exact Nat.ne_of_lt (blk_lt (g := gb102) (o := .cells #[.int .i64 a0_0, .slice (some ad103) l0_1.length c0_1] 24 (0, 0)) (by (with_reducible repeat (first | refine blk_drewN ?_ _ | refine blk_drew ?_ | refine blk_alloc ?_ _)); exact BK102.out)) : gb102 ≠ gb104)); have n6_ := Aside0.mk ((by rw [hg]; exact Nat.ne_of_gt (blk_lt (g := gb102) (o := .cells #[.int .i64 a0_0, .slice (some ad103) l0_1.length c0_1] 24 (0, 0)) (by (with_reducible repeat (first | refine blk_drewN ?_ _ | refine blk_drew ?_ | refine blk_alloc ?_ _)); exact BK102.out)) : gb104 ≠ gb102)); clear BK102; clear HB; have BK102 := n0_; have HB := n1_; have BK104 := n2_; have GW104 := n3_; have GE104 := n4_; have NB102_104 := n5_; have NB104_102 := n6_; clear n0_ n1_ n2_ n3_ n4_ n5_ n6_; clear hb hbox hg; have hnb30 := NB104_102.out; have hnc30 := NB102_104.out; have hcz31_0 : w29.cell? ⟨gb104, 0, none⟩ = some (.int .i64 0) := (blk_cell BK104.out 0).trans rfl; have hcz31_1 : w29.cell? ⟨gb104, 1, none⟩ = some (.int .i64 0) := (blk_cell BK104.out 1).trans rfl; have hfz31_0 := blk_frozen BK104.out 0; have hfz31_1 := blk_frozen BK104.out 1; have hcz32_0 : w29.cell? ⟨gb102, 0, none⟩ = some (.int .i64 a0_0) := (blk_cell BK102.out 0).trans rfl; have hcz32_1 : w29.cell? ⟨gb102, 1, none⟩ = some (.slice (some ad103) l0_1.length c0_1) := (blk_cell BK102.out 1).trans rfl; have hfz32_0 := blk_frozen BK102.out 0; have hfz32_1 := blk_frozen BK102.out 1))
                            go_ret
                            exact ⟨by first | rfl | (simp [errW_none, errW_some] <;> rfl) | (simp [*, errW_none, errW_some] <;> rfl), by repeat (first | (with_reducible first | exact HB.out | apply below_alloc | apply pw_below_drewN | apply below_drew1 | refine below_set ?_ GE102.out | refine below_set ?_ GE104.out) | exact HB.out)⟩
                          · rw [if_neg c28] at H
                            have c28b0 : decide (a0_0 ≤ ((rd_T42 l0_1 x20_2).f1)) = false := decide_eq_false c28
                            clear c28
                            have H' := Aside0.mk H
                            clear H
                            have p103 : 0 ≤ (x20_2 : Int) := of_decide_eq_true (by first | (with_reducible assumption) | assumption)
                            have q103 : x20_2 < (l0_1.length : Int) := of_decide_eq_true (by first | (with_reducible assumption) | assumption)
                            obtain ⟨ad103, e103, hx103_0, hx103_1⟩ := at_T42 HR0_1.out x20_2 p103 q103
                            cases e103
                            replace hx103_0 := (HB.out.cell (World.block_lt_of_cell? w _ hx103_0)).trans hx103_0
                            replace hx103_1 := (HB.out.cell (World.block_lt_of_cell? w _ hx103_1)).trans hx103_1
                            replace p103 := eq_true p103
                            replace q103 := eq_true q103
                            go_wp2_with (first | ((with_reducible refine gate_dst (N := 4) rfl ?_); refine box_event ?hg (N := 4) ?hd (cs := #[.int .i64 0, .int .i64 0]) (t := 42) ?hr ?_; (case hd => rfl); (case hg => rfl); (case hr => first | (go_simp; done) | (go_simp; rfl)); intro gb104 hg w33 hbox hb; have n0_ := Aside0.mk (blk_below (g := gb102) (o := .cells #[.int .i64 a0_0, .slice (some ad103) l0_1.length c0_1] 24 (0, 0)) (by (with_reducible repeat (first | refine blk_drewN ?_ _ | refine blk_drew ?_ | refine blk_alloc ?_ _)); exact BK102.out) hb); have n1_ := Aside0.mk (below_step (by repeat (first | (with_reducible first | exact HB.out | apply below_alloc | apply pw_below_drewN | apply below_drew1 | refine below_set ?_ GE102.out) | exact HB.out)) hb); have n2_ := Aside0.mk (hbox); have n3_ := Aside0.mk ((by rw [hg]; exact (below_size (by repeat (first | (with_reducible first | exact HB.out | apply below_alloc | apply pw_below_drewN | apply below_drew1 | refine below_set ?_ GE102.out) | exact HB.out))) : w.heap.size ≤ gb104)); have n4_ := Aside0.mk ((by rw [hg]; exact (below_size (by repeat (first | (with_reducible first | exact HB.out | apply below_alloc | apply pw_below_drewN | apply below_drew1 | refine below_set ?_ GE102.out) | exact HB.out))) : w.heap.size ≤ gb104)); have n5_ := Aside0.mk ((by rw [hg]; exact Nat.ne_of_lt (blk_lt (g := gb102) (o := .cells #[.int .i64 a0_0, .slice (some ad103) l0_1.length c0_1] 24 (0, 0)) (by (with_reducible repeat (first | refine blk_drewN ?_ _ | refine blk_drew ?_ | refine blk_alloc ?_ _)); exact BK102.out)) : gb102 ≠ gb104)); have n6_ := Aside0.mk ((by rw [hg]; exact Nat.ne_of_gt (blk_lt (g := gb102) (o := .cells #[.int .i64 a0_0, .slice (some ad103) l0_1.length c0_1] 24 (0, 0)) (by (with_reducible repeat (first | refine blk_drewN ?_ _ | refine blk_drew ?_ | refine blk_alloc ?_ _)); exact BK102.out)) : gb104 ≠ gb102)); clear BK102; clear HB; have BK102 := n0_; have HB := n1_; have BK104 := n2_; have GW104 := n3_; have GE104 := n4_; have NB102_104 := n5_; have NB104_102 := n6_; clear n0_ n1_ n2_ n3_ n4_ n5_ n6_; clear hb hbox hg; have hnb34 := NB104_102.out; have hnc34 := NB102_104.out; have hcz35_0 : w33.cell? ⟨gb104, 0, none⟩ = some (.int .i64 0) := (blk_cell BK104.out 0).trans rfl; have hcz35_1 : w33.cell? ⟨gb104, 1, none⟩ = some (.int .i64 0) := (blk_cell BK104.out 1).trans rfl; have hfz35_0 := blk_frozen BK104.out 0; have hfz35_1 := blk_frozen BK104.out 1; have hcz36_0 : w33.cell? ⟨gb102, 0, none⟩ = some (.int .i64 a0_0) := (blk_cell BK102.out 0).trans rfl; have hcz36_1 : w33.cell? ⟨gb102, 1, none⟩ = some (.slice (some ad103) l0_1.length c0_1) := (blk_cell BK102.out 1).trans rfl; have hfz36_0 := blk_frozen BK102.out 0; have hfz36_1 := blk_frozen BK102.out 1))
                            go_roundg k2
                            case measure => have := HJ1.out; have := HK2.out; omega
                            case rel => exact ⟨(wrap64 (x20_2 + 1)), (by first | rfl | (simp; done) | (simp [*]; done)), H', ⟨by have := HJ1.out; have := HK2.out; omega⟩, ⟨by (with_reducible repeat (first | refine blk_drewN ?_ _ | refine blk_drew ?_ | refine blk_alloc ?_ _)); refine blk_far ?_ NB102_104.out _; (with_reducible repeat (first | refine blk_drewN ?_ _ | refine blk_drew ?_ | refine blk_alloc ?_ _)); refine blk_far ?_ NB102_104.out _; (with_reducible repeat (first | refine blk_drewN ?_ _ | refine blk_drew ?_ | refine blk_alloc ?_ _)); exact BK102.out⟩, ⟨by repeat (first | (with_reducible first | exact HB.out | apply below_alloc | apply pw_below_drewN | apply below_drew1 | refine below_set ?_ GE102.out | refine below_set ?_ GE104.out) | exact HB.out)⟩⟩
                  · rw [if_neg c13] at H
                    exact absurd H (by simp)
                · rw [if_neg c12] at H
                  exact absurd H (by simp)
              · rw [if_neg c11] at H
                have c11b0 : decide (x20_2 < (l0_1.length : Int)) = false := decide_eq_false c11
                clear c11
                obtain rfl := Option.some.inj H
                go_wp2
                go_ret
                exact ⟨by first | rfl | (simp [errW_none, errW_some] <;> rfl) | (simp [*, errW_none, errW_some] <;> rfl), by repeat (first | (with_reducible first | exact HB.out | apply below_alloc | apply pw_below_drewN | apply below_drew1 | refine below_set ?_ GE102.out) | exact HB.out)⟩

-- NOT PRINTED: function 37 (api_Arc_37)

-- NOT PRINTED: function 30 (api_Arc_30)

/-! ### graph_Order: function 16, by hand -/
/-- Does an arc lead to n from a node that is not done. -/
def arcHit (d : List Bool) (n : Int) (a : S42) : Bool := (a.f1 == n) && !(d.getD a.f0.toNat false)
/-- The first place at which p holds; -1 if there is none. -/
def idxI {α : Type} (p : α → Bool) (l : List α) : Int := match l.findIdx? p with | some i => (i : Int) | none => -1
theorem idxI_hit {α : Type} (p : α → Bool) (l : List α) (z : α) (k : Nat) (hk : k < l.length) (h0 : ∀ j, j < k → p (l.getD j z) = false) (h : p (l.getD k z) = true) : idxI p l = (k : Int) := by
  unfold idxI
  have : l.findIdx? p = some k := by
    rw [List.findIdx?_eq_some_iff_getElem]
    refine ⟨hk, by simpa [List.getD_eq_getElem?_getD, hk] using h, fun j hj => ?_⟩
    have := h0 j hj
    simp only [List.getD_eq_getElem?_getD, List.getElem?_eq_getElem (show j < l.length by omega), Option.getD_some] at this
    simp [this]
  rw [this]
theorem idxI_miss {α : Type} (p : α → Bool) (l : List α) (z : α) (h0 : ∀ j, j < l.length → p (l.getD j z) = false) : idxI p l = -1 := by
  unfold idxI
  have : l.findIdx? p = none := by
    rw [List.findIdx?_eq_none_iff]
    intro x hx
    obtain ⟨i, hi, rfl⟩ := List.mem_iff_getElem.1 hx
    have := h0 i hi
    simpa [List.getD_eq_getElem?_getD, hi] using this
  rw [this]
theorem idxI_any {α : Type} (p : α → Bool) (l : List α) : decide (0 ≤ idxI p l) = l.any p := by
  unfold idxI
  cases h : l.findIdx? p with
  | none =>
    rw [List.findIdx?_eq_none_iff] at h
    have : l.any p = false := by rw [List.any_eq_false]; intro x hx; simpa using h x hx
    rw [this]; rfl
  | some i =>
    rw [List.findIdx?_eq_some_iff_getElem] at h
    obtain ⟨hi, hp, _⟩ := h
    have : l.any p = true := List.any_eq_true.2 ⟨_, List.getElem_mem hi, hp⟩
    rw [this]; simp
/-- What the closure reads: n's variable, done's variable, done's cells. -/
structure Seen (w : World) (pn pd gs cd : Nat) (n : Int) (d : List Bool) : Prop where
  sn : w.cell? ⟨pn, 0, none⟩ = some (.int .i64 n)
  sd : w.cell? ⟨pd, 0, none⟩ = some (.slice (some ⟨gs, 0, none⟩) d.length cd)
  sx : ∀ i : Int, 0 ≤ i → i < d.length → w.cell? ⟨gs, i.toNat, none⟩ = some (.bool (d.getD i.toNat false))
theorem Seen.below {w w' : World} {pn pd gs cd : Nat} {n : Int} {d : List Bool} (h : Seen w pn pd gs cd n d) (hb : Below w.heap.size w w') : Seen w' pn pd gs cd n d :=
  ⟨(hb.cell (World.block_lt_of_cell? w _ h.sn)).trans h.sn, (hb.cell (World.block_lt_of_cell? w _ h.sd)).trans h.sd, fun i h0 h1 => (hb.cell (World.block_lt_of_cell? w _ (h.sx i h0 h1))).trans (h.sx i h0 h1)⟩
theorem o31_calls (x : S42) (n : Int) (d : List Bool) (pn pd gs cd : Nat) (w : World) (hs : Seen w pn pd gs cd n d) (h0 : 0 ≤ x.f0) (h1 : x.f0 < (d.length : Int)) :
    Calls Try.prog 31 #[.agg #[.int .i64 x.f0, .int .i64 x.f1], .pointer (some ⟨pn, 0, none⟩), .pointer (some ⟨pd, 0, none⟩)] w fun e w' => e = .returned (.bool (arcHit d n x)) ∧ Below w.heap.size w w' := by
  have hu42 := Try.underlying42
  have HS := Aside0.mk hs
  clear hs
  have c0 : decide (0 ≤ x.f0) = true := decide_eq_true h0
  have c1 : decide (x.f0 < (d.length : Int)) = true := decide_eq_true h1
  have h0' := eq_true h0
  have h1' := eq_true h1
  by_cases c2 : x.f1 = n
  · have c2b0 : (x.f1 == n) = true := beq_iff_eq.mpr c2
    have c2b1 : (x.f1 != n) = false := bne_eq_false_iff_eq.mpr c2
    have hr : arcHit d n x = !(d.getD x.f0.toNat false) := by unfold arcHit; rw [c2b0]; rfl
    obtain ⟨b, EB⟩ : ∃ b, Aside0 (b = d.getD x.f0.toNat false) := ⟨_, ⟨rfl⟩⟩
    rw [hr]
    try rw [← EB.out]
    clear hr c2
    go_enter Try.func31, Try.ntmps31
    go_wp2_with ((with_reducible refine gate_dst (N := 3) rfl ?_); refine box_event ?hg (N := 3) ?hd (cs := #[.int .i64 x.f0, .int .i64 x.f1]) (t := 42) ?hr ?_; (case hd => rfl); (case hg => rfl); (case hr => first | (go_simp; done) | (go_simp; rfl)); intro gb hg w5 hbox hb; have BK := Aside0.mk hbox; have HB := Aside0.mk hb; have hn := (HS.out.below hb).sn; have hd := (HS.out.below hb).sd; have hx := (HS.out.below hb).sx x.f0 h0 h1; rw [← EB.out] at hx; have hc0 : w5.cell? ⟨gb, 0, none⟩ = some (.int .i64 x.f0) := (blk_cell BK.out 0).trans rfl; have hc1 : w5.cell? ⟨gb, 1, none⟩ = some (.int .i64 x.f1) := (blk_cell BK.out 1).trans rfl; have hf0 := blk_frozen BK.out 0; have hf1 := blk_frozen BK.out 1; clear hbox hb hg)
    go_ret
    exact ⟨rfl, HB.out⟩
  · have c2b0 : (x.f1 == n) = false := beq_eq_false_iff_ne.mpr c2
    have c2b1 : (x.f1 != n) = true := bne_iff_ne.mpr c2
    have hr : arcHit d n x = false := by unfold arcHit; rw [c2b0]; rfl
    obtain ⟨b, EB⟩ : ∃ b, Aside0 (b = d.getD x.f0.toNat false) := ⟨_, ⟨rfl⟩⟩
    rw [hr]
    try rw [← EB.out]
    clear hr c2
    go_enter Try.func31, Try.ntmps31
    go_wp2_with ((with_reducible refine gate_dst (N := 3) rfl ?_); refine box_event ?hg (N := 3) ?hd (cs := #[.int .i64 x.f0, .int .i64 x.f1]) (t := 42) ?hr ?_; (case hd => rfl); (case hg => rfl); (case hr => first | (go_simp; done) | (go_simp; rfl)); intro gb hg w5 hbox hb; have BK := Aside0.mk hbox; have HB := Aside0.mk hb; have hn := (HS.out.below hb).sn; have hd := (HS.out.below hb).sd; have hx := (HS.out.below hb).sx x.f0 h0 h1; rw [← EB.out] at hx; have hc0 : w5.cell? ⟨gb, 0, none⟩ = some (.int .i64 x.f0) := (blk_cell BK.out 0).trans rfl; have hc1 : w5.cell? ⟨gb, 1, none⟩ = some (.int .i64 x.f1) := (blk_cell BK.out 1).trans rfl; have hf0 := blk_frozen BK.out 0; have hf1 := blk_frozen BK.out 1; clear hbox hb hg)
    go_ret
    exact ⟨rfl, HB.out⟩
theorem idx37_calls (A0 : Option Addr) (c0 : Nat) (l0 : List S42) (n : Int) (d : List Bool) (pn pd gs cd : Nat) (w : World) (hr0 : Kd.C k42 w A0 l0.length l0) (hs : Seen w pn pd gs cd n d) (hd : ∀ x ∈ l0, 0 ≤ x.f0 ∧ x.f0 < (d.length : Int)) :
    Calls Try.prog 37 #[.slice A0 l0.length c0, .func (.func 31) #[] #[.pointer (some ⟨pn, 0, none⟩), .pointer (some ⟨pd, 0, none⟩)]] w fun e w' => e = .returned (.int .i64 (idxI (arcHit d n) l0)) ∧ Below w.heap.size w w' := by
  have hu42 := Try.underlying42
  have hlen := hr0.2.1
  have HR0 := Aside0.mk hr0
  have HS := Aside0.mk hs
  have HD := Aside0.mk hd
  clear hr0 hs hd
  go_enter Try.func37, Try.ntmps37
  go_wp2
  go_loopg [5, 8] l0.length (fun gg v5 v8 wr => ∃ kk : Nat, kk ≤ l0.length ∧ l0.length - kk ≤ gg ∧ v8 = .int .i64 kk ∧ Aside0 (Below w.heap.size w wr) ∧ Aside0 (∀ j, j < kk → arcHit d n (l0.getD j z42) = false))
  case atStart => exact ⟨0, Nat.zero_le _, by omega, rfl, ⟨Below.refl _ w⟩, ⟨fun j hj => absurd hj (Nat.not_lt_zero _)⟩⟩
  case round =>
    obtain ⟨kk, hkk, hg, rfl, HB, HF⟩ := hrel
    by_cases hlt : kk < l0.length
    · have hltz : (kk : Int) < (l0.length : Int) := by omega
      obtain ⟨ad, e, h0, h1⟩ := at_T42 HR0.out (kk : Int) (by omega) (by omega)
      subst e
      rw [show rd_T42 l0 (kk : Int) = l0.getD kk z42 by simp [rd_T42]] at h0 h1
      have HX : ∃ x, Aside0 (x = l0.getD kk z42) := ⟨_, ⟨rfl⟩⟩
      obtain ⟨x, HX⟩ := HX
      have hin : x ∈ l0 := by rw [HX.out, List.getD_eq_getElem?_getD, List.getElem?_eq_getElem hlt]; exact List.getElem_mem hlt
      have HI := Aside0.mk (HD.out x hin)
      clear hin
      rw [← HX.out, Int.toNat_natCast] at h0 h1
      replace h0 := (HB.out.cell (World.block_lt_of_cell? w _ h0)).trans h0
      replace h1 := (HB.out.cell (World.block_lt_of_cell? w _ h1)).trans h1
      have HV := Aside0.mk (o31_calls x n d pn pd gs cd _ (HS.out.below HB.out) HI.out.1 HI.out.2)
      cases hq : arcHit d n x with
      | true =>
        have HQ := Aside0.mk hq
        rw [hq] at HV
        clear hq
        go_wp2_with (go_at_call 31; refine HV.out.mono ?_; rintro e w' ⟨rfl, hb⟩)
        go_ret
        exact ⟨by rw [idxI_hit (arcHit d n) l0 z42 kk hlt HF.out (by rw [← HX.out, HQ.out])]; rfl, below_step HB.out hb⟩
      | false =>
        have HQ := Aside0.mk hq
        rw [hq] at HV
        clear hq
        go_wp2_with (go_at_call 31; refine HV.out.mono ?_; rintro e w' ⟨rfl, hb⟩)
        go_roundg (l0.length - (kk + 1))
        case measure => omega
        case rel =>
          refine ⟨kk + 1, by omega, by omega, by go_num, ⟨below_step HB.out hb⟩, ⟨fun j hj => ?_⟩⟩
          by_cases e : j = kk
          · subst e
            rw [← HX.out, HQ.out]
          · exact HF.out j (by omega)
    · have hltz : ¬ (kk : Int) < (l0.length : Int) := by omega
      have : kk = l0.length := by omega
      subst this
      go_wp2
      go_ret
      exact ⟨by rw [idxI_miss (arcHit d n) l0 z42 HF.out]; rfl, HB.out⟩
theorem cont30_calls (A0 : Option Addr) (c0 : Nat) (l0 : List S42) (n : Int) (d : List Bool) (pn pd gs cd : Nat) (w : World) (hr0 : Kd.C k42 w A0 l0.length l0) (hs : Seen w pn pd gs cd n d) (hd : ∀ x ∈ l0, 0 ≤ x.f0 ∧ x.f0 < (d.length : Int)) :
    Calls Try.prog 30 #[.slice A0 l0.length c0, .func (.func 31) #[] #[.pointer (some ⟨pn, 0, none⟩), .pointer (some ⟨pd, 0, none⟩)]] w fun e w' => e = .returned (.bool (l0.any (arcHit d n))) ∧ Below w.heap.size w w' := by
  have hi := idx37_calls A0 c0 l0 n d pn pd gs cd w hr0 hs hd
  rw [← idxI_any]
  generalize idxI (arcHit d n) l0 = j at hi ⊢
  go_enter Try.func30, Try.ntmps30
  go_wp2_with (go_at_call 37; refine hi.mono ?_; rintro e w' ⟨rfl, hb⟩)
  go_ret
  exact ⟨rfl, hb⟩
/-- Is a node free: not done, and no arc leads to it from one that is not done. -/
def oFree (l : List S42) (d : List Bool) (n : Nat) : Bool := !(d.getD n false) && !(l.any (arcHit d (n : Int)))
/-- The least free node below j; nx if there is none. -/
def oNext (l : List S42) (d : List Bool) : Nat → Int → Int
  | 0, nx => nx
  | j + 1, nx => oNext l d j (if oFree l d j = true then (j : Int) else nx)
theorem oNext_in (l : List S42) (d : List Bool) : ∀ (j : Nat) (nx : Int), oNext l d j nx = nx ∨ (0 ≤ oNext l d j nx ∧ oNext l d j nx < j)
  | 0, nx => Or.inl rfl
  | j + 1, nx => by
    have ih := oNext_in l d j (if oFree l d j = true then (j : Int) else nx)
    unfold oNext
    split at ih <;> rename_i h
    · rw [if_pos h]; right; rcases ih with ih | ih
      · rw [ih]; omega
      · omega
    · rw [if_neg h]; rcases ih with ih | ih
      · exact Or.inl ih
      · right; omega
/-- Node after node, the least free one each time. -/
def oRun (l : List S42) (N : Int) : Nat → List Bool → List Int → Option (List Int × Int)
  | 0, _, _ => none
  | k + 1, d, out => if (out.length : Int) < N then (if oNext l d N.toNat (-1) < 0 then some ([], 11) else oRun l N k (d.set (oNext l d N.toNat (-1)).toNat true) (out ++ [oNext l d N.toNat (-1)])) else some (out, 0)
theorem oRun_mono (l : List S42) (N : Int) : ∀ k d out, LeO (oRun l N k d out) (oRun l N (k + 1) d out)
  | 0, _, _ => by intro r h; simp [oRun] at h
  | k + 1, d, out => by
    unfold oRun
    refine LeO.ite (LeO.ite (LeO.refl _) ?_) (LeO.refl _)
    exact oRun_mono l N k _ _
def graph_Order.f (k : Nat) (a0 : Int) (l : List S42) : Option (List Int × Int) := (graph_Check.f k a0 l).bind fun e => if e = 0 then oRun l a0 k (List.replicate a0.toNat false) [] else some ([], e)
theorem graph_Order.mono : ∀ a0 a1 k, LeO (graph_Order.f k a0 a1) (graph_Order.f (k + 1) a0 a1) := by
  intro a0 a1 k
  unfold graph_Order.f
  refine LeO.bind (graph_Check.mono _ _ _) fun _ => LeO.ite (oRun_mono _ _ _ _ _) (LeO.refl _)
/-- What is known where Check returns 0. -/
def Fit (N : Int) (l : List S42) : Prop := 0 ≤ N ∧ N ≤ 64 ∧ l.length ≤ 512 ∧ ∀ x ∈ l, (0 ≤ x.f0 ∧ x.f0 < N) ∧ 0 ≤ x.f1 ∧ x.f1 < N
theorem check_l0_fit (l : List S42) (n : Int) (N : Int) (l' : List S42) (hn : n = l.length) (hl : l.length ≤ 512) : ∀ (k : Nat) (i : Int), graph_Check.l0 k l n i N l' = some 0 → 0 ≤ i → ∀ j : Nat, i ≤ j → (hj : j < l.length) → (0 ≤ (l[j]).f0 ∧ (l[j]).f0 < N) ∧ 0 ≤ (l[j]).f1 ∧ (l[j]).f1 < N
  | 0, i, h, _, _, _, _ => by simp [graph_Check.l0] at h
  | k + 1, i, h, h0, j, hij, hj => by
    unfold graph_Check.l0 at h
    rw [if_pos (by omega), if_pos h0, if_pos (by omega)] at h
    by_cases c1 : (rd_T42 l i).f0 < 0
    · rw [if_pos c1] at h; exact absurd h (by decide)
    rw [if_neg c1] at h
    by_cases c2 : (rd_T42 l i).f0 ≥ N
    · rw [if_pos c2] at h; exact absurd h (by decide)
    rw [if_neg c2] at h
    by_cases c3 : (rd_T42 l i).f1 < 0
    · rw [if_pos c3] at h; exact absurd h (by decide)
    rw [if_neg c3] at h
    by_cases c4 : (rd_T42 l i).f1 ≥ N
    · rw [if_pos c4] at h; exact absurd h (by decide)
    rw [if_neg c4] at h
    by_cases e : i = j
    · subst e
      have : rd_T42 l (j : Int) = l[j] := by simp [rd_T42, hj]
      rw [this] at c1 c2 c3 c4
      omega
    · have hw : wrap64 (i + 1) = i + 1 := by unfold wrap64; omega
      rw [hw] at h
      exact check_l0_fit l n N l' hn hl k (i + 1) h (by omega) j (by omega) hj
theorem check_fit {k : Nat} {N : Int} {l : List S42} (h : graph_Check.f k N l = some 0) : Fit N l := by
  unfold graph_Check.f at h
  cases k with
  | zero => split at h <;> simp [graph_Check.j0] at h
  | succ k =>
    by_cases c0 : N < 0
    · rw [if_pos c0] at h; simp [graph_Check.j0] at h
    rw [if_neg c0] at h
    simp only [graph_Check.j0] at h
    by_cases c1 : N > 64
    · rw [if_pos (by simp [c1])] at h; exact absurd h (by decide)
    rw [if_neg (by simp; omega)] at h
    by_cases c2 : (l.length : Int) > 512
    · rw [if_pos c2] at h; exact absurd h (by decide)
    rw [if_neg c2] at h
    refine ⟨by omega, by omega, by omega, fun x hx => ?_⟩
    obtain ⟨j, hj, rfl⟩ := List.mem_iff_getElem.1 hx
    exact check_l0_fit l _ N l rfl (by omega) k 0 h (by omega) j (by omega) hj
theorem below_trans_ {w w1 w2 : World} (h1 : Below w.heap.size w w1) (h2 : Below w1.heap.size w1 w2) : Below w.heap.size w w2 := below_step h1 h2
set_option maxHeartbeats 4000000 in
set_option maxRecDepth 100000 in
theorem graph_Order.calls (k : Nat) (a0 : Int) (A : Option Addr) (c : Nat) (l : List S42) (r1 : List Int) (r2 : Int) (w : World) (hr : Kd.C k42 w A l.length l) (hc : l.length ≤ c) (h : graph_Order.f k a0 l = some (r1, r2)) :
    Calls Try.prog 16 #[.agg #[.int .i64 a0, .slice A l.length c]] w fun e w' => ∃ v0_ : Value, e = .returned (.tuple #[v0_, .int .i64 r2]) ∧ Kd.R (Kd.int .i64) 3 w' w.heap.size (fun _ => True) v0_ r1 ∧ Below w.heap.size w w' := by
  have hu24 := Try.underlying24
  have hu42 := Try.underlying42
  have HR := Aside0.mk hr
  have HC := Aside0.mk hc
  clear hr hc
  unfold graph_Order.f at h
  obtain ⟨e0, A20, H⟩ := Option.bind_eq_some_iff.mp h
  clear h
  have A2 := Aside0.mk A20
  clear A20
  by_cases c3 : e0 = 0
  · rw [if_pos c3] at H
    have c3b0 : (e0 == 0) = true := beq_iff_eq.mpr c3
    have c3b1 : (e0 != 0) = false := bne_eq_false_iff_eq.mpr c3
    have CH : Aside0 (Fit a0 l) := ⟨check_fit (by rw [← c3]; exact A2.out)⟩
    clear c3
    obtain ⟨d0, HD0⟩ : ∃ d0, Aside0 (d0 = List.replicate a0.toNat false) := ⟨_, ⟨rfl⟩⟩
    rw [← HD0.out] at H
    have HL0 : Aside0 (d0.length = a0.toNat) := ⟨by rw [HD0.out]; simp⟩
    have p0 := CH.out.1
    have c4b0 := eq_true p0
    have c4b1 : decide (0 ≤ a0) = true := decide_eq_true p0
    clear p0
    have H' := Aside0.mk H
    clear H
    go_enter Try.func16, Try.ntmps16
    go_wp2_with (first | ((with_reducible refine gate_dst (N := 1) rfl ?_); refine box_event ?hg (N := 1) ?hd (cs := #[.int .i64 a0, .slice A l.length c]) (t := 24) ?hr ?_; (case hd => rfl); (case hg => rfl); (case hr => first | (go_simp; done) | (go_simp; rfl)); intro g1 hg w1 hbox hb; have BK1 := Aside0.mk hbox; have HB1 := Aside0.mk hb; have G1 : Aside0 (w.heap.size ≤ g1) := ⟨by rw [hg]; exact Nat.le_refl _⟩; clear hbox hb hg; have hz0 : w1.cell? ⟨g1, 0, none⟩ = some (.int .i64 a0) := (blk_cell BK1.out 0).trans rfl; have hz1 : w1.cell? ⟨g1, 1, none⟩ = some (.slice A l.length c) := (blk_cell BK1.out 1).trans rfl; have hfz0 := blk_frozen BK1.out 0; have hfz1 := blk_frozen BK1.out 1) | (go_at_call 14; refine (graph_Check.calls k a0 A c l e0 _ (Kd.C_below HR.out HB1.out) HC.out A2.out).mono ?_; rintro e w2 ⟨rfl, hb⟩; have HB2 := Aside0.mk (below_step HB1.out hb); have BK2 := Aside0.mk (blk_below BK1.out hb); clear hb; have hy0 : w2.cell? ⟨g1, 0, none⟩ = some (.int .i64 a0) := (blk_cell BK2.out 0).trans rfl; have hy1 : w2.cell? ⟨g1, 1, none⟩ = some (.slice A l.length c) := (blk_cell BK2.out 1).trans rfl; have hfy0 := blk_frozen BK2.out 0; have hfy1 := blk_frozen BK2.out 1) | ((with_reducible refine gate_dst (N := 16) rfl ?_); refine Kd.R_make Kd.bool _ 4 rfl (N := 16) rfl 33 _ _ rfl a0 rfl rfl Try.underlying33 (.bool false) 1 info4 rfl (by decide) (by omega) false (ok := fun _ => True) (okp := fun _ => True) rfl (fun _ hk => hk) trivial CH.out.1 (Nat.le_trans (Nat.mul_le_mul_right _ (by have := CH.out.2.1; omega : a0.toNat ≤ 281474976710656)) (by omega)) (Below.refl _ _) (Nat.le_refl _) ?_; intro vd w3 ho hb hg_ hnew_; clear hg_ hnew_; rw [← HD0.out] at ho; have RD := Aside0.mk (Kd.R_lower ho (below_size HB2.out)); have HB3 := Aside0.mk (below_step HB2.out hb); have BK3 := Aside0.mk (blk_below BK2.out hb); clear ho hb; have hx0 : w3.cell? ⟨g1, 0, none⟩ = some (.int .i64 a0) := (blk_cell BK3.out 0).trans rfl; have hx1 : w3.cell? ⟨g1, 1, none⟩ = some (.slice A l.length c) := (blk_cell BK3.out 1).trans rfl; obtain ⟨Ao, co, eo⟩ := Kd.R_slice RD.out; subst eo) | ((with_reducible refine gate_dst (N := 6) rfl ?_); refine box_event ?hg (N := 6) ?hd (cs := #[.slice none 0 0]) (t := 33) ?hr ?_; (case hd => rfl); (case hg => rfl); (case hr => first | (go_simp; done) | (go_simp; rfl)); intro g6 hg w4 hbox hb; have BK6 := Aside0.mk hbox; have HB4 := Aside0.mk (below_step HB3.out hb); have G6 : Aside0 (w.heap.size ≤ g6) := ⟨by rw [hg]; exact below_size HB3.out⟩; have N16 : Aside0 (g1 ≠ g6) := ⟨by rw [hg]; exact Nat.ne_of_lt (blk_lt BK3.out)⟩; have BK4 := Aside0.mk (blk_below BK3.out hb); have RD4 := Aside0.mk (Kd.R_below RD.out hb); clear hbox hb hg; have hv0 : w4.cell? ⟨g6, 0, none⟩ = some (.slice none 0 0) := (blk_cell BK6.out 0).trans rfl; have hfv0 := blk_frozen BK6.out 0) | ((with_reducible refine gate_store (t := 33) (p := 6) rfl ?_); refine store_event (t := 33) (p := 6) (v := ?vo_w5) (w1 := (w4.setCell ⟨g6, 0, none⟩ (.slice Ao d0.length co))) ?hg ?ho ?hn ?hr ?_; (case ho => rfl); (case hg => rfl); (case hn => rfl); (case hr => first | (go_simp; done) | (go_simp; rfl)); intro w5 hw; have BK5 : Aside0 (w5.heap[g1]? = some (.cells #[.int .i64 a0, .slice A l.length c] 24 (0, 0))) := ⟨by rw [hw]; exact blk_far BK4.out N16.out _⟩; have BQ5 : Aside0 (w5.heap[g6]? = some (.cells #[.slice Ao d0.length co] 33 (0, 0))) := ⟨by rw [hw]; exact blk_put (cs := #[.slice none 0 0]) BK6.out 0 _ rfl⟩; have RD5 : Aside0 (Kd.R Kd.bool 4 w5 w.heap.size (fun _ => True) (.slice Ao d0.length co) d0) := ⟨by rw [hw]; exact Kd.R_mono (Kd.R_far (p := ⟨g6, 0, none⟩) (Kd.R_types RD4.out BK6.out (by decide)) (fun _ hk => hk.2) _) (fun _ hk => trivial)⟩; have HB5 : Aside0 (Below w.heap.size w w5) := ⟨by rw [hw]; exact below_set HB4.out G6.out⟩; clear hw))
    simp only [Act.put, List.setIfInBounds_toArray, List.set_cons_succ, List.set_cons_zero]
    go_loopg [5] k (fun kq v5 w' => ∃ (d : List Bool) (out : List Int), Aside0 (oRun l a0 kq d out = some (r1, r2)) ∧ Aside0 (kq ≤ k) ∧ Aside0 (d.length = d0.length) ∧ Aside0 (Kd.R Kd.bool 4 w' w.heap.size (fun _ => True) (.slice Ao d.length co) d) ∧ Aside0 (Kd.R (Kd.int .i64) 3 w' w.heap.size (fun _ => True) v5 out) ∧ Aside0 (w'.heap[g1]? = some (.cells #[.int .i64 a0, .slice A l.length c] 24 (0, 0))) ∧ Aside0 (w'.heap[g6]? = some (.cells #[.slice Ao d.length co] 33 (0, 0))) ∧ Aside0 (Below w.heap.size w w'))
    case atStart => exact ⟨d0, [], H', ⟨Nat.le_refl _⟩, ⟨rfl⟩, RD5, ⟨by first | exact Kd.R_nil _ _ _ _ _⟩, BK5, BQ5, HB5⟩
    case round =>
      clear H' BK1 BK2 BK3 BK4 BK5 BK6 BQ5 RD RD4 RD5 HB1 HB2 HB3 HB4 HB5
      obtain ⟨d, out, HA, HK, HDL, RD, RO, BK, BQ, HB⟩ := hrel
      obtain ⟨W1, hW1⟩ : ∃ x : World, x = wr := ⟨_, rfl⟩
      subst hW1
      cases gk with
      | zero => exact absurd HA.out (by simp [oRun])
      | succ k1 =>
        have H := HA.out
        clear HA
        unfold oRun at H
        have hz0 : W1.cell? ⟨g1, 0, none⟩ = some (.int .i64 a0) := (blk_cell BK.out 0).trans rfl
        have hz1 : W1.cell? ⟨g1, 1, none⟩ = some (.slice A l.length c) := (blk_cell BK.out 1).trans rfl
        have hz2 : W1.cell? ⟨g6, 0, none⟩ = some (.slice Ao d.length co) := (blk_cell BQ.out 0).trans rfl
        obtain ⟨Ao5, co5, eo5⟩ := Kd.R_slice RO.out
        subst eo5
        by_cases c5 : (out.length : Int) < a0
        · rw [if_pos c5] at H
          have c5b0 : decide ((out.length : Int) < a0) = true := decide_eq_true c5
          have LT := Aside0.mk c5
          have HLd : Aside0 (d.length = a0.toNat) := ⟨by rw [HDL.out, HL0.out]⟩
          clear c5
          obtain ⟨NX, HNX⟩ : ∃ NX, Aside0 (NX = oNext l d a0.toNat (-1)) := ⟨_, ⟨rfl⟩⟩
          rw [← HNX.out] at H
          have H' := Aside0.mk H
          clear H
          obtain ⟨gs, cs, es, gbs, gls, cls, HGs⟩ := Kd.R_form RD.out (by have := HLd.out; have := LT.out; omega)
          (first | cases es | (injection es with ea_ en_ ec_; (first | subst ea_ | (injection ea_ with ea_; subst ea_)); subst ec_; clear en_))
          have GBs := Aside0.mk gbs
          clear gbs gls HGs
          have HL : Aside0 (∀ x ∈ l, 0 ≤ x.f0 ∧ x.f0 < (d.length : Int)) := ⟨fun x hx => by have := (CH.out.2.2.2 x hx).1; have := HLd.out; have := CH.out.1; omega⟩
          go_wp2_with (first | ((with_reducible refine gate_dst (N := 8) rfl ?_); refine box_event ?hg (N := 8) ?hd (cs := #[.int .i64 0]) (t := 3) ?hr ?_; (case hd => rfl); (case hg => rfl); (case hr => first | (go_simp; done) | (go_simp; rfl)); intro g8 hg wa hbox hb; have BN := Aside0.mk hbox; have HN := Aside0.mk (below_step (Below.refl _ _) hb); have G8 : Aside0 (W1.heap.size ≤ g8) := ⟨by rw [hg]; exact below_size (Below.refl _ _)⟩; clear hbox hb hg; have hn0 : wa.cell? ⟨g8, 0, none⟩ = some (.int .i64 0) := (blk_cell BN.out 0).trans rfl; have hfn0 := blk_frozen BN.out 0) | ((with_reducible refine gate_store (t := 3) (p := 8) rfl ?_); refine store_event (t := 3) (p := 8) (v := ?vo_wb0) (w1 := (wa.setCell ⟨g8, 0, none⟩ (.int .i64 (wrap64 (a0 - 1))))) ?hg ?ho ?hn ?hr ?_; (case ho => rfl); (case hg => rfl); (case hn => rfl); (case hr => first | (go_simp; done) | (go_simp; rfl)); intro wb hw; have BNb : Aside0 (wb.heap[g8]? = some (.cells #[.int .i64 (wrap64 (a0 - 1))] 3 (0, 0))) := ⟨by rw [hw]; exact blk_put (cs := #[.int .i64 (0)]) BN.out 0 _ rfl⟩; have HNb : Aside0 (Below W1.heap.size W1 wb) := ⟨by rw [hw]; exact below_set HN.out G8.out⟩; clear hw; have hnwb : wb.cell? ⟨g8, 0, none⟩ = some (.int .i64 (wrap64 (a0 - 1))) := (blk_cell BNb.out 0).trans rfl; have hfnwb := blk_frozen BNb.out 0))
          go_loopg [7, 8] a0.toNat (fun gg v7 v8 w1 => ∃ (j : Nat) (nx i : Int) (b8 : Nat), v7 = .int .i64 nx ∧ v8 = .pointer (some ⟨b8, 0, none⟩) ∧ Aside0 (j ≤ gg) ∧ Aside0 (j ≤ a0.toNat) ∧ Aside0 (i = (j : Int) - 1) ∧ Aside0 (NX = oNext l d j nx) ∧ Aside0 (W1.heap.size ≤ b8) ∧ Aside0 (w1.heap[b8]? = some (.cells #[.int .i64 i] 3 (0, 0))) ∧ Aside0 (Below W1.heap.size W1 w1))
          case atStart => exact ⟨a0.toNat, -1, wrap64 (a0 - 1), g8, rfl, rfl, ⟨Nat.le_refl _⟩, ⟨Nat.le_refl _⟩, ⟨by have := CH.out.1; have := CH.out.2.1; unfold wrap64; omega⟩, HNX, G8, BNb, HNb⟩
          case round =>
            clear BN BNb HN HNb G8
            obtain ⟨j, nx, i, b8, rfl, rfl, HJ1, HJ2, HI, HX, G0, BN0, HN0⟩ := hrel
            have hi : wr.cell? ⟨b8, 0, none⟩ = some (.int .i64 i) := (blk_cell BN0.out 0).trans rfl
            have hfi := blk_frozen BN0.out 0
            have hy0 := (HN0.out.cell (World.block_lt_of_cell? W1 _ hz0)).trans hz0
            have hy1 := (HN0.out.cell (World.block_lt_of_cell? W1 _ hz1)).trans hz1
            have hy2 := (HN0.out.cell (World.block_lt_of_cell? W1 _ hz2)).trans hz2
            cases j with
            | zero =>
              have hi0 : i = -1 := HI.out
              subst hi0
              have hnx : NX = nx := HX.out
              subst hnx
              have RD1 := Aside0.mk (Kd.R_below RD.out HN0.out)
              have RO1 := Aside0.mk (Kd.R_below RO.out HN0.out)
              have BK1 := Aside0.mk (blk_below BK.out HN0.out)
              have BQ1 := Aside0.mk (blk_below BQ.out HN0.out)
              have HB1 := Aside0.mk (below_trans_ HB.out HN0.out)
              have H := H'.out
              clear H'
              by_cases c8 : NX < 0
              · rw [if_pos c8] at H
                have c8b0 : decide (NX < 0) = true := decide_eq_true c8
                clear c8
                simp only [Option.some.injEq, Prod.mk.injEq] at H
                obtain ⟨rfl, rfl⟩ := H
                go_wp2
                go_ret2
                exact ⟨_, rfl, Kd.R_nil _ _ _ _ _, HB1.out⟩
              · rw [if_neg c8] at H
                have c8b0 : decide (NX < 0) = false := decide_eq_false c8
                have p2 : 0 ≤ NX := by omega
                have q2 : NX < (d.length : Int) := by
                  have h1 := oNext_in l d a0.toNat (-1)
                  rw [← HNX.out] at h1
                  have := HLd.out
                  omega
                clear c8
                obtain ⟨hx_0, hf_0⟩ := Kd.R_celln false RD1.out NX p2 q2
                have HP := Kd.R_putg RD1.out NX true
                have c9b0 : decide (0 ≤ NX) = true := decide_eq_true p2
                have c10b0 : decide (NX < (d.length : Int)) = true := decide_eq_true q2
                replace p2 := eq_true p2
                replace q2 := eq_true q2
                obtain ⟨d', HD'⟩ : ∃ d', Aside0 (d' = d.set NX.toNat true) := ⟨_, ⟨rfl⟩⟩
                have HLd' : Aside0 (d'.length = d.length) := ⟨by rw [HD'.out, List.length_set]⟩
                obtain ⟨o', HO'⟩ : ∃ o', Aside0 (o' = out ++ [NX]) := ⟨_, ⟨rfl⟩⟩
                rw [← HD'.out, ← HO'.out] at H
                have H' := Aside0.mk H
                clear H
                go_wp2_with (first | ((with_reducible refine gate_store (t := 4) (p := 47) rfl ?_); refine store_event (t := 4) (p := 47) (v := ?vo_s) (w1 := (wr.setCell ⟨gs, NX.toNat, none⟩ (.bool true))) ?hg ?ho ?hn ?hr ?_; (case ho => rfl); (case hg => rfl); (case hn => rfl); (case hr => first | (go_simp; done) | (go_simp; rfl)); intro ws hw; have hg : wr.grownBy ws (some gs) := (by rw [hw]; exact HP.2); have RD2 : Aside0 (Kd.R Kd.bool 4 ws w.heap.size (fun _ => True) (.slice (some ⟨gs, 0, none⟩) d.length co) d') := ⟨by rw [hw, HD'.out]; exact HP.1⟩; clear HP; have RO2 := Aside0.mk (Kd.R_over' (v := (.slice (some ⟨gs, 0, none⟩) d.length co)) RO1.out (Kd.R_typed RD1.out) (by decide) hg); have BK2 := Aside0.mk (blk_grown BK1.out hg (Kd.R_ne RD1.out BK1.out (by decide))); have BQ2 := Aside0.mk (blk_grown BQ1.out hg (Kd.R_ne RD1.out BQ1.out (by decide))); have HB2 : Aside0 (Below w.heap.size w ws) := ⟨by rw [hw]; exact below_set HB1.out GBs.out⟩; clear hg hw) | ((with_reducible refine gate_builtin (b := .append) (xs := #[.tmp 48, .tmp 50]) rfl ?_); at_builtin; refine Kd.R_append (Kd.int .i64) (w0 := w) w.heap.size rfl (.tmp 48) (.tmp 50) 29 3 (.int .i64 0) 8 rfl Try.underlying29 info3 rfl (by decide) (by omega) (.slice Ao5 out.length co5) out NX [.int .i64 NX] (fun _ => True) (fun _ => False) rfl rfl ?aP (fun _ hk => hk.elim) ?aF ?aO ?aB ?aS ?aL ?_; (case aP => exact rfl); (case aB => exact HB2.out); (case aF => exact (fun _ _ => trivial)); (case aO => exact RO2.out); (case aS => exact below_size HB2.out); (case aL => have := LT.out; have := CH.out.2.1; omega); intro va wa ho hb hg hat; rw [← HO'.out] at ho; have RD3 := Aside0.mk (Kd.R_over' RD2.out (Kd.R_typed RO2.out) (by decide) hg); have BK3 := Aside0.mk (blk_grown BK2.out hg (Kd.R_ne RO2.out BK2.out (by decide))); have BQ3 := Aside0.mk (blk_grown BQ2.out hg (Kd.R_ne RO2.out BQ2.out (by decide))); have HB3 := Aside0.mk hb; have RO3 := Aside0.mk ho; clear ho hb hg hat))
                go_roundg k1
                case measure => have := HK.out; omega
                case rel => exact ⟨d', o', H', ⟨by have := HK.out; omega⟩, ⟨by rw [HLd'.out]; exact HDL.out⟩, ⟨by rw [HLd'.out]; exact RD3.out⟩, RO3, BK3, ⟨by rw [HLd'.out]; exact BQ3.out⟩, HB3⟩
            | succ j =>
              have p1 : 0 ≤ i := by have := HI.out; omega
              have q1 : i < (d.length : Int) := by have := HI.out; have := HJ2.out; have := HLd.out; omega
              have hij : i = (j : Int) := by have := HI.out; omega
              have HIJ := Aside0.mk hij
              have HS : Aside0 (Seen wr b8 g6 gs co i d) := ⟨⟨hi, hy2, fun x hx0 hx1 => by
                obtain ⟨hx_, _⟩ := Kd.R_celln false (Kd.R_below RD.out HN0.out) x hx0 hx1
                rw [show d.getD x.toNat false = rdOf false d x from ?_]
                · exact hx_
                · rfl⟩⟩
              have hsx := HS.out.sx i p1 q1
              have c6b0 : decide (0 ≤ i) = true := decide_eq_true p1
              have c7b0 : decide (i < (d.length : Int)) = true := decide_eq_true q1
              replace p1 := eq_true p1
              replace q1 := eq_true q1
              clear hij
              obtain ⟨bd, EB⟩ : ∃ b, Aside0 (b = d.getD i.toNat false) := ⟨_, ⟨rfl⟩⟩
              rw [← EB.out] at hsx
              have HW : Aside0 (wrap64 (i - 1) = (j : Int) - 1) := ⟨by have := HIJ.out; have := HJ2.out; have := CH.out.2.1; unfold wrap64; omega⟩
              cases bd with
              | true =>
                have HX' : Aside0 (NX = oNext l d j nx) := ⟨by
                  rw [HX.out]; conv => lhs; unfold oNext
                  rw [if_neg (by unfold oFree; rw [show d.getD j false = true from by rw [EB.out, HIJ.out, Int.toNat_natCast]]; simp)]⟩
                go_wp2_with (first | ((with_reducible refine gate_dst (N := 8) rfl ?_); refine box_event ?hg (N := 8) ?hd (cs := #[.int .i64 0]) (t := 3) ?hr ?_; (case hd => rfl); (case hg => rfl); (case hr => first | (go_simp; done) | (go_simp; rfl)); intro g8 hg wa hbox hb; have BN := Aside0.mk hbox; have HN := Aside0.mk (below_step HN0.out hb); have G8 : Aside0 (W1.heap.size ≤ g8) := ⟨by rw [hg]; exact below_size HN0.out⟩; clear hbox hb hg; have hn0 : wa.cell? ⟨g8, 0, none⟩ = some (.int .i64 0) := (blk_cell BN.out 0).trans rfl; have hfn0 := blk_frozen BN.out 0) | ((with_reducible refine gate_store (t := 3) (p := 8) rfl ?_); refine store_event (t := 3) (p := 8) (v := ?vo_wb1) (w1 := (wa.setCell ⟨g8, 0, none⟩ (.int .i64 (i)))) ?hg ?ho ?hn ?hr ?_; (case ho => rfl); (case hg => rfl); (case hn => rfl); (case hr => first | (go_simp; done) | (go_simp; rfl)); intro wb hw; have BNb : Aside0 (wb.heap[g8]? = some (.cells #[.int .i64 (i)] 3 (0, 0))) := ⟨by rw [hw]; exact blk_put (cs := #[.int .i64 (0)]) BN.out 0 _ rfl⟩; have HNb : Aside0 (Below W1.heap.size W1 wb) := ⟨by rw [hw]; exact below_set HN.out G8.out⟩; clear hw; have hnwb : wb.cell? ⟨g8, 0, none⟩ = some (.int .i64 (i)) := (blk_cell BNb.out 0).trans rfl; have hfnwb := blk_frozen BNb.out 0) | ((with_reducible refine gate_store (t := 3) (p := 8) rfl ?_); refine store_event (t := 3) (p := 8) (v := ?vo_wc2) (w1 := (wb.setCell ⟨g8, 0, none⟩ (.int .i64 (wrap64 (i - 1))))) ?hg ?ho ?hn ?hr ?_; (case ho => rfl); (case hg => rfl); (case hn => rfl); (case hr => first | (go_simp; done) | (go_simp; rfl)); intro wc hw; have BNc : Aside0 (wc.heap[g8]? = some (.cells #[.int .i64 (wrap64 (i - 1))] 3 (0, 0))) := ⟨by rw [hw]; exact blk_put (cs := #[.int .i64 (i)]) BNb.out 0 _ rfl⟩; have HNc : Aside0 (Below W1.heap.size W1 wc) := ⟨by rw [hw]; exact below_set HNb.out G8.out⟩; clear hw; have hnwc : wc.cell? ⟨g8, 0, none⟩ = some (.int .i64 (wrap64 (i - 1))) := (blk_cell BNc.out 0).trans rfl; have hfnwc := blk_frozen BNc.out 0))
                go_roundg j
                case measure => have := HJ1.out; omega
                case rel => exact ⟨j, nx, wrap64 (i - 1), g8, rfl, rfl, ⟨Nat.le_refl _⟩, ⟨by have := HJ2.out; omega⟩, HW, HX', G8, BNc, HNc⟩
              | false =>
                obtain ⟨ba, EA⟩ : ∃ b, Aside0 (b = l.any (arcHit d i)) := ⟨_, ⟨rfl⟩⟩
                have HCALL := cont30_calls A c l i d b8 g6 gs co wr (Kd.C_below HR.out (below_trans_ HB.out HN0.out)) HS.out HL.out
                rw [← EA.out] at HCALL
                replace HCALL := Aside0.mk HCALL
                cases ba with
                | true =>
                  have HX' : Aside0 (NX = oNext l d j nx) := ⟨by
                    rw [HX.out]; conv => lhs; unfold oNext
                    rw [if_neg (by unfold oFree; rw [← HIJ.out, ← EA.out]; simp)]⟩
                  go_wp2_with (first | (go_at_call 30; refine HCALL.out.mono ?_; rintro e w6 ⟨rfl, hb⟩; have HN6 := Aside0.mk (below_step HN0.out hb); have hs6 := HS.out.below hb; have hs6n := hs6.sn; clear hs6 hb) | ((with_reducible refine gate_dst (N := 8) rfl ?_); refine box_event ?hg (N := 8) ?hd (cs := #[.int .i64 0]) (t := 3) ?hr ?_; (case hd => rfl); (case hg => rfl); (case hr => first | (go_simp; done) | (go_simp; rfl)); intro g8 hg wa hbox hb; have BN := Aside0.mk hbox; have HN := Aside0.mk (below_step HN6.out hb); have G8 : Aside0 (W1.heap.size ≤ g8) := ⟨by rw [hg]; exact below_size HN6.out⟩; clear hbox hb hg; have hn0 : wa.cell? ⟨g8, 0, none⟩ = some (.int .i64 0) := (blk_cell BN.out 0).trans rfl; have hfn0 := blk_frozen BN.out 0) | ((with_reducible refine gate_store (t := 3) (p := 8) rfl ?_); refine store_event (t := 3) (p := 8) (v := ?vo_wb3) (w1 := (wa.setCell ⟨g8, 0, none⟩ (.int .i64 (i)))) ?hg ?ho ?hn ?hr ?_; (case ho => rfl); (case hg => rfl); (case hn => rfl); (case hr => first | (go_simp; done) | (go_simp; rfl)); intro wb hw; have BNb : Aside0 (wb.heap[g8]? = some (.cells #[.int .i64 (i)] 3 (0, 0))) := ⟨by rw [hw]; exact blk_put (cs := #[.int .i64 (0)]) BN.out 0 _ rfl⟩; have HNb : Aside0 (Below W1.heap.size W1 wb) := ⟨by rw [hw]; exact below_set HN.out G8.out⟩; clear hw; have hnwb : wb.cell? ⟨g8, 0, none⟩ = some (.int .i64 (i)) := (blk_cell BNb.out 0).trans rfl; have hfnwb := blk_frozen BNb.out 0) | ((with_reducible refine gate_store (t := 3) (p := 8) rfl ?_); refine store_event (t := 3) (p := 8) (v := ?vo_wc4) (w1 := (wb.setCell ⟨g8, 0, none⟩ (.int .i64 (wrap64 (i - 1))))) ?hg ?ho ?hn ?hr ?_; (case ho => rfl); (case hg => rfl); (case hn => rfl); (case hr => first | (go_simp; done) | (go_simp; rfl)); intro wc hw; have BNc : Aside0 (wc.heap[g8]? = some (.cells #[.int .i64 (wrap64 (i - 1))] 3 (0, 0))) := ⟨by rw [hw]; exact blk_put (cs := #[.int .i64 (i)]) BNb.out 0 _ rfl⟩; have HNc : Aside0 (Below W1.heap.size W1 wc) := ⟨by rw [hw]; exact below_set HNb.out G8.out⟩; clear hw; have hnwc : wc.cell? ⟨g8, 0, none⟩ = some (.int .i64 (wrap64 (i - 1))) := (blk_cell BNc.out 0).trans rfl; have hfnwc := blk_frozen BNc.out 0))
                  go_roundg j
                  case measure => have := HJ1.out; omega
                  case rel => exact ⟨j, nx, wrap64 (i - 1), g8, rfl, rfl, ⟨Nat.le_refl _⟩, ⟨by have := HJ2.out; omega⟩, HW, HX', G8, BNc, HNc⟩
                | false =>
                  have HX' : Aside0 (NX = oNext l d j i) := ⟨by
                    rw [HX.out]; conv => lhs; unfold oNext
                    rw [if_pos (by unfold oFree; rw [show d.getD j false = false from by have h_ := EB.out; rw [HIJ.out, Int.toNat_natCast] at h_; exact h_.symm, ← HIJ.out, ← EA.out]; rfl), ← HIJ.out]⟩
                  go_wp2_with (first | (go_at_call 30; refine HCALL.out.mono ?_; rintro e w6 ⟨rfl, hb⟩; have HN6 := Aside0.mk (below_step HN0.out hb); have hs6 := HS.out.below hb; have hs6n := hs6.sn; clear hs6 hb) | ((with_reducible refine gate_dst (N := 8) rfl ?_); refine box_event ?hg (N := 8) ?hd (cs := #[.int .i64 0]) (t := 3) ?hr ?_; (case hd => rfl); (case hg => rfl); (case hr => first | (go_simp; done) | (go_simp; rfl)); intro g8 hg wa hbox hb; have BN := Aside0.mk hbox; have HN := Aside0.mk (below_step HN6.out hb); have G8 : Aside0 (W1.heap.size ≤ g8) := ⟨by rw [hg]; exact below_size HN6.out⟩; clear hbox hb hg; have hn0 : wa.cell? ⟨g8, 0, none⟩ = some (.int .i64 0) := (blk_cell BN.out 0).trans rfl; have hfn0 := blk_frozen BN.out 0) | ((with_reducible refine gate_store (t := 3) (p := 8) rfl ?_); refine store_event (t := 3) (p := 8) (v := ?vo_wb3) (w1 := (wa.setCell ⟨g8, 0, none⟩ (.int .i64 (i)))) ?hg ?ho ?hn ?hr ?_; (case ho => rfl); (case hg => rfl); (case hn => rfl); (case hr => first | (go_simp; done) | (go_simp; rfl)); intro wb hw; have BNb : Aside0 (wb.heap[g8]? = some (.cells #[.int .i64 (i)] 3 (0, 0))) := ⟨by rw [hw]; exact blk_put (cs := #[.int .i64 (0)]) BN.out 0 _ rfl⟩; have HNb : Aside0 (Below W1.heap.size W1 wb) := ⟨by rw [hw]; exact below_set HN.out G8.out⟩; clear hw; have hnwb : wb.cell? ⟨g8, 0, none⟩ = some (.int .i64 (i)) := (blk_cell BNb.out 0).trans rfl; have hfnwb := blk_frozen BNb.out 0) | ((with_reducible refine gate_store (t := 3) (p := 8) rfl ?_); refine store_event (t := 3) (p := 8) (v := ?vo_wc4) (w1 := (wb.setCell ⟨g8, 0, none⟩ (.int .i64 (wrap64 (i - 1))))) ?hg ?ho ?hn ?hr ?_; (case ho => rfl); (case hg => rfl); (case hn => rfl); (case hr => first | (go_simp; done) | (go_simp; rfl)); intro wc hw; have BNc : Aside0 (wc.heap[g8]? = some (.cells #[.int .i64 (wrap64 (i - 1))] 3 (0, 0))) := ⟨by rw [hw]; exact blk_put (cs := #[.int .i64 (i)]) BNb.out 0 _ rfl⟩; have HNc : Aside0 (Below W1.heap.size W1 wc) := ⟨by rw [hw]; exact below_set HNb.out G8.out⟩; clear hw; have hnwc : wc.cell? ⟨g8, 0, none⟩ = some (.int .i64 (wrap64 (i - 1))) := (blk_cell BNc.out 0).trans rfl; have hfnwc := blk_frozen BNc.out 0))
                  go_roundg j
                  case measure => have := HJ1.out; omega
                  case rel => exact ⟨j, i, wrap64 (i - 1), g8, rfl, rfl, ⟨Nat.le_refl _⟩, ⟨by have := HJ2.out; omega⟩, HW, HX', G8, BNc, HNc⟩
        · rw [if_neg c5] at H
          have c5b0 : decide ((out.length : Int) < a0) = false := decide_eq_false c5
          clear c5
          simp only [Option.some.injEq, Prod.mk.injEq] at H
          obtain ⟨rfl, rfl⟩ := H
          go_wp2
          go_ret2
          exact ⟨_, rfl, RO.out, HB.out⟩
  · rw [if_neg c3] at H
    have c3b0 : (e0 == 0) = false := beq_eq_false_iff_ne.mpr c3
    have c3b1 : (e0 != 0) = true := bne_iff_ne.mpr c3
    clear c3
    simp only [Option.some.injEq, Prod.mk.injEq] at H
    obtain ⟨rfl, rfl⟩ := H
    go_enter Try.func16, Try.ntmps16
    go_wp2_with (first | ((with_reducible refine gate_dst (N := 1) rfl ?_); refine box_event ?hg (N := 1) ?hd (cs := #[.int .i64 a0, .slice A l.length c]) (t := 24) ?hr ?_; (case hd => rfl); (case hg => rfl); (case hr => first | (go_simp; done) | (go_simp; rfl)); intro g1 hg w1 hbox hb; have BK1 := Aside0.mk hbox; have HB1 := Aside0.mk hb; have G1 : Aside0 (w.heap.size ≤ g1) := ⟨by rw [hg]; exact Nat.le_refl _⟩; clear hbox hb hg; have hz0 : w1.cell? ⟨g1, 0, none⟩ = some (.int .i64 a0) := (blk_cell BK1.out 0).trans rfl; have hz1 : w1.cell? ⟨g1, 1, none⟩ = some (.slice A l.length c) := (blk_cell BK1.out 1).trans rfl; have hfz0 := blk_frozen BK1.out 0; have hfz1 := blk_frozen BK1.out 1) | (go_at_call 14; refine (graph_Check.calls k a0 A c l e0 _ (Kd.C_below HR.out HB1.out) HC.out A2.out).mono ?_; rintro e w2 ⟨rfl, hb⟩; have HB2 := Aside0.mk (below_step HB1.out hb); have BK2 := Aside0.mk (blk_below BK1.out hb); clear hb; have hy0 : w2.cell? ⟨g1, 0, none⟩ = some (.int .i64 a0) := (blk_cell BK2.out 0).trans rfl; have hy1 : w2.cell? ⟨g1, 1, none⟩ = some (.slice A l.length c) := (blk_cell BK2.out 1).trans rfl; have hfy0 := blk_frozen BK2.out 0; have hfy1 := blk_frozen BK2.out 1))
    go_ret2
    exact ⟨_, rfl, Kd.R_nil _ _ _ _ _, HB2.out⟩

/-! ### papermillref10_Ints: function 18 -/
def papermillref10_Ints.l0 : Nat → List Int → List Int → Int → Option (Bool)
  | 0, _, _, _ => none
  | k + 1, x0, x1, x5 => if x5 < (x0.length : Int) then (if 0 ≤ x5 then (if x5 < (x1.length : Int) then (if (rd x0 x5) = (rd x1 x5) then (papermillref10_Ints.l0 k x0 x1 (wrap64 (x5 + 1))) else (some false)) else (none)) else (none)) else (some true)
def papermillref10_Ints.f (k : Nat) (l0 : List Int) (l1 : List Int) : Option (Bool) := if (l0.length : Int) = (l1.length : Int) then (papermillref10_Ints.l0 k l0 l1 0) else (some false)
theorem papermillref10_Ints.mono_l : ∀ k, (∀ y0 y1 y2, LeO (papermillref10_Ints.l0 k y0 y1 y2) (papermillref10_Ints.l0 (k + 1) y0 y1 y2))
  | 0 => fun _ _ _ r h => by simp [papermillref10_Ints.l0] at h
  | k + 1 => by
    have ih0 := papermillref10_Ints.mono_l k
    · intro y0 y1 y2
      unfold papermillref10_Ints.l0
      repeat' first
      | (with_reducible exact ih0 _ _ _)
      | (with_reducible exact LeO.refl _)
      | (with_reducible exact LeO.none _)
      | (with_reducible refine LeO.ite ?_ ?_)
      | (with_reducible refine LeO.bind ?_ (fun _ => ?_))
      | exact ih0 _ _ _
      | exact LeO.none _
      | refine LeO.ite ?_ ?_
      | refine LeO.bind ?_ (fun _ => ?_)
theorem papermillref10_Ints.mono : ∀ a0 a1 k, LeO (papermillref10_Ints.f k a0 a1) (papermillref10_Ints.f (k + 1) a0 a1) := by
  intro a0 a1 k
  have ih0 := papermillref10_Ints.mono_l k
  unfold papermillref10_Ints.f
  repeat' first
      | (with_reducible exact ih0 _ _ _)
      | (with_reducible exact LeO.refl _)
      | (with_reducible exact LeO.none _)
      | (with_reducible refine LeO.ite ?_ ?_)
      | (with_reducible refine LeO.bind ?_ (fun _ => ?_))
      | exact ih0 _ _ _
      | exact LeO.none _
      | refine LeO.ite ?_ ?_
      | refine LeO.bind ?_ (fun _ => ?_)
set_option maxHeartbeats 8000000 in
set_option maxRecDepth 100000 in
theorem papermillref10_Ints.calls (k : Nat) (A0 : Option Addr) (c0 : Nat) (l0 : List Int) (A1 : Option Addr) (c1 : Nat) (l1 : List Int) (r : Bool) (w : World) (hr0 : Kd.C (Kd.int .i64) w A0 l0.length l0) (hc0 : l0.length ≤ c0) (hr1 : Kd.C (Kd.int .i64) w A1 l1.length l1) (hc1 : l1.length ≤ c1) (h : papermillref10_Ints.f k l0 l1 = some r) :
    Calls Try.prog 18 #[.slice A0 l0.length c0, .slice A1 l1.length c1] w fun e w' => e = .returned (.bool r) ∧ Drawn0 w w' := by
  have HR0 := Aside0.mk hr0
  have HC0 := Aside0.mk hc0
  clear hr0 hc0
  have HR1 := Aside0.mk hr1
  have HC1 := Aside0.mk hc1
  clear hr1 hc1
  have H : (if (l0.length : Int) = (l1.length : Int) then (papermillref10_Ints.l0 k l0 l1 0) else (some false)) = some r := h
  clear h
  by_cases c3 : (l0.length : Int) = (l1.length : Int)
  · rw [if_pos c3] at H
    have c3b0 : ((l0.length : Int) == (l1.length : Int)) = true := beq_iff_eq.mpr c3
    have c3b1 : ((l0.length : Int) != (l1.length : Int)) = false := bne_eq_false_iff_eq.mpr c3
    have c3b2 : (l0.length == l1.length) = true := by first | simpa using c3 | (simp at c3 ⊢; omega)
    clear c3
    have H' := Aside0.mk H
    clear H
    go_enter Try.func18, Try.ntmps18
    go_wp2
    repeat (go_quiet (fail); try go_wp2)
    go_loopg [5] k (fun kq v5 w' => ∃ (x5_1 : Int), v5 = .int .i64 x5_1 ∧ Aside0 (papermillref10_Ints.l0 kq l0 l1 x5_1 = some r) ∧ Aside0 (kq ≤ k) ∧ Drawn0 w w')
    case atStart => exact ⟨(0), (by first | rfl | (simp; done) | (simp [*]; done)), H', ⟨Nat.le_refl _⟩, by repeat (first | exact Drawn0.refl _ | apply Drawn0.step)⟩
    case round =>
      clear H'
      (try clear c1); (try clear p2); (try clear c3); (try clear c3b0); (try clear c3b1); (try clear c3b2)
      obtain ⟨x5_1, rfl, HA, HK1, ⟨m1, rfl⟩⟩ := hrel
      cases gk with
      | zero => exact absurd HA.out (by simp [papermillref10_Ints.l0])
      | succ k1 =>
        have H := HA.out
        clear HA
        simp only [papermillref10_Ints.l0] at H
        by_cases c4 : x5_1 < (l0.length : Int)
        · rw [if_pos c4] at H
          have c4b0 : decide (x5_1 < (l0.length : Int)) = true := decide_eq_true c4
          clear c4
          by_cases c5 : 0 ≤ x5_1
          · rw [if_pos c5] at H
            have c5b0 : decide (0 ≤ x5_1) = true := decide_eq_true c5
            clear c5
            by_cases c6 : x5_1 < (l1.length : Int)
            · rw [if_pos c6] at H
              have c6b0 : decide (x5_1 < (l1.length : Int)) = true := decide_eq_true c6
              clear c6
              by_cases c7 : (rd l0 x5_1) = (rd l1 x5_1)
              · rw [if_pos c7] at H
                have c7b0 : ((rd l0 x5_1) == (rd l1 x5_1)) = true := beq_iff_eq.mpr c7
                have c7b1 : ((rd l0 x5_1) != (rd l1 x5_1)) = false := bne_eq_false_iff_eq.mpr c7
                clear c7
                have H' := Aside0.mk H
                clear H
                have p105 : 0 ≤ (x5_1 : Int) := of_decide_eq_true (by first | (with_reducible assumption) | assumption)
                have q105 : x5_1 < (l0.length : Int) := of_decide_eq_true (by first | (with_reducible assumption) | assumption)
                obtain ⟨ad105, e105, hx105_0⟩ := Kd.at_int HR0.out x5_1 p105 q105
                cases e105
                replace p105 := eq_true p105
                replace q105 := eq_true q105
                have p106 : 0 ≤ (x5_1 : Int) := of_decide_eq_true (by first | (with_reducible assumption) | assumption)
                have q106 : x5_1 < (l1.length : Int) := of_decide_eq_true (by first | (with_reducible assumption) | assumption)
                obtain ⟨ad106, e106, hx106_0⟩ := Kd.at_int HR1.out x5_1 p106 q106
                cases e106
                replace p106 := eq_true p106
                replace q106 := eq_true q106
                go_wp2
                repeat (go_quiet (fail); try go_wp2)
                go_roundg k1
                case measure => have := HK1.out; omega
                case rel => exact ⟨(wrap64 (x5_1 + 1)), (by first | rfl | (simp; done) | (simp [*]; done)), H', ⟨by have := HK1.out; omega⟩, by repeat (first | exact Drawn0.refl _ | apply Drawn0.step)⟩
              · rw [if_neg c7] at H
                have c7b0 : ((rd l0 x5_1) == (rd l1 x5_1)) = false := beq_eq_false_iff_ne.mpr c7
                have c7b1 : ((rd l0 x5_1) != (rd l1 x5_1)) = true := bne_iff_ne.mpr c7
                obtain rfl := Option.some.inj H
                have p105 : 0 ≤ (x5_1 : Int) := of_decide_eq_true (by first | (with_reducible assumption) | assumption)
                have q105 : x5_1 < (l0.length : Int) := of_decide_eq_true (by first | (with_reducible assumption) | assumption)
                obtain ⟨ad105, e105, hx105_0⟩ := Kd.at_int HR0.out x5_1 p105 q105
                cases e105
                replace p105 := eq_true p105
                replace q105 := eq_true q105
                have p106 : 0 ≤ (x5_1 : Int) := of_decide_eq_true (by first | (with_reducible assumption) | assumption)
                have q106 : x5_1 < (l1.length : Int) := of_decide_eq_true (by first | (with_reducible assumption) | assumption)
                obtain ⟨ad106, e106, hx106_0⟩ := Kd.at_int HR1.out x5_1 p106 q106
                cases e106
                replace p106 := eq_true p106
                replace q106 := eq_true q106
                go_wp2
                repeat (go_quiet (fail); try go_wp2)
                go_ret
                exact ⟨by first | rfl | (simp; done) | (simp [*]; done), by repeat (first | exact Drawn0.refl _ | apply Drawn0.step)⟩
            · rw [if_neg c6] at H
              exact absurd H (by simp)
          · rw [if_neg c5] at H
            exact absurd H (by simp)
        · rw [if_neg c4] at H
          have c4b0 : decide (x5_1 < (l0.length : Int)) = false := decide_eq_false c4
          clear c4
          obtain rfl := Option.some.inj H
          go_wp2
          repeat (go_quiet (fail); try go_wp2)
          go_ret
          exact ⟨by first | rfl | (simp; done) | (simp [*]; done), by repeat (first | exact Drawn0.refl _ | apply Drawn0.step)⟩
  · rw [if_neg c3] at H
    have c3b0 : ((l0.length : Int) == (l1.length : Int)) = false := beq_eq_false_iff_ne.mpr c3
    have c3b1 : ((l0.length : Int) != (l1.length : Int)) = true := bne_iff_ne.mpr c3
    have c3b2 : (l0.length == l1.length) = false := by first | simpa using c3 | (simp at c3 ⊢; omega)
    obtain rfl := Option.some.inj H
    go_enter Try.func18, Try.ntmps18
    go_wp2
    repeat (go_quiet (fail); try go_wp2)
    go_ret
    exact ⟨by first | rfl | (simp; done) | (simp [*]; done), by repeat (first | exact Drawn0.refl _ | apply Drawn0.step)⟩

end Go.Proofs.Ytaldnhlojllanaa.Q
