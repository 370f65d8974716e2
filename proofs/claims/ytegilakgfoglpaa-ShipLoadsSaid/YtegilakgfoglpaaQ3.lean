/- Plain Lean functions of the Go functions, and proofs that the Go calls come to them; laid out by this session's program wip/tools/hp.py. -/
import Derived.Test.YtegilakgfoglpaaQ0
import Derived.Test.YtegilakgfoglpaaQ1
import Derived.Test.YtegilakgfoglpaaQ2
namespace Go.Proofs.Ytegilakgfoglpaa.Q
open Go.RowKit Go.Proofs.YtegilakgfoglpaaW.PrintWords Go.Proofs.YtegilakgfoglpaaW.PrintLast Go.Proofs.YtegilakgfoglpaaW.PrintMore
attribute [local go_sem] max2_int min2_int max_two min_two max_three min_three max_four min_four   -- for this text's walks alone
set_option linter.unusedVariables false
set_option linter.unusedSimpArgs false

/-! ### ship_Find: function 14, by hand -/
/-- The first place at which p holds; -1 if there is none. -/
def idxI {α : Type} (p : α → Bool) (l : List α) : Int := match l.findIdx? p with | some i => (i : Int) | none => -1
theorem idxI_hit {α : Type} (p : α → Bool) (l : List α) (z : α) (k : Nat) (hk : k < l.length) (h0 : ∀ j, j < k → p (l.getD j z) = false) (h : p (l.getD k z) = true) : idxI p l = (k : Int) := by
  unfold idxI
  have : l.findIdx? p = some k := by
    rw [List.findIdx?_eq_some_iff_getElem]
    refine ⟨hk, by simpa [List.getD_eq_getElem?_getD, hk] using h, fun j hj => ?_⟩
    have := h0 j hj
    simp only [List.getD_eq_getElem?_getD, List.getElem?_eq_getElem (show j < l.length by omega), Option.getD_some] at this
    simp [this]
  rw [this]
theorem idxI_miss {α : Type} (p : α → Bool) (l : List α) (z : α) (h0 : ∀ j, j < l.length → p (l.getD j z) = false) : idxI p l = -1 := by
  unfold idxI
  have : l.findIdx? p = none := by
    rw [List.findIdx?_eq_none_iff]
    intro x hx
    obtain ⟨i, hi, rfl⟩ := List.mem_iff_getElem.1 hx
    have := h0 i hi
    simpa [List.getD_eq_getElem?_getD, hi] using this
  rw [this]
theorem contains_l0 (l : List Int) (a : Int) (hl : l.length ≤ 9223372036854775807) : ∀ (m j : Nat), j + m = l.length → ∃ r : Int, slices_Index_int_int.l0 (m + 1) l a (l.length : Int) (j : Int) = some r ∧ decide (r ≥ 0) = decide (a ∈ l.drop j)
  | 0, j, h => by
    refine ⟨-1, ?_, ?_⟩
    · simp only [slices_Index_int_int.l0]; rw [if_neg (by omega)]
    · rw [List.drop_eq_nil_of_le (by omega)]; simp
  | m + 1, j, h => by
    have hj : j < l.length := by omega
    have hr : rd l (j : Int) = l[j] := by simp [rd, hj]
    by_cases c : a = l[j]
    · refine ⟨(j : Int), ?_, ?_⟩
      · unfold slices_Index_int_int.l0
        rw [if_pos (by omega), if_pos (by omega), if_pos (by omega), hr, if_pos c]
      · rw [List.drop_eq_getElem_cons hj, ← c]; simp
    · obtain ⟨r, h1, h2⟩ := contains_l0 l a hl m (j + 1) (by omega)
      refine ⟨r, ?_, ?_⟩
      · unfold slices_Index_int_int.l0
        have hw : wrap64 ((j : Int) + 1) = ((j + 1 : Nat) : Int) := by unfold wrap64; omega
        rw [if_pos (by omega), if_pos (by omega), if_pos (by omega), hr, if_neg c, hw, h1]
      · have hd : a ∈ l.drop j ↔ a ∈ l.drop (j + 1) := by
          rw [List.drop_eq_getElem_cons hj, List.mem_cons]
          exact ⟨fun h => h.resolve_left c, Or.inr⟩
        rw [h2]
        exact decide_eq_decide.2 hd.symm
theorem contains_at (l : List Int) (a : Int) (hl : l.length ≤ 9223372036854775807) : slices_Contains_int_int.f (l.length + 1) l a = some (decide (a ∈ l)) := by
  obtain ⟨r, h1, h2⟩ := contains_l0 l a hl l.length 0 (by omega)
  unfold slices_Contains_int_int.f slices_Index_int_int.f
  have e : ((0 : Nat) : Int) = 0 := rfl
  rw [e] at h1
  rw [h1, Option.bind_some, h2, List.drop_zero]
/-- Is the roll on a shipment. -/
def hasR (roll : Int) (x : S44) : Bool := decide (roll ∈ x.f2)
set_option maxHeartbeats 1000000 in
theorem f27_calls (x : S44) (A2 : Option Addr) (c2 : Nat) (roll : Int) (pr : Nat) (w : World) (hi : (Kd.int .i64).C w A2 x.f2.length x.f2) (hl : x.f2.length ≤ c2) (hr : w.cell? ⟨pr, 0, none⟩ = some (.int .i64 roll)) :
    Calls Try.prog 27 #[.agg #[.int .i64 x.f0, .int .i64 x.f1, .slice A2 x.f2.length c2], .pointer (some ⟨pr, 0, none⟩)] w fun e w' => e = .returned (.bool (hasR roll x)) ∧ Below w.heap.size w w' := by
  have hu44 := Try.underlying44
  have HI := Aside0.mk hi
  have HL := Aside0.mk hl
  have HC := Aside0.mk (contains_at x.f2 roll hi.2.1)
  have hr' := (World.block_lt_of_cell? w _ hr)
  have HR := Aside0.mk hr
  have HR' := Aside0.mk hr'
  obtain ⟨q, HQ⟩ : ∃ q, Aside0 (q = hasR roll x) := ⟨_, ⟨rfl⟩⟩
  have HC' : Aside0 (slices_Contains_int_int.f (x.f2.length + 1) x.f2 roll = some q) := ⟨by rw [HQ.out]; exact HC.out⟩
  rw [← HQ.out]
  have hra : (w.alloc (.cells #[.int .i64 x.f0, .int .i64 x.f1, .slice A2 x.f2.length c2] 44 (0, 0))).cell? ⟨pr, 0, none⟩ = some (.int .i64 roll) := ((below_alloc (Below.refl _ _) _).cell hr').trans hr
  clear hi hl hr hr' HC
  go_enter Try.func27, Try.ntmps27
  go_wp2_with (go_at_call 28; (with_reducible refine (slices_Contains_int_int.calls (x.f2.length + 1) A2 c2 x.f2 roll q _ ?side1 HL.out HC'.out).mono ?_); (case side1 => exact Kd.C_alloc HI.out _); rintro e w' ⟨rfl, ⟨nd, rfl⟩⟩)
  go_ret
  exact ⟨rfl, by repeat (first | exact Below.refl _ _ | apply below_alloc | apply pw_below_drewN | apply below_drew1)⟩
set_option maxHeartbeats 2000000 in
theorem idx29_calls (A0 : Option Addr) (c0 : Nat) (l0 : List S44) (roll : Int) (pr : Nat) (w : World) (hr0 : Kd.C k44 w A0 l0.length l0) (hr : w.cell? ⟨pr, 0, none⟩ = some (.int .i64 roll)) :
    Calls Try.prog 29 #[.slice A0 l0.length c0, .func (.func 27) #[] #[.pointer (some ⟨pr, 0, none⟩)]] w fun e w' => e = .returned (.int .i64 (idxI (hasR roll) l0)) ∧ Below w.heap.size w w' := by
  have hu44 := Try.underlying44
  have hlen := hr0.2.1
  have HR0 := Aside0.mk hr0
  have HR := Aside0.mk hr
  clear hr0 hr
  go_enter Try.func29, Try.ntmps29
  go_wp2
  go_loopg [5, 8] l0.length (fun gg v5 v8 wr => ∃ kk : Nat, kk ≤ l0.length ∧ l0.length - kk ≤ gg ∧ v8 = .int .i64 kk ∧ Aside0 (Below w.heap.size w wr) ∧ Aside0 (∀ j, j < kk → hasR roll (l0.getD j z44) = false))
  case atStart => exact ⟨0, Nat.zero_le _, by omega, rfl, ⟨Below.refl _ w⟩, ⟨fun j hj => absurd hj (Nat.not_lt_zero _)⟩⟩
  case round =>
    obtain ⟨kk, hkk, hg, rfl, HB, HF⟩ := hrel
    by_cases hlt : kk < l0.length
    · have hltz : (kk : Int) < (l0.length : Int) := by omega
      obtain ⟨ad, A2, c2, e, h0, h1, h2, hl2, hi2⟩ := at_T44 HR0.out (kk : Int) (by omega) (by omega)
      subst e
      obtain ⟨x, HX⟩ : ∃ x, Aside0 (x = l0.getD kk z44) := ⟨_, ⟨rfl⟩⟩
      rw [show rd_T44 l0 (kk : Int) = x by rw [HX.out]; simp [rd_T44]] at h0 h1 h2 hl2 hi2
      rw [Int.toNat_natCast] at h0 h1 h2
      replace h0 := (HB.out.cell (World.block_lt_of_cell? w _ h0)).trans h0
      replace h1 := (HB.out.cell (World.block_lt_of_cell? w _ h1)).trans h1
      replace h2 := (HB.out.cell (World.block_lt_of_cell? w _ h2)).trans h2
      have HV := Aside0.mk (f27_calls x A2 c2 roll pr _ (Kd.C_below hi2 HB.out) hl2 ((HB.out.cell (World.block_lt_of_cell? w _ HR.out)).trans HR.out))
      clear hl2 hi2
      cases hq : hasR roll x with
      | true =>
        have HQ := Aside0.mk hq
        rw [hq] at HV
        clear hq
        go_wp2_with (go_at_call 27; refine HV.out.mono ?_; rintro e w' ⟨rfl, hb⟩)
        go_ret
        exact ⟨by rw [idxI_hit (hasR roll) l0 z44 kk hlt HF.out (by rw [← HX.out, HQ.out])]; rfl, below_step HB.out hb⟩
      | false =>
        have HQ := Aside0.mk hq
        rw [hq] at HV
        clear hq
        go_wp2_with (go_at_call 27; refine HV.out.mono ?_; rintro e w' ⟨rfl, hb⟩)
        go_roundg (l0.length - (kk + 1))
        case measure => omega
        case rel =>
          refine ⟨kk + 1, by omega, by omega, by go_num, ⟨below_step HB.out hb⟩, ⟨fun j hj => ?_⟩⟩
          by_cases e : j = kk
          · subst e
            rw [← HX.out, HQ.out]
          · exact HF.out j (by omega)
    · have hltz : ¬ (kk : Int) < (l0.length : Int) := by omega
      have : kk = l0.length := by omega
      subst this
      go_wp2
      go_ret
      exact ⟨by rw [idxI_miss (hasR roll) l0 z44 HF.out]; rfl, HB.out⟩
def ship_Find.f (k : Nat) (l : List S44) (roll : Int) : Option (Int × Int) := (ship_Check.f k l).bind fun e => if e = 0 then (if idxI (hasR roll) l ≥ 0 then some (idxI (hasR roll) l, 0) else some (0, 7)) else some (0, e)
theorem ship_Find.mono : ∀ a0 a1 k, LeO (ship_Find.f k a0 a1) (ship_Find.f (k + 1) a0 a1) := by
  intro a0 a1 k
  unfold ship_Find.f
  exact LeO.bind (ship_Check.mono _ _) fun _ => LeO.refl _
set_option maxHeartbeats 2000000 in
set_option maxRecDepth 100000 in
theorem ship_Find.calls (k : Nat) (A0 : Option Addr) (c0 : Nat) (l0 : List S44) (a1 : Int) (r1 r2 : Int) (w : World) (hr0 : Kd.C k44 w A0 l0.length l0) (hc0 : l0.length ≤ c0) (h : ship_Find.f k l0 a1 = some (r1, r2)) :
    Calls Try.prog 14 #[.slice A0 l0.length c0, .int .i64 a1] w fun e w' => e = .returned (.tuple #[.int .i64 r1, .int .i64 r2]) ∧ Below w.heap.size w w' := by
  have HR0 := Aside0.mk hr0
  have HC0 := Aside0.mk hc0
  clear hr0 hc0
  unfold ship_Find.f at h
  obtain ⟨e0, h1, h⟩ := Option.bind_eq_some_iff.mp h
  have A1 := Aside0.mk h1
  clear h1
  have CHK : Aside0 (∀ W : World, Below w.heap.size w W → Calls Try.prog 12 #[.slice A0 l0.length c0] W fun e w' => e = .returned (.int .i64 e0) ∧ Below W.heap.size W w') := ⟨fun W hW => ship_Check.calls k A0 c0 l0 e0 W (Kd.C_below HR0.out hW) HC0.out A1.out⟩
  by_cases c3 : e0 = 0
  · rw [if_pos c3] at h
    have c3b0 : (e0 == 0) = true := beq_iff_eq.mpr c3
    have c3b1 : (e0 != 0) = false := bne_eq_false_iff_eq.mpr c3
    clear c3
    obtain ⟨j, HJ⟩ : ∃ j, Aside0 (j = idxI (hasR a1) l0) := ⟨_, ⟨rfl⟩⟩
    rw [← HJ.out] at h
    by_cases c4 : j ≥ 0
    · rw [if_pos c4] at h
      have c4b0 : decide (0 ≤ j) = true := decide_eq_true c4
      replace c4 := eq_true (show 0 ≤ j from c4)
      simp only [Option.some.injEq, Prod.mk.injEq] at h
      obtain ⟨rfl, rfl⟩ := h
      go_enter Try.func14, Try.ntmps14
      go_wp2_with (first | ((with_reducible refine gate_dst (N := 3) rfl ?_); refine box_event ?hg (N := 3) ?hd (cs := #[.int .i64 a1]) (t := 3) ?hr ?_; (case hd => rfl); (case hg => rfl); (case hr => first | (go_simp; done) | (go_simp; rfl)); intro g1 hg w1 hbox hb; have BK1 := Aside0.mk hbox; have HB1 := Aside0.mk hb; clear hbox hb hg) | (go_at_call 12; refine (CHK.out _ HB1.out).mono ?_; rintro e w2 ⟨rfl, hb⟩; have HB2 := Aside0.mk (below_step HB1.out hb); have BK2 := Aside0.mk (blk_below BK1.out hb); clear hb) | (go_at_call 29; refine (idx29_calls A0 c0 l0 a1 g1 _ (Kd.C_below HR0.out HB2.out) ((blk_cell BK2.out 0).trans rfl)).mono ?_; rintro e w3 ⟨rfl, hb⟩; rw [← HJ.out]; have HB3 := Aside0.mk (below_step HB2.out hb); clear hb))
      go_ret2
      exact ⟨rfl, HB3.out⟩
    · rw [if_neg c4] at h
      have c4b0 : decide (0 ≤ j) = false := decide_eq_false c4
      have c4' : (0 ≤ j) = False := eq_false c4
      clear c4
      simp only [Option.some.injEq, Prod.mk.injEq] at h
      obtain ⟨rfl, rfl⟩ := h
      go_enter Try.func14, Try.ntmps14
      go_wp2_with (first | ((with_reducible refine gate_dst (N := 3) rfl ?_); refine box_event ?hg (N := 3) ?hd (cs := #[.int .i64 a1]) (t := 3) ?hr ?_; (case hd => rfl); (case hg => rfl); (case hr => first | (go_simp; done) | (go_simp; rfl)); intro g1 hg w1 hbox hb; have BK1 := Aside0.mk hbox; have HB1 := Aside0.mk hb; clear hbox hb hg) | (go_at_call 12; refine (CHK.out _ HB1.out).mono ?_; rintro e w2 ⟨rfl, hb⟩; have HB2 := Aside0.mk (below_step HB1.out hb); have BK2 := Aside0.mk (blk_below BK1.out hb); clear hb) | (go_at_call 29; refine (idx29_calls A0 c0 l0 a1 g1 _ (Kd.C_below HR0.out HB2.out) ((blk_cell BK2.out 0).trans rfl)).mono ?_; rintro e w3 ⟨rfl, hb⟩; rw [← HJ.out]; have HB3 := Aside0.mk (below_step HB2.out hb); clear hb))
      go_ret2
      exact ⟨rfl, HB3.out⟩
  · rw [if_neg c3] at h
    have c3b0 : (e0 == 0) = false := beq_eq_false_iff_ne.mpr c3
    have c3b1 : (e0 != 0) = true := bne_iff_ne.mpr c3
    clear c3
    simp only [Option.some.injEq, Prod.mk.injEq] at h
    obtain ⟨rfl, rfl⟩ := h
    go_enter Try.func14, Try.ntmps14
    go_wp2_with (first | ((with_reducible refine gate_dst (N := 3) rfl ?_); refine box_event ?hg (N := 3) ?hd (cs := #[.int .i64 a1]) (t := 3) ?hr ?_; (case hd => rfl); (case hg => rfl); (case hr => first | (go_simp; done) | (go_simp; rfl)); intro g1 hg w1 hbox hb; have BK1 := Aside0.mk hbox; have HB1 := Aside0.mk hb; clear hbox hb hg) | (go_at_call 12; refine (CHK.out _ HB1.out).mono ?_; rintro e w2 ⟨rfl, hb⟩; have HB2 := Aside0.mk (below_step HB1.out hb); have BK2 := Aside0.mk (blk_below BK1.out hb); clear hb))
    go_ret2
    exact ⟨rfl, HB2.out⟩

/-! ### ship_parcels: function 30 -/
mutual
def ship_parcels.j0 : Nat → List (S39) → Int → Int → Bool → Option (Int)
  | 0, _, _, _, _ => none
  | k + 1, x0, x1, x2, x14 => if x14 = true then (some 1) else (if (x0.length : Int) > x2 then (some 8) else (ship_parcels.l0 k x1 x0 (x0.length : Int) 0))
def ship_parcels.l0 : Nat → Int → List (S39) → Int → Int → Option (Int)
  | 0, _, _, _, _ => none
  | k + 1, x1, x19, x20, x21 => if x21 < x20 then (if 0 ≤ x21 then (if x21 < (x19.length : Int) then ((ship_id.f ((rd_T39 x19 x21).f0)).bind fun t113 => (if t113 = true then (if ((rd_T39 x19 x21).f1) < 1 then (ship_parcels.j2 k x1 x19 x20 x21 true ((rd_T39 x19 x21).f0) ((rd_T39 x19 x21).f1)) else (ship_parcels.j2 k x1 x19 x20 x21 (decide (((rd_T39 x19 x21).f1) > 1099511627776)) ((rd_T39 x19 x21).f0) ((rd_T39 x19 x21).f1))) else (ship_parcels.j2 k x1 x19 x20 x21 true ((rd_T39 x19 x21).f0) ((rd_T39 x19 x21).f1)))) else (none)) else (none)) else (some 0)
def ship_parcels.j2 : Nat → Int → List (S39) → Int → Int → Bool → Int → Int → Option (Int)
  | 0, _, _, _, _, _, _, _ => none
  | k + 1, x1, x19, x20, x21, x38, x113000, x113001 => if x38 = true then (some 1) else (if x113001 > x1 then (some 38) else (ship_parcels.l0 k x1 x19 x20 (wrap64 (x21 + 1))))
end
def ship_parcels.f (k : Nat) (l0 : List (S39)) (a1 : Int) (a2 : Int) : Option (Int) := if a1 < 1 then (ship_parcels.j0 k l0 a1 a2 true) else (ship_parcels.j0 k l0 a1 a2 (decide (a1 > 1099511627776)))
theorem ship_parcels.mono_l : ∀ k, (∀ y0 y1 y2 y3, LeO (ship_parcels.j0 k y0 y1 y2 y3) (ship_parcels.j0 (k + 1) y0 y1 y2 y3)) ∧ (∀ y0 y1 y2 y3, LeO (ship_parcels.l0 k y0 y1 y2 y3) (ship_parcels.l0 (k + 1) y0 y1 y2 y3)) ∧ (∀ y0 y1 y2 y3 y4 y5 y6, LeO (ship_parcels.j2 k y0 y1 y2 y3 y4 y5 y6) (ship_parcels.j2 (k + 1) y0 y1 y2 y3 y4 y5 y6))
  | 0 => ⟨fun _ _ _ _ r h => by simp [ship_parcels.j0] at h, fun _ _ _ _ r h => by simp [ship_parcels.l0] at h, fun _ _ _ _ _ _ _ r h => by simp [ship_parcels.j2] at h⟩
  | k + 1 => by
    obtain ⟨ih0, ih1, ih2⟩ := ship_parcels.mono_l k
    refine ⟨?_, ?_, ?_⟩
    · intro y0 y1 y2 y3
      unfold ship_parcels.j0
      repeat' first
      | (with_reducible exact ih0 _ _ _ _)
      | (with_reducible exact ih1 _ _ _ _)
      | (with_reducible exact ih2 _ _ _ _ _ _ _)
      | (with_reducible exact LeO.refl _)
      | (with_reducible exact LeO.none _)
      | (with_reducible refine LeO.ite ?_ ?_)
      | (with_reducible refine LeO.bind ?_ (fun _ => ?_))
      | exact ih0 _ _ _ _
      | exact ih1 _ _ _ _
      | exact ih2 _ _ _ _ _ _ _
      | exact LeO.none _
      | refine LeO.ite ?_ ?_
      | refine LeO.bind ?_ (fun _ => ?_)
    · intro y0 y1 y2 y3
      unfold ship_parcels.l0
      repeat' first
      | (with_reducible exact ih0 _ _ _ _)
      | (with_reducible exact ih1 _ _ _ _)
      | (with_reducible exact ih2 _ _ _ _ _ _ _)
      | (with_reducible exact LeO.refl _)
      | (with_reducible exact LeO.none _)
      | (with_reducible refine LeO.ite ?_ ?_)
      | (with_reducible refine LeO.bind ?_ (fun _ => ?_))
      | exact ih0 _ _ _ _
      | exact ih1 _ _ _ _
      | exact ih2 _ _ _ _ _ _ _
      | exact LeO.none _
      | refine LeO.ite ?_ ?_
      | refine LeO.bind ?_ (fun _ => ?_)
    · intro y0 y1 y2 y3 y4 y5 y6
      unfold ship_parcels.j2
      repeat' first
      | (with_reducible exact ih0 _ _ _ _)
      | (with_reducible exact ih1 _ _ _ _)
      | (with_reducible exact ih2 _ _ _ _ _ _ _)
      | (with_reducible exact LeO.refl _)
      | (with_reducible exact LeO.none _)
      | (with_reducible refine LeO.ite ?_ ?_)
      | (with_reducible refine LeO.bind ?_ (fun _ => ?_))
      | exact ih0 _ _ _ _
      | exact ih1 _ _ _ _
      | exact ih2 _ _ _ _ _ _ _
      | exact LeO.none _
      | refine LeO.ite ?_ ?_
      | refine LeO.bind ?_ (fun _ => ?_)
theorem ship_parcels.mono : ∀ a0 a1 a2 k, LeO (ship_parcels.f k a0 a1 a2) (ship_parcels.f (k + 1) a0 a1 a2) := by
  intro a0 a1 a2 k
  obtain ⟨ih0, ih1, ih2⟩ := ship_parcels.mono_l k
  unfold ship_parcels.f
  repeat' first
      | (with_reducible exact ih0 _ _ _ _)
      | (with_reducible exact ih1 _ _ _ _)
      | (with_reducible exact ih2 _ _ _ _ _ _ _)
      | (with_reducible exact LeO.refl _)
      | (with_reducible exact LeO.none _)
      | (with_reducible refine LeO.ite ?_ ?_)
      | (with_reducible refine LeO.bind ?_ (fun _ => ?_))
      | exact ih0 _ _ _ _
      | exact ih1 _ _ _ _
      | exact ih2 _ _ _ _ _ _ _
      | exact LeO.none _
      | refine LeO.ite ?_ ?_
      | refine LeO.bind ?_ (fun _ => ?_)
set_option maxHeartbeats 8000000 in
set_option maxRecDepth 100000 in
theorem ship_parcels.calls (k : Nat) (A0 : Option Addr) (c0 : Nat) (l0 : List (S39)) (a1 : Int) (a2 : Int) (r : Int) (w : World) (hr0 : Kd.C k39 w A0 l0.length l0) (hc0 : l0.length ≤ c0) (h : ship_parcels.f k l0 a1 a2 = some r) :
    Calls Try.prog 30 #[.slice A0 l0.length c0, .int .i64 a1, .int .i64 a2] w fun e w' => e = .returned (.int .i64 r) ∧ Below w.heap.size w w' := by
  have hu39 := Try.underlying39
  have HR0 := Aside0.mk hr0
  have HC0 := Aside0.mk hc0
  clear hr0 hc0
  have HB := Aside0.mk (Below.refl w.heap.size w)
  have H : (if a1 < 1 then (ship_parcels.j0 k l0 a1 a2 true) else (ship_parcels.j0 k l0 a1 a2 (decide (a1 > 1099511627776)))) = some r := h
  clear h
  have HC4 := Aside0.mk H
  clear H
  go_enter Try.func30, Try.ntmps30
  go_upto_region 1 with (fail)
  go_cut [14] (fun v14 wc => ∃ (kq : Nat) (x14_3 : Bool), v14 = .bool x14_3 ∧ Aside0 (ship_parcels.j0 kq l0 a1 a2 x14_3 = some r) ∧ Aside0 (kq ≤ k) ∧ Aside0 (Below w.heap.size w wc))
  case first =>
    have H := HC4.out
    clear HC4
    by_cases c5 : a1 < 1
    · rw [if_pos c5] at H
      have c5b0 : decide (a1 < 1) = true := decide_eq_true c5
      clear c5
      (first | rw [c5b0] | (simp only [i64_w, i32_w]; rw [c5b0]) | skip)
      have H' := Aside0.mk H
      clear H
      go_wp2
      go_meet
      case rel => exact ⟨_, (true), (by first | rfl | (simp; done) | (simp [*]; done)), H', ⟨by first | omega | exact Nat.le_refl _⟩, ⟨by repeat (first | (with_reducible first | exact HB.out | apply below_alloc | apply pw_below_drewN | apply below_drew1) | exact HB.out)⟩⟩
    · rw [if_neg c5] at H
      have c5b0 : decide (a1 < 1) = false := decide_eq_false c5
      clear c5
      (first | rw [c5b0] | (simp only [i64_w, i32_w]; rw [c5b0]) | skip)
      have H' := Aside0.mk H
      clear H
      go_wp2
      go_meet
      case rel => exact ⟨_, (decide (a1 > 1099511627776)), (by first | rfl | (simp; done) | (simp [*]; done)), H', ⟨by first | omega | exact Nat.le_refl _⟩, ⟨by repeat (first | (with_reducible first | exact HB.out | apply below_alloc | apply pw_below_drewN | apply below_drew1) | exact HB.out)⟩⟩
  case rest =>
    clear HC4
    try clear p2
    try clear c3
    try clear c5
    try clear c5b0
    obtain ⟨kq, x14_3, rfl, HA, HJ3, HB⟩ := hcut
    cases kq with
    | zero => exact absurd HA.out (by simp [ship_parcels.j0])
    | succ kj3 =>
      have H := HA.out
      clear HA
      simp only [ship_parcels.j0] at H
      by_cases c6 : x14_3 = true
      · subst c6
        have H1 : (some 1) = some r := by rw [if_pos rfl] at H; exact H
        clear H
        have H := H1
        clear H1
        obtain rfl := Option.some.inj H
        go_wp2
        go_ret
        exact ⟨by first | rfl | (simp [errW_none, errW_some] <;> rfl) | (simp [*, errW_none, errW_some] <;> rfl), by repeat (first | (with_reducible first | exact HB.out | apply below_alloc | apply pw_below_drewN | apply below_drew1) | exact HB.out)⟩
      · replace c6 := Bool.eq_false_iff.mpr c6
        subst c6
        have H1 : (if (l0.length : Int) > a2 then (some 8) else (ship_parcels.l0 kj3 a1 l0 (l0.length : Int) 0)) = some r := by rw [if_neg (show ¬ (false = true) by decide)] at H; exact H
        clear H
        have H := H1
        clear H1
        by_cases c7 : (l0.length : Int) > a2
        · rw [if_pos c7] at H
          have c7b0 : decide (a2 < (l0.length : Int)) = true := decide_eq_true c7
          clear c7
          obtain rfl := Option.some.inj H
          go_wp2
          go_ret
          exact ⟨by first | rfl | (simp [errW_none, errW_some] <;> rfl) | (simp [*, errW_none, errW_some] <;> rfl), by repeat (first | (with_reducible first | exact HB.out | apply below_alloc | apply pw_below_drewN | apply below_drew1) | exact HB.out)⟩
        · rw [if_neg c7] at H
          have c7b0 : decide (a2 < (l0.length : Int)) = false := decide_eq_false c7
          clear c7
          have H' := Aside0.mk H
          clear H
          go_wp2
          go_loopg [21] kj3 (fun kq v21 w' => ∃ (x21_2 : Int), v21 = .int .i64 x21_2 ∧ Aside0 (ship_parcels.l0 kq a1 l0 (l0.length : Int) x21_2 = some r) ∧ Aside0 (kq ≤ kj3) ∧ Aside0 (Below w.heap.size w w'))
          case atStart => exact ⟨(0), (by first | rfl | (simp; done) | (simp [*]; done)), H', ⟨Nat.le_refl _⟩, ⟨by repeat (first | (with_reducible first | exact HB.out | apply below_alloc | apply pw_below_drewN | apply below_drew1) | exact HB.out)⟩⟩
          case round =>
            clear H'
            try clear p2
            try clear c3
            try clear c5
            try clear c5b0
            try clear c6
            try clear c7
            try clear c7b0
            try clear p2
            obtain ⟨x21_2, rfl, HA, HK2, HB⟩ := hrel
            cases gk with
            | zero => exact absurd HA.out (by simp [ship_parcels.l0])
            | succ k2 =>
              have H := HA.out
              clear HA
              simp only [ship_parcels.l0] at H
              by_cases c8 : x21_2 < (l0.length : Int)
              · rw [if_pos c8] at H
                have c8b0 : decide (x21_2 < (l0.length : Int)) = true := decide_eq_true c8
                clear c8
                by_cases c9 : 0 ≤ x21_2
                · rw [if_pos c9] at H
                  have c9b0 : decide (0 ≤ x21_2) = true := decide_eq_true c9
                  clear c9
                  by_cases c10 : x21_2 < (l0.length : Int)
                  · rw [if_pos c10] at H
                    have c10b0 : decide (x21_2 < (l0.length : Int)) = true := decide_eq_true c10
                    clear c10
                    have HC11 := Aside0.mk H
                    clear H
                    have p111 : 0 ≤ (x21_2 : Int) := of_decide_eq_true (by first | (with_reducible assumption) | assumption)
                    have q111 : x21_2 < (l0.length : Int) := of_decide_eq_true (by first | (with_reducible assumption) | assumption)
                    obtain ⟨ad111, e111, hx111_0, hx111_1⟩ := at_T39 HR0.out x21_2 p111 q111
                    cases e111
                    replace hx111_0 := (HB.out.cell (World.block_lt_of_cell? w _ hx111_0)).trans hx111_0
                    replace hx111_1 := (HB.out.cell (World.block_lt_of_cell? w _ hx111_1)).trans hx111_1
                    replace p111 := eq_true p111
                    replace q111 := eq_true q111
                    go_upto_region 8 with (first | ((with_reducible refine gate_dst (N := 8) rfl ?_); refine box_event ?hg (N := 8) ?hd (cs := #[.int .i64 0, .int .i64 0]) (t := 39) ?hr ?_; (case hd => rfl); (case hg => rfl); (case hr => first | (go_simp; done) | (go_simp; rfl)); intro gb112 hg w12 hbox hb; have n0_ := Aside0.mk (below_step (by repeat (first | (with_reducible first | exact HB.out | apply below_alloc | apply pw_below_drewN | apply below_drew1) | exact HB.out)) hb); have n1_ := Aside0.mk (hbox); have n2_ := Aside0.mk ((by rw [hg]; exact (below_size (by repeat (first | (with_reducible first | exact HB.out | apply below_alloc | apply pw_below_drewN | apply below_drew1) | exact HB.out))) : w.heap.size ≤ gb112)); have n3_ := Aside0.mk ((by rw [hg]; exact (below_size (by repeat (first | (with_reducible first | exact HB.out | apply below_alloc | apply pw_below_drewN | apply below_drew1) | exact HB.out))) : w.heap.size ≤ gb112)); clear HB; have HB := n0_; have BK112 := n1_; have GW112 := n2_; have GE112 := n3_; clear n0_ n1_ n2_ n3_; clear hb hbox hg; have hcz13_0 : w12.cell? ⟨gb112, 0, none⟩ = some (.int .i64 0) := (blk_cell BK112.out 0).trans rfl; have hcz13_1 : w12.cell? ⟨gb112, 1, none⟩ = some (.int .i64 0) := (blk_cell BK112.out 1).trans rfl; have hfz13_0 := blk_frozen BK112.out 0; have hfz13_1 := blk_frozen BK112.out 1))
                    (try simp only [Act.put, List.setIfInBounds_toArray, List.set_cons_zero, List.set_cons_succ])
                    go_cut [38] (fun v38 wc => ∃ (kq : Nat) (x38_10 : Bool), v38 = .bool x38_10 ∧ Aside0 (ship_parcels.j2 kq a1 l0 (l0.length : Int) x21_2 x38_10 ((rd_T39 l0 x21_2).f0) ((rd_T39 l0 x21_2).f1) = some r) ∧ Aside0 (kq ≤ k2) ∧ Aside0 (wc.heap[gb112]? = some (.cells #[.int .i64 ((rd_T39 l0 x21_2).f0), .int .i64 ((rd_T39 l0 x21_2).f1)] 39 (0, 0))) ∧ Aside0 (Below w.heap.size w wc))
                    case first =>
                      have H := HC11.out
                      clear HC11
                      replace H := Option.bind_eq_some_iff.mp H
                      obtain ⟨t113, A140, H⟩ := H
                      replace H : (if t113 = true then (if ((rd_T39 l0 x21_2).f1) < 1 then (ship_parcels.j2 k2 a1 l0 (l0.length : Int) x21_2 true ((rd_T39 l0 x21_2).f0) ((rd_T39 l0 x21_2).f1)) else (ship_parcels.j2 k2 a1 l0 (l0.length : Int) x21_2 (decide (((rd_T39 l0 x21_2).f1) > 1099511627776)) ((rd_T39 l0 x21_2).f0) ((rd_T39 l0 x21_2).f1))) else (ship_parcels.j2 k2 a1 l0 (l0.length : Int) x21_2 true ((rd_T39 l0 x21_2).f0) ((rd_T39 l0 x21_2).f1))) = some r := H
                      have A14 := Aside0.mk A140
                      clear A140
                      by_cases c15 : t113 = true
                      · subst c15
                        have H1 : (if ((rd_T39 l0 x21_2).f1) < 1 then (ship_parcels.j2 k2 a1 l0 (l0.length : Int) x21_2 true ((rd_T39 l0 x21_2).f0) ((rd_T39 l0 x21_2).f1)) else (ship_parcels.j2 k2 a1 l0 (l0.length : Int) x21_2 (decide (((rd_T39 l0 x21_2).f1) > 1099511627776)) ((rd_T39 l0 x21_2).f0) ((rd_T39 l0 x21_2).f1))) = some r := by rw [if_pos rfl] at H; exact H
                        clear H
                        have H := H1
                        clear H1
                        by_cases c16 : ((rd_T39 l0 x21_2).f1) < 1
                        · rw [if_pos c16] at H
                          have c16b0 : decide (((rd_T39 l0 x21_2).f1) < 1) = true := decide_eq_true c16
                          clear c16
                          (first | rw [c16b0] | (simp only [i64_w, i32_w]; rw [c16b0]) | skip)
                          have H' := Aside0.mk H
                          clear H
                          have hcz17_0 : w12.cell? ⟨gb112, 0, none⟩ = some (.int .i64 0) := (blk_cell BK112.out 0).trans rfl
                          have hcz17_1 : w12.cell? ⟨gb112, 1, none⟩ = some (.int .i64 0) := (blk_cell BK112.out 1).trans rfl
                          have hfz17_0 := blk_frozen BK112.out 0
                          have hfz17_1 := blk_frozen BK112.out 1
                          go_wp2_with (first | ((with_reducible refine gate_callee (f := 40) rfl ?_); refine goesL_ (some 27) rfl rfl Try.func40 (by kernel_rfl) rfl #[.int .i64 ((rd_T39 l0 x21_2).f0)] rfl (by (try simp only [List.map_toArray, List.map_cons, List.map_nil]); first | done | rfl | (simp only [List.length_drop, List.length_take]; rfl)) ?_; (with_reducible refine (ship_id.calls ((rd_T39 l0 x21_2).f0) true _ A14.out).mono ?_); rintro e w' ⟨rfl, ⟨nd, rfl⟩⟩; refine ⟨_, rfl, ?_⟩))
                          go_meet
                          case rel => exact ⟨_, (true), (by first | rfl | (simp; done) | (simp [*]; done)), H', ⟨by have := HJ3.out; have := HK2.out; first | omega | exact Nat.le_refl _⟩, ⟨by (with_reducible repeat (first | refine blk_drewN ?_ _ | refine blk_drew ?_ | refine blk_alloc ?_ _)); refine blk_put (cs := #[.int .i64 ((rd_T39 l0 x21_2).f0), .int .i64 0]) ?_ 1 _ rfl; (with_reducible repeat (first | refine blk_drewN ?_ _ | refine blk_drew ?_ | refine blk_alloc ?_ _)); refine blk_put (cs := #[.int .i64 0, .int .i64 0]) ?_ 0 _ rfl; (with_reducible repeat (first | refine blk_drewN ?_ _ | refine blk_drew ?_ | refine blk_alloc ?_ _)); exact BK112.out⟩, ⟨by repeat (first | (with_reducible first | exact HB.out | apply below_alloc | apply pw_below_drewN | apply below_drew1 | refine below_set ?_ GE112.out) | exact HB.out)⟩⟩
                        · rw [if_neg c16] at H
                          have c16b0 : decide (((rd_T39 l0 x21_2).f1) < 1) = false := decide_eq_false c16
                          clear c16
                          (first | rw [c16b0] | (simp only [i64_w, i32_w]; rw [c16b0]) | skip)
                          have H' := Aside0.mk H
                          clear H
                          have hcz18_0 : w12.cell? ⟨gb112, 0, none⟩ = some (.int .i64 0) := (blk_cell BK112.out 0).trans rfl
                          have hcz18_1 : w12.cell? ⟨gb112, 1, none⟩ = some (.int .i64 0) := (blk_cell BK112.out 1).trans rfl
                          have hfz18_0 := blk_frozen BK112.out 0
                          have hfz18_1 := blk_frozen BK112.out 1
                          go_wp2_with (first | ((with_reducible refine gate_callee (f := 40) rfl ?_); refine goesL_ (some 27) rfl rfl Try.func40 (by kernel_rfl) rfl #[.int .i64 ((rd_T39 l0 x21_2).f0)] rfl (by (try simp only [List.map_toArray, List.map_cons, List.map_nil]); first | done | rfl | (simp only [List.length_drop, List.length_take]; rfl)) ?_; (with_reducible refine (ship_id.calls ((rd_T39 l0 x21_2).f0) true _ A14.out).mono ?_); rintro e w' ⟨rfl, ⟨nd, rfl⟩⟩; refine ⟨_, rfl, ?_⟩))
                          go_meet
                          case rel => exact ⟨_, (decide (((rd_T39 l0 x21_2).f1) > 1099511627776)), (by first | rfl | (simp; done) | (simp [*]; done)), H', ⟨by have := HJ3.out; have := HK2.out; first | omega | exact Nat.le_refl _⟩, ⟨by (with_reducible repeat (first | refine blk_drewN ?_ _ | refine blk_drew ?_ | refine blk_alloc ?_ _)); refine blk_put (cs := #[.int .i64 ((rd_T39 l0 x21_2).f0), .int .i64 0]) ?_ 1 _ rfl; (with_reducible repeat (first | refine blk_drewN ?_ _ | refine blk_drew ?_ | refine blk_alloc ?_ _)); refine blk_put (cs := #[.int .i64 0, .int .i64 0]) ?_ 0 _ rfl; (with_reducible repeat (first | refine blk_drewN ?_ _ | refine blk_drew ?_ | refine blk_alloc ?_ _)); exact BK112.out⟩, ⟨by repeat (first | (with_reducible first | exact HB.out | apply below_alloc | apply pw_below_drewN | apply below_drew1 | refine below_set ?_ GE112.out) | exact HB.out)⟩⟩
                      · replace c15 := Bool.eq_false_iff.mpr c15
                        subst c15
                        have H1 : (ship_parcels.j2 k2 a1 l0 (l0.length : Int) x21_2 true ((rd_T39 l0 x21_2).f0) ((rd_T39 l0 x21_2).f1)) = some r := by rw [if_neg (show ¬ (false = true) by decide)] at H; exact H
                        clear H
                        have H := H1
                        clear H1
                        have H' := Aside0.mk H
                        clear H
                        have hcz19_0 : w12.cell? ⟨gb112, 0, none⟩ = some (.int .i64 0) := (blk_cell BK112.out 0).trans rfl
                        have hcz19_1 : w12.cell? ⟨gb112, 1, none⟩ = some (.int .i64 0) := (blk_cell BK112.out 1).trans rfl
                        have hfz19_0 := blk_frozen BK112.out 0
                        have hfz19_1 := blk_frozen BK112.out 1
                        go_wp2_with (first | ((with_reducible refine gate_callee (f := 40) rfl ?_); refine goesL_ (some 27) rfl rfl Try.func40 (by kernel_rfl) rfl #[.int .i64 ((rd_T39 l0 x21_2).f0)] rfl (by (try simp only [List.map_toArray, List.map_cons, List.map_nil]); first | done | rfl | (simp only [List.length_drop, List.length_take]; rfl)) ?_; (with_reducible refine (ship_id.calls ((rd_T39 l0 x21_2).f0) false _ A14.out).mono ?_); rintro e w' ⟨rfl, ⟨nd, rfl⟩⟩; refine ⟨_, rfl, ?_⟩))
                        go_meet
                        case rel => exact ⟨_, (true), (by first | rfl | (simp; done) | (simp [*]; done)), H', ⟨by have := HJ3.out; have := HK2.out; first | omega | exact Nat.le_refl _⟩, ⟨by (with_reducible repeat (first | refine blk_drewN ?_ _ | refine blk_drew ?_ | refine blk_alloc ?_ _)); refine blk_put (cs := #[.int .i64 ((rd_T39 l0 x21_2).f0), .int .i64 0]) ?_ 1 _ rfl; (with_reducible repeat (first | refine blk_drewN ?_ _ | refine blk_drew ?_ | refine blk_alloc ?_ _)); refine blk_put (cs := #[.int .i64 0, .int .i64 0]) ?_ 0 _ rfl; (with_reducible repeat (first | refine blk_drewN ?_ _ | refine blk_drew ?_ | refine blk_alloc ?_ _)); exact BK112.out⟩, ⟨by repeat (first | (with_reducible first | exact HB.out | apply below_alloc | apply pw_below_drewN | apply below_drew1 | refine below_set ?_ GE112.out) | exact HB.out)⟩⟩
                    case rest =>
                      clear HC11
                      try clear c1
                      try clear p1
                      try clear q1
                      try clear hx1
                      try clear p2
                      try clear c3
                      try clear c4
                      try clear c5
                      try clear c5b0
                      try clear c6
                      try clear c7
                      try clear c7b0
                      try clear c8
                      try clear c8b0
                      try clear c9
                      try clear c9b0
                      try clear c10
                      try clear c10b0
                      try clear p11
                      try clear q11
                      try clear hx11
                      try clear c15
                      try clear c16
                      try clear c16b0
                      try clear hcz13_0
                      try clear hcz13_1
                      try clear hcz17_0
                      try clear hcz17_1
                      try clear hcz18_0
                      try clear hcz18_1
                      try clear hcz19_0
                      try clear hcz19_1
                      try clear hfz13_0
                      try clear hfz13_1
                      try clear hfz17_0
                      try clear hfz17_1
                      try clear hfz18_0
                      try clear hfz18_1
                      try clear hfz19_0
                      try clear hfz19_1
                      try clear hx111_0
                      try clear hx111_1
                      try clear p111
                      try clear p2
                      try clear q111
                      obtain ⟨kq, x38_10, rfl, HA, HJ10, BK112, HB⟩ := hcut
                      cases kq with
                      | zero => exact absurd HA.out (by simp [ship_parcels.j2])
                      | succ kj10 =>
                        have H := HA.out
                        clear HA
                        simp only [ship_parcels.j2] at H
                        by_cases c20 : x38_10 = true
                        · subst c20
                          have H1 : (some 1) = some r := by rw [if_pos rfl] at H; exact H
                          clear H
                          have H := H1
                          clear H1
                          obtain rfl := Option.some.inj H
                          go_wp2
                          go_ret
                          exact ⟨by first | rfl | (simp [errW_none, errW_some] <;> rfl) | (simp [*, errW_none, errW_some] <;> rfl), by repeat (first | (with_reducible first | exact HB.out | apply below_alloc | apply pw_below_drewN | apply below_drew1 | refine below_set ?_ GE112.out) | exact HB.out)⟩
                        · replace c20 := Bool.eq_false_iff.mpr c20
                          subst c20
                          have H1 : (if ((rd_T39 l0 x21_2).f1) > a1 then (some 38) else (ship_parcels.l0 kj10 a1 l0 (l0.length : Int) (wrap64 (x21_2 + 1)))) = some r := by rw [if_neg (show ¬ (false = true) by decide)] at H; exact H
                          clear H
                          have H := H1
                          clear H1
                          by_cases c21 : ((rd_T39 l0 x21_2).f1) > a1
                          · rw [if_pos c21] at H
                            have c21b0 : decide (a1 < ((rd_T39 l0 x21_2).f1)) = true := decide_eq_true c21
                            clear c21
                            obtain rfl := Option.some.inj H
                            have hcz22_0 : wc.cell? ⟨gb112, 0, none⟩ = some (.int .i64 ((rd_T39 l0 x21_2).f0)) := (blk_cell BK112.out 0).trans rfl
                            have hcz22_1 : wc.cell? ⟨gb112, 1, none⟩ = some (.int .i64 ((rd_T39 l0 x21_2).f1)) := (blk_cell BK112.out 1).trans rfl
                            have hfz22_0 := blk_frozen BK112.out 0
                            have hfz22_1 := blk_frozen BK112.out 1
                            go_wp2
                            go_ret
                            exact ⟨by first | rfl | (simp [errW_none, errW_some] <;> rfl) | (simp [*, errW_none, errW_some] <;> rfl), by repeat (first | (with_reducible first | exact HB.out | apply below_alloc | apply pw_below_drewN | apply below_drew1 | refine below_set ?_ GE112.out) | exact HB.out)⟩
                          · rw [if_neg c21] at H
                            have c21b0 : decide (a1 < ((rd_T39 l0 x21_2).f1)) = false := decide_eq_false c21
                            clear c21
                            have H' := Aside0.mk H
                            clear H
                            have hcz23_0 : wc.cell? ⟨gb112, 0, none⟩ = some (.int .i64 ((rd_T39 l0 x21_2).f0)) := (blk_cell BK112.out 0).trans rfl
                            have hcz23_1 : wc.cell? ⟨gb112, 1, none⟩ = some (.int .i64 ((rd_T39 l0 x21_2).f1)) := (blk_cell BK112.out 1).trans rfl
                            have hfz23_0 := blk_frozen BK112.out 0
                            have hfz23_1 := blk_frozen BK112.out 1
                            go_wp2
                            go_roundg kj10
                            case measure => have := HJ3.out; have := HK2.out; have := HJ10.out; omega
                            case rel => exact ⟨(wrap64 (x21_2 + 1)), (by first | rfl | (simp; done) | (simp [*]; done)), H', ⟨by have := HJ3.out; have := HK2.out; have := HJ10.out; omega⟩, ⟨by repeat (first | (with_reducible first | exact HB.out | apply below_alloc | apply pw_below_drewN | apply below_drew1 | refine below_set ?_ GE112.out) | exact HB.out)⟩⟩
                  · rw [if_neg c10] at H
                    exact absurd H (by simp)
                · rw [if_neg c9] at H
                  exact absurd H (by simp)
              · rw [if_neg c8] at H
                have c8b0 : decide (x21_2 < (l0.length : Int)) = false := decide_eq_false c8
                clear c8
                obtain rfl := Option.some.inj H
                go_wp2
                go_ret
                exact ⟨by first | rfl | (simp [errW_none, errW_some] <;> rfl) | (simp [*, errW_none, errW_some] <;> rfl), by repeat (first | (with_reducible first | exact HB.out | apply below_alloc | apply pw_below_drewN | apply below_drew1) | exact HB.out)⟩

/-! ### ship_trucks: function 33 -/
def ship_trucks.l0 : Nat → List (List Int) → List Int → Int → Int → Option ((List (List Int)))
  | 0, _, _, _, _ => none
  | k + 1, x3, x6, x7, x8 => if x8 < x7 then (if 0 ≤ x8 then (if x8 < (x6.length : Int) then (if (rd x6 x8) = (x3.length : Int) then (if x3.length < 5864062014805 then ((some (x3 ++ [[]] : List (List Int))).bind fun y115 => (if 0 ≤ (rd x6 x8) then (if (rd x6 x8) < (y115.length : Int) then (if (rd_L1 y115 (rd x6 x8)).length < 17592186044416 then (ship_trucks.l0 k (y115.set ((rd x6 x8) : Int).toNat ((rd_L1 y115 (rd x6 x8)) ++ [x8])) x6 x7 (wrap64 (x8 + 1))) else (none)) else (none)) else (none))) else (none)) else (if 0 ≤ (rd x6 x8) then (if (rd x6 x8) < (x3.length : Int) then (if (rd_L1 x3 (rd x6 x8)).length < 17592186044416 then (ship_trucks.l0 k (x3.set ((rd x6 x8) : Int).toNat ((rd_L1 x3 (rd x6 x8)) ++ [x8])) x6 x7 (wrap64 (x8 + 1))) else (none)) else (none)) else (none))) else (none)) else (none)) else (some x3)
def ship_trucks.f (k : Nat) (l0 : List Int) : Option ((List (List Int))) := ship_trucks.l0 k ([] : List (List Int)) l0 (l0.length : Int) 0
theorem ship_trucks.mono_l : ∀ k, (∀ y0 y1 y2 y3, LeO (ship_trucks.l0 k y0 y1 y2 y3) (ship_trucks.l0 (k + 1) y0 y1 y2 y3))
  | 0 => fun _ _ _ _ r h => by simp [ship_trucks.l0] at h
  | k + 1 => by
    have ih0 := ship_trucks.mono_l k
    · intro y0 y1 y2 y3
      unfold ship_trucks.l0
      repeat' first
      | (with_reducible exact ih0 _ _ _ _)
      | (with_reducible exact LeO.refl _)
      | (with_reducible exact LeO.none _)
      | (with_reducible refine LeO.ite ?_ ?_)
      | (with_reducible refine LeO.bind ?_ (fun _ => ?_))
      | exact ih0 _ _ _ _
      | exact LeO.none _
      | refine LeO.ite ?_ ?_
      | refine LeO.bind ?_ (fun _ => ?_)
theorem ship_trucks.mono : ∀ a0 k, LeO (ship_trucks.f k a0) (ship_trucks.f (k + 1) a0) := by
  intro a0 k
  have ih0 := ship_trucks.mono_l k
  unfold ship_trucks.f
  repeat' first
      | (with_reducible exact ih0 _ _ _ _)
      | (with_reducible exact LeO.refl _)
      | (with_reducible exact LeO.none _)
      | (with_reducible refine LeO.ite ?_ ?_)
      | (with_reducible refine LeO.bind ?_ (fun _ => ?_))
      | exact ih0 _ _ _ _
      | exact LeO.none _
      | refine LeO.ite ?_ ?_
      | refine LeO.bind ?_ (fun _ => ?_)
set_option maxHeartbeats 8000000 in
set_option maxRecDepth 100000 in
theorem ship_trucks.calls (k : Nat) (A0 : Option Addr) (c0 : Nat) (l0 : List Int) (r : List (List Int)) (w : World) (hr0 : Kd.C (Kd.int .i64) w A0 l0.length l0) (hc0 : l0.length ≤ c0) (h : ship_trucks.f k l0 = some r) :
    Calls Try.prog 33 #[.slice A0 l0.length c0] w fun e w' => ∃ v0_ : Value, e = .returned (v0_) ∧ Kd.S (Kd.slice 3 (Kd.int .i64)) 37 w' w.heap.size (fun _ => True) v0_ r ∧ Below w.heap.size w w' := by
  have HR0 := Aside0.mk hr0
  have HC0 := Aside0.mk hc0
  clear hr0 hc0
  have HB := Aside0.mk (Below.refl w.heap.size w)
  have H : (ship_trucks.l0 k ([] : List (List Int)) l0 (l0.length : Int) 0) = some r := h
  clear h
  have H' := Aside0.mk H
  clear H
  go_enter Try.func33, Try.ntmps33
  go_wp2
  go_loopg [3, 8] k (fun kq v3 v8 w' => ∃ (x3_1 : List (List Int)) (x8_1 : Int), v8 = .int .i64 x8_1 ∧ Aside0 (ship_trucks.l0 kq x3_1 l0 (l0.length : Int) x8_1 = some r) ∧ Aside0 (kq ≤ k) ∧ Aside0 (Kd.S (Kd.slice 3 (Kd.int .i64)) 37 w' w.heap.size (fun _ => True) v3 x3_1) ∧ Aside0 (Below w.heap.size w w'))
  case atStart => exact ⟨(([] : List (List Int))), (0), (by first | rfl | (simp; done) | (simp [*]; done)), H', ⟨Nat.le_refl _⟩, ⟨by first | exact Kd.S_nil _ _ _ _ _ | exact Kd.N_nil _ _ _ _ _ | exact Kd.V_nil _ _ _ _ _ | exact Kd.Q_nil _ _ _ _ _ | exact Kd.R_nil _ _ _ _ _⟩, ⟨by repeat (first | (with_reducible first | exact HB.out | apply below_alloc | apply pw_below_drewN | apply below_drew1) | exact HB.out)⟩⟩
  case round =>
    clear H'
    obtain ⟨x3_1, x8_1, rfl, HA, HK1, HO_3, HB⟩ := hrel
    cases gk with
    | zero => exact absurd HA.out (by simp [ship_trucks.l0])
    | succ k1 =>
      have H := HA.out
      clear HA
      simp only [ship_trucks.l0] at H
      by_cases c2 : x8_1 < (l0.length : Int)
      · rw [if_pos c2] at H
        have c2b0 : decide (x8_1 < (l0.length : Int)) = true := decide_eq_true c2
        clear c2
        by_cases c3 : 0 ≤ x8_1
        · rw [if_pos c3] at H
          have c3b0 : decide (0 ≤ x8_1) = true := decide_eq_true c3
          clear c3
          by_cases c4 : x8_1 < (l0.length : Int)
          · rw [if_pos c4] at H
            have c4b0 : decide (x8_1 < (l0.length : Int)) = true := decide_eq_true c4
            clear c4
            by_cases c5 : (rd l0 x8_1) = (x3_1.length : Int)
            · rw [if_pos c5] at H
              have c5b0 : ((rd l0 x8_1) == (x3_1.length : Int)) = true := beq_iff_eq.mpr c5
              have c5b1 : ((rd l0 x8_1) != (x3_1.length : Int)) = false := bne_eq_false_iff_eq.mpr c5
              clear c5
              by_cases c6 : x3_1.length < 5864062014805
              · rw [if_pos c6] at H
                have LMc6 := Aside0.mk c6
                clear c6
                obtain ⟨y115, hy115⟩ : ∃ y_ : List (List Int), y_ = (x3_1 ++ [[]]) := ⟨_, rfl⟩
                replace H : (if 0 ≤ (rd l0 x8_1) then (if (rd l0 x8_1) < (y115.length : Int) then (if (rd_L1 y115 (rd l0 x8_1)).length < 17592186044416 then (ship_trucks.l0 k1 (y115.set ((rd l0 x8_1) : Int).toNat ((rd_L1 y115 (rd l0 x8_1)) ++ [x8_1])) l0 (l0.length : Int) (wrap64 (x8_1 + 1))) else (none)) else (none)) else (none)) = some r := by first | (rw [hy115]; with_reducible exact H) | (have H2_ := (Option.bind_some _ _).symm.trans H; rw [hy115]; with_reducible exact H2_) | (have H2_ := (Option.bind_some _ _).symm.trans H; with_reducible exact H2_) | with_reducible exact H | (rw [hy115]; exact H) | exact H
                have Ny115 := Aside0.mk hy115
                clear hy115
                by_cases c7 : 0 ≤ (rd l0 x8_1)
                · rw [if_pos c7] at H
                  have c7b0 : decide (0 ≤ (rd l0 x8_1)) = true := decide_eq_true c7
                  clear c7
                  by_cases c8 : (rd l0 x8_1) < (y115.length : Int)
                  · rw [if_pos c8] at H
                    have c8b0 : decide ((rd l0 x8_1) < (y115.length : Int)) = true := decide_eq_true c8
                    clear c8
                    by_cases c9 : (rd_L1 y115 (rd l0 x8_1)).length < 17592186044416
                    · rw [if_pos c9] at H
                      have LMc9 := Aside0.mk c9
                      clear c9
                      obtain ⟨y119, hy119⟩ : ∃ y_ : List Int, y_ = ((rd_L1 y115 (rd l0 x8_1)) ++ [x8_1]) := ⟨_, rfl⟩
                      replace H : (ship_trucks.l0 k1 (y115.set ((rd l0 x8_1) : Int).toNat y119) l0 (l0.length : Int) (wrap64 (x8_1 + 1))) = some r := by first | (rw [hy119]; with_reducible exact H) | (have H2_ := (Option.bind_some _ _).symm.trans H; rw [hy119]; with_reducible exact H2_) | (have H2_ := (Option.bind_some _ _).symm.trans H; with_reducible exact H2_) | with_reducible exact H | (rw [hy119]; exact H) | exact H
                      have Ny119 := Aside0.mk hy119
                      clear hy119
                      obtain ⟨y122, hy122⟩ : ∃ y_ : List (List Int), y_ = (y115.set ((rd l0 x8_1) : Int).toNat y119) := ⟨_, rfl⟩
                      replace H : (ship_trucks.l0 k1 y122 l0 (l0.length : Int) (wrap64 (x8_1 + 1))) = some r := by first | (rw [hy122]; with_reducible exact H) | (have H2_ := (Option.bind_some _ _).symm.trans H; rw [hy122]; with_reducible exact H2_) | (have H2_ := (Option.bind_some _ _).symm.trans H; with_reducible exact H2_) | with_reducible exact H | (rw [hy122]; exact H) | exact H
                      have Ny122 := Aside0.mk hy122
                      clear hy122
                      have H' := Aside0.mk H
                      clear H
                      have p114 : 0 ≤ (x8_1 : Int) := of_decide_eq_true (by first | (with_reducible assumption) | assumption)
                      have q114 : x8_1 < (l0.length : Int) := of_decide_eq_true (by first | (with_reducible assumption) | assumption)
                      obtain ⟨ad114, e114, hx114_0⟩ := Kd.at_int HR0.out x8_1 p114 q114
                      cases e114
                      replace hx114_0 := (HB.out.cell (World.block_lt_of_cell? w _ hx114_0)).trans hx114_0
                      replace p114 := eq_true p114
                      replace q114 := eq_true q114
                      obtain ⟨Ao11, co11, eo11⟩ := Kd.S_slice HO_3.out
                      subst eo11
                      go_wp2_with (first | ((with_reducible refine gate_builtin (b := .append) (xs := #[.tmp 17, .tmp 18]) rfl ?_); at_builtin; refine Kd.S_append (Kd.slice 3 (Kd.int .i64)) (w0 := w) w.heap.size rfl (.tmp 17) (.tmp 18) 31 37 (.slice none 0 0) 24 rfl Try.underlying31 info37 rfl (by decide) (by omega) (.slice Ao11 x3_1.length co11) x3_1 [] [.slice none 0 0] (fun _ => True) (fun _ => False) rfl rfl ?aP (fun _ hk => hk.elim) ?aF ?aO ?aB ?aS ?aL ?_; (case aP => exact Kd.M_row (Kd.R_nil _ _ _ _ _)); (case aB => exact (by repeat (first | (with_reducible first | exact HB.out | apply below_alloc | apply pw_below_drewN | apply below_drew1) | exact HB.out))); (case aF => exact (fun _ _ => trivial)); (case aO => exact (by (with_reducible repeat (first | apply Kd.S_alloc | apply Kd.S_drewN | apply Kd.S_drew)); exact Kd.S_mono HO_3.out (fun k_ hk => ⟨trivial, fun e_ => e_⟩))); (case aS => exact (below_size (by repeat (first | (with_reducible first | exact HB.out | apply below_alloc | apply pw_below_drewN | apply below_drew1) | exact HB.out)))); (case aL => have := LMc6.out; omega); intro v116 w12 ho hb hg hat; rw [← Ny115.out] at ho; have n0_ := Aside0.mk (hb); have n1_ := Aside0.mk (ho); clear HB; clear HO_3; have HB := n0_; have HO117 := n1_; clear n0_ n1_; clear ho hb hg hat; obtain ⟨Ao13, co13, eo13⟩ := Kd.S_slice HO117.out; subst eo13; have p118 : 0 ≤ ((rd l0 x8_1) : Int) := of_decide_eq_true (by first | (with_reducible assumption) | assumption); have q118 : (rd l0 x8_1) < (y115.length : Int) := of_decide_eq_true (by first | (with_reducible assumption) | assumption); obtain ⟨ad118, A118_0, c118_0, e118, hx118_0, hl118_0, hi118_0⟩ := at_L1 (Kd.S_reads' HO117.out).2.2 (rd l0 x8_1) p118 q118; cases e118; obtain ⟨ce118, hce118, hMe118, hcc118⟩ := Kd.S_get HO117.out [] (rd l0 x8_1) p118 (by first | exact q118 | exact of_decide_eq_true (by first | (with_reducible assumption) | assumption) | (have e_ := (Kd.S_reads' HO117.out).1; omega)); obtain ⟨ve118_0, rfl, ge118_0⟩ := hMe118; have hv118_0 := hcc118 0 _ rfl; rw [Nat.add_zero, show ((Kd.slice 3 (Kd.int .i64))).sz = 1 from rfl, Nat.mul_one] at hv118_0; replace hv118_0 := Option.some.inj (hv118_0.symm.trans hx118_0); rw [hv118_0] at ge118_0; have HL118_0 := Aside0.mk (show Kd.R (Kd.int .i64) 3 _ _ _ _ (rd_L1 y115 (rd l0 x8_1)) from ge118_0); clear hv118_0 ge118_0; have HX118_0 := Aside0.mk hx118_0; clear hcc118 hce118; have HR118_0 := Aside0.mk hi118_0; have HC118_0 := Aside0.mk hl118_0; clear hi118_0 hl118_0; replace p118 := eq_true p118; replace q118 := eq_true q118; obtain ⟨go14, co14, eo14, gb14, gl14, cl14, HG14⟩ := Kd.S_form HO117.out (by have h_ : ((rd l0 x8_1) : Int) < ((y115.length : Int) : Int) := of_decide_eq_true (by first | (with_reducible assumption) | assumption); have h2_ : 0 ≤ ((rd l0 x8_1) : Int) := (of_decide_eq_true (by first | (with_reducible assumption) | assumption)); omega); (first | cases eo14 | (injection eo14 with ea_ en_ ec_; (first | subst ea_ | (injection ea_ with ea_; subst ea_)); subst ec_; clear en_)); have GB14 := Aside0.mk gb14; have GG14 := Aside0.mk HG14; clear gb14 gl14 HG14; (first | simp only [add_plain] at hx118_0 | skip); obtain ⟨oki14, ce14, hcl14, hM14, hcc14, _, _, hH14⟩ := Kd.S_elem HO117.out [] ((rd l0 x8_1) : Int) (of_decide_eq_true (by first | (with_reducible assumption) | assumption)) (by have h_ : ((rd l0 x8_1) : Int) < ((y115.length : Int) : Int) := of_decide_eq_true (by first | (with_reducible assumption) | assumption); first | exact h_ | (have e_ := (Kd.S_reads' HO117.out).1; omega) | simpa using h_); obtain ⟨ve14_0, rfl, ge14_0⟩ := hM14; have hv14 := hcc14 0 _ rfl; have hX14 := HX118_0.out; (try simp only [add_plain] at hX14); (try simp only [Nat.add_zero] at hv14); (try rw [show ((Kd.slice 3 (Kd.int .i64))).sz = 1 from rfl, Nat.mul_one] at hv14); replace hv14 := Option.some.inj (hv14.symm.trans hX14); subst hv14; clear hX14 hcc14 hcl14; have UU14 := Aside0.mk (show Kd.R (Kd.int .i64) 3 _ w.heap.size oki14 (.slice A118_0 (rd_L1 y115 (rd l0 x8_1)).length c118_0) (rd_L1 y115 (rd l0 x8_1)) from ge14_0); have HH14 := Aside0.mk hH14; have HN14 := Aside0.mk (Kd.S_reads' HO117.out).1; clear hH14 ge14_0) | ((with_reducible refine gate_builtin (b := .append) (xs := #[.tmp 25, .tmp 27]) rfl ?_); at_builtin; refine Kd.R_append (Kd.int .i64) (w0 := w) w.heap.size rfl (.tmp 25) (.tmp 27) 37 3 (.int .i64 0) 8 rfl Try.underlying37 info3 rfl (by decide) (by omega) (.slice A118_0 (rd_L1 y115 (rd l0 x8_1)).length c118_0) (rd_L1 y115 (rd l0 x8_1)) x8_1 [.int .i64 x8_1] (fun k_ => oki14 k_ ∨ ((fun _ => True)) k_ ∧ w12.heap.size ≤ k_) (fun _ => False) rfl rfl ?aP (fun _ hk => hk.elim) ?aF ?aO ?aB ?aS ?aL ?_; (case aP => exact rfl); (case aB => exact (by repeat (first | (with_reducible first | exact HB.out | apply below_alloc | apply pw_below_drewN | apply below_drew1) | exact HB.out))); (case aF => exact (fun k_ hk => .inr ⟨trivial, hk⟩)); (case aO => exact (by (with_reducible repeat (first | apply Kd.R_alloc | apply Kd.R_drewN | apply Kd.R_drew)); exact Kd.R_mono UU14.out (fun _ hk => .inl hk))); (case aS => exact (below_size (by repeat (first | (with_reducible first | exact HB.out | apply below_alloc | apply pw_below_drewN | apply below_drew1) | exact HB.out)))); (case aL => have := LMc9.out; omega); intro v120 w15 ho hb hg hat; rw [← Ny119.out] at ho; have n0_ := Aside0.mk (hb); have n1_ := Aside0.mk (Kd.H_grown (Kd.H_widen (by repeat (first | exact HH14.out | refine Kd.H_alloc ?_ _ | refine Kd.H_drewN ?_ _ | refine Kd.H_drew ?_))) hg (fun k_ e_ => .inl (UU14.out.1 k_ e_))); have n2_ := Aside0.mk (ho); clear HB; clear HH14; clear HO117; clear UU14; clear HL118_0; have HB := n0_; have HH14 := n1_; have HO121 := n2_; clear n0_ n1_ n2_; clear ho hb hg hat; have p10 : 0 ≤ ((rd l0 x8_1) : Int) := of_decide_eq_true (by first | (with_reducible assumption) | assumption); have q10 : ((rd l0 x8_1) : Int) < ((y115.length : Int) : Int) := of_decide_eq_true (by first | (with_reducible assumption) | assumption); replace p10 := eq_true p10; replace q10 := eq_true q10; obtain ⟨Ao18, co18, eo18⟩ := Kd.R_slice HO121.out; subst eo18; obtain ⟨_, _, hraw16, _, _, hcc16, _⟩ := Kd.H_raw HH14.out (of_decide_eq_true (by first | (with_reducible assumption) | assumption)) (by have h_ : ((rd l0 x8_1) : Int) < ((y115.length : Int) : Int) := of_decide_eq_true (by first | (with_reducible assumption) | assumption); first | exact h_ | (have e_ := (HN14.out); omega) | simpa using h_); obtain ⟨_, hfr16⟩ := Kd.H_at HH14.out (of_decide_eq_true (by first | (with_reducible assumption) | assumption)) (by have h_ : ((rd l0 x8_1) : Int) < ((y115.length : Int) : Int) := of_decide_eq_true (by first | (with_reducible assumption) | assumption); first | exact h_ | (have e_ := (HN14.out); omega) | simpa using h_); have hx16_0 := hcc16 0 _ rfl; have hf16_0 := hfr16 0; (try simp only [Nat.add_zero] at hx16_0 hf16_0); (try rw [show ((Kd.slice 3 (Kd.int .i64))).sz = 1 from rfl, Nat.mul_one] at hx16_0); (try rw [show ((Kd.slice 3 (Kd.int .i64))).sz = 1 from rfl, Nat.mul_one] at hf16_0); have HP16 := Kd.S_seg0 HH14.out (of_decide_eq_true (by first | (with_reducible assumption) | assumption)) (by have h_ : ((rd l0 x8_1) : Int) < ((y115.length : Int) : Int) := of_decide_eq_true (by first | (with_reducible assumption) | assumption); first | exact h_ | (have e_ := (HN14.out); omega) | simpa using h_) (seg := [.slice Ao18 y119.length co18]) (j := 0) (show 1 ≤ 1 from by decide) (x' := y119) (Kd.M_row HO121.out) (fun _ hk => hk); (try simp only [show ((Kd.slice 3 (Kd.int .i64))).sz = 1 from rfl, Nat.mul_one, Nat.add_zero] at HP16); clear hcc16 hfr16) | ((with_reducible refine gate_store (t := 37) (p := 29) rfl ?_); refine store_event (t := 37) (p := 29) (v := ?vo_w17) (w1 := (w15.setCell ⟨go14, ((rd l0 x8_1) : Int).toNat, none⟩ (.slice Ao18 y119.length co18))) ?hg ?ho ?hn ?hr ?_; (case ho => rfl); (case hg => rfl); (case hn => rfl); (case hr => first | (go_simp; done) | (go_simp; rfl)); intro w17 hw; have hg : w15.grownBy w17 (some go14) := (by rw [hw]; exact HP16.2); have hp_ : Kd.S (Kd.slice 3 (Kd.int .i64)) 37 w17 w.heap.size (fun _ => True) (.slice (some ⟨go14, 0, none⟩) y115.length co13) y122 := (by rw [hw, Ny122.out]; exact HP16.1); clear HP16; have n0_ := Aside0.mk ((by rw [hw]; exact below_set HB.out GB14.out : Below w.heap.size w w17)); have n1_ := Aside0.mk (hp_); clear HB; clear HO121; clear HH14; have HB := n0_; have HO117 := n1_; clear n0_ n1_; clear hg hw hp_ hraw16))
                      go_roundg k1
                      case measure => have := HK1.out; omega
                      case rel => exact ⟨(y122), (wrap64 (x8_1 + 1)), (by first | rfl | (simp; done) | (simp [*]; done)), H', ⟨by have := HK1.out; omega⟩, ⟨by (with_reducible repeat (first | apply Kd.S_alloc | apply Kd.S_drewN | apply Kd.S_drew)); exact HO117.out⟩, ⟨by repeat (first | (with_reducible first | exact HB.out | apply below_alloc | apply pw_below_drewN | apply below_drew1) | exact HB.out)⟩⟩
                    · rw [if_neg c9] at H
                      exact absurd H (by simp)
                  · rw [if_neg c8] at H
                    exact absurd H (by simp)
                · rw [if_neg c7] at H
                  exact absurd H (by simp)
              · rw [if_neg c6] at H
                exact absurd H (by simp)
            · rw [if_neg c5] at H
              have c5b0 : ((rd l0 x8_1) == (x3_1.length : Int)) = false := beq_eq_false_iff_ne.mpr c5
              have c5b1 : ((rd l0 x8_1) != (x3_1.length : Int)) = true := bne_iff_ne.mpr c5
              by_cases c19 : 0 ≤ (rd l0 x8_1)
              · rw [if_pos c19] at H
                have c19b0 : decide (0 ≤ (rd l0 x8_1)) = true := decide_eq_true c19
                clear c19
                by_cases c20 : (rd l0 x8_1) < (x3_1.length : Int)
                · rw [if_pos c20] at H
                  have c20b0 : decide ((rd l0 x8_1) < (x3_1.length : Int)) = true := decide_eq_true c20
                  clear c20
                  by_cases c21 : (rd_L1 x3_1 (rd l0 x8_1)).length < 17592186044416
                  · rw [if_pos c21] at H
                    have LMc21 := Aside0.mk c21
                    clear c21
                    obtain ⟨y124, hy124⟩ : ∃ y_ : List Int, y_ = ((rd_L1 x3_1 (rd l0 x8_1)) ++ [x8_1]) := ⟨_, rfl⟩
                    replace H : (ship_trucks.l0 k1 (x3_1.set ((rd l0 x8_1) : Int).toNat y124) l0 (l0.length : Int) (wrap64 (x8_1 + 1))) = some r := by first | (rw [hy124]; with_reducible exact H) | (have H2_ := (Option.bind_some _ _).symm.trans H; rw [hy124]; with_reducible exact H2_) | (have H2_ := (Option.bind_some _ _).symm.trans H; with_reducible exact H2_) | with_reducible exact H | (rw [hy124]; exact H) | exact H
                    have Ny124 := Aside0.mk hy124
                    clear hy124
                    obtain ⟨y127, hy127⟩ : ∃ y_ : List (List Int), y_ = (x3_1.set ((rd l0 x8_1) : Int).toNat y124) := ⟨_, rfl⟩
                    replace H : (ship_trucks.l0 k1 y127 l0 (l0.length : Int) (wrap64 (x8_1 + 1))) = some r := by first | (rw [hy127]; with_reducible exact H) | (have H2_ := (Option.bind_some _ _).symm.trans H; rw [hy127]; with_reducible exact H2_) | (have H2_ := (Option.bind_some _ _).symm.trans H; with_reducible exact H2_) | with_reducible exact H | (rw [hy127]; exact H) | exact H
                    have Ny127 := Aside0.mk hy127
                    clear hy127
                    have H' := Aside0.mk H
                    clear H
                    have p114 : 0 ≤ (x8_1 : Int) := of_decide_eq_true (by first | (with_reducible assumption) | assumption)
                    have q114 : x8_1 < (l0.length : Int) := of_decide_eq_true (by first | (with_reducible assumption) | assumption)
                    obtain ⟨ad114, e114, hx114_0⟩ := Kd.at_int HR0.out x8_1 p114 q114
                    cases e114
                    replace hx114_0 := (HB.out.cell (World.block_lt_of_cell? w _ hx114_0)).trans hx114_0
                    replace p114 := eq_true p114
                    replace q114 := eq_true q114
                    obtain ⟨Ao23, co23, eo23⟩ := Kd.S_slice HO_3.out
                    subst eo23
                    have p123 : 0 ≤ ((rd l0 x8_1) : Int) := of_decide_eq_true (by first | (with_reducible assumption) | assumption)
                    have q123 : (rd l0 x8_1) < (x3_1.length : Int) := of_decide_eq_true (by first | (with_reducible assumption) | assumption)
                    obtain ⟨ad123, A123_0, c123_0, e123, hx123_0, hl123_0, hi123_0⟩ := at_L1 (Kd.S_reads' HO_3.out).2.2 (rd l0 x8_1) p123 q123
                    cases e123
                    obtain ⟨ce123, hce123, hMe123, hcc123⟩ := Kd.S_get HO_3.out [] (rd l0 x8_1) p123 (by first | exact q123 | exact of_decide_eq_true (by first | (with_reducible assumption) | assumption) | (have e_ := (Kd.S_reads' HO_3.out).1; omega))
                    obtain ⟨ve123_0, rfl, ge123_0⟩ := hMe123
                    have hv123_0 := hcc123 0 _ rfl
                    rw [Nat.add_zero, show ((Kd.slice 3 (Kd.int .i64))).sz = 1 from rfl, Nat.mul_one] at hv123_0
                    replace hv123_0 := Option.some.inj (hv123_0.symm.trans hx123_0)
                    rw [hv123_0] at ge123_0
                    have HL123_0 := Aside0.mk (show Kd.R (Kd.int .i64) 3 _ _ _ _ (rd_L1 x3_1 (rd l0 x8_1)) from ge123_0)
                    clear hv123_0 ge123_0
                    have HX123_0 := Aside0.mk hx123_0
                    clear hcc123 hce123
                    have HR123_0 := Aside0.mk hi123_0
                    have HC123_0 := Aside0.mk hl123_0
                    clear hi123_0 hl123_0
                    replace p123 := eq_true p123
                    replace q123 := eq_true q123
                    obtain ⟨go24, co24, eo24, gb24, gl24, cl24, HG24⟩ := Kd.S_form HO_3.out (by have h_ : ((rd l0 x8_1) : Int) < ((x3_1.length : Int) : Int) := of_decide_eq_true (by first | (with_reducible assumption) | assumption); have h2_ : 0 ≤ ((rd l0 x8_1) : Int) := (of_decide_eq_true (by first | (with_reducible assumption) | assumption)); omega)
                    (first | cases eo24 | (injection eo24 with ea_ en_ ec_; (first | subst ea_ | (injection ea_ with ea_; subst ea_)); subst ec_; clear en_))
                    have GB24 := Aside0.mk gb24
                    have GG24 := Aside0.mk HG24
                    clear gb24 gl24 HG24
                    (first | simp only [add_plain] at hx123_0 | skip)
                    obtain ⟨oki24, ce24, hcl24, hM24, hcc24, _, _, hH24⟩ := Kd.S_elem HO_3.out [] ((rd l0 x8_1) : Int) (of_decide_eq_true (by first | (with_reducible assumption) | assumption)) (by have h_ : ((rd l0 x8_1) : Int) < ((x3_1.length : Int) : Int) := of_decide_eq_true (by first | (with_reducible assumption) | assumption); first | exact h_ | (have e_ := (Kd.S_reads' HO_3.out).1; omega) | simpa using h_)
                    obtain ⟨ve24_0, rfl, ge24_0⟩ := hM24
                    have hv24 := hcc24 0 _ rfl
                    have hX24 := HX123_0.out
                    (try simp only [add_plain] at hX24)
                    (try simp only [Nat.add_zero] at hv24)
                    (try rw [show ((Kd.slice 3 (Kd.int .i64))).sz = 1 from rfl, Nat.mul_one] at hv24)
                    replace hv24 := Option.some.inj (hv24.symm.trans hX24)
                    subst hv24
                    clear hX24 hcc24 hcl24
                    have UU24 := Aside0.mk (show Kd.R (Kd.int .i64) 3 _ w.heap.size oki24 (.slice A123_0 (rd_L1 x3_1 (rd l0 x8_1)).length c123_0) (rd_L1 x3_1 (rd l0 x8_1)) from ge24_0)
                    have HH24 := Aside0.mk hH24
                    have HN24 := Aside0.mk (Kd.S_reads' HO_3.out).1
                    clear hH24 ge24_0
                    go_wp2_with (first | ((with_reducible refine gate_builtin (b := .append) (xs := #[.tmp 25, .tmp 27]) rfl ?_); at_builtin; refine Kd.R_append (Kd.int .i64) (w0 := w) w.heap.size rfl (.tmp 25) (.tmp 27) 37 3 (.int .i64 0) 8 rfl Try.underlying37 info3 rfl (by decide) (by omega) (.slice A123_0 (rd_L1 x3_1 (rd l0 x8_1)).length c123_0) (rd_L1 x3_1 (rd l0 x8_1)) x8_1 [.int .i64 x8_1] (fun k_ => oki24 k_ ∨ ((fun _ => True)) k_ ∧ wr.heap.size ≤ k_) (fun _ => False) rfl rfl ?aP (fun _ hk => hk.elim) ?aF ?aO ?aB ?aS ?aL ?_; (case aP => exact rfl); (case aB => exact (by repeat (first | (with_reducible first | exact HB.out | apply below_alloc | apply pw_below_drewN | apply below_drew1) | exact HB.out))); (case aF => exact (fun k_ hk => .inr ⟨trivial, hk⟩)); (case aO => exact (by (with_reducible repeat (first | apply Kd.R_alloc | apply Kd.R_drewN | apply Kd.R_drew)); exact Kd.R_mono UU24.out (fun _ hk => .inl hk))); (case aS => exact (below_size (by repeat (first | (with_reducible first | exact HB.out | apply below_alloc | apply pw_below_drewN | apply below_drew1) | exact HB.out)))); (case aL => have := LMc21.out; omega); intro v125 w25 ho hb hg hat; rw [← Ny124.out] at ho; have n0_ := Aside0.mk (hb); have n1_ := Aside0.mk (Kd.H_grown (Kd.H_widen (by repeat (first | exact HH24.out | refine Kd.H_alloc ?_ _ | refine Kd.H_drewN ?_ _ | refine Kd.H_drew ?_))) hg (fun k_ e_ => .inl (UU24.out.1 k_ e_))); have n2_ := Aside0.mk (ho); clear HB; clear HH24; clear HO_3; clear UU24; clear HL123_0; have HB := n0_; have HH24 := n1_; have HO126 := n2_; clear n0_ n1_ n2_; clear ho hb hg hat; have p22 : 0 ≤ ((rd l0 x8_1) : Int) := of_decide_eq_true (by first | (with_reducible assumption) | assumption); have q22 : ((rd l0 x8_1) : Int) < ((x3_1.length : Int) : Int) := of_decide_eq_true (by first | (with_reducible assumption) | assumption); replace p22 := eq_true p22; replace q22 := eq_true q22; obtain ⟨Ao28, co28, eo28⟩ := Kd.R_slice HO126.out; subst eo28; obtain ⟨_, _, hraw26, _, _, hcc26, _⟩ := Kd.H_raw HH24.out (of_decide_eq_true (by first | (with_reducible assumption) | assumption)) (by have h_ : ((rd l0 x8_1) : Int) < ((x3_1.length : Int) : Int) := of_decide_eq_true (by first | (with_reducible assumption) | assumption); first | exact h_ | (have e_ := (HN24.out); omega) | simpa using h_); obtain ⟨_, hfr26⟩ := Kd.H_at HH24.out (of_decide_eq_true (by first | (with_reducible assumption) | assumption)) (by have h_ : ((rd l0 x8_1) : Int) < ((x3_1.length : Int) : Int) := of_decide_eq_true (by first | (with_reducible assumption) | assumption); first | exact h_ | (have e_ := (HN24.out); omega) | simpa using h_); have hx26_0 := hcc26 0 _ rfl; have hf26_0 := hfr26 0; (try simp only [Nat.add_zero] at hx26_0 hf26_0); (try rw [show ((Kd.slice 3 (Kd.int .i64))).sz = 1 from rfl, Nat.mul_one] at hx26_0); (try rw [show ((Kd.slice 3 (Kd.int .i64))).sz = 1 from rfl, Nat.mul_one] at hf26_0); have HP26 := Kd.S_seg0 HH24.out (of_decide_eq_true (by first | (with_reducible assumption) | assumption)) (by have h_ : ((rd l0 x8_1) : Int) < ((x3_1.length : Int) : Int) := of_decide_eq_true (by first | (with_reducible assumption) | assumption); first | exact h_ | (have e_ := (HN24.out); omega) | simpa using h_) (seg := [.slice Ao28 y124.length co28]) (j := 0) (show 1 ≤ 1 from by decide) (x' := y124) (Kd.M_row HO126.out) (fun _ hk => hk); (try simp only [show ((Kd.slice 3 (Kd.int .i64))).sz = 1 from rfl, Nat.mul_one, Nat.add_zero] at HP26); clear hcc26 hfr26) | ((with_reducible refine gate_store (t := 37) (p := 29) rfl ?_); refine store_event (t := 37) (p := 29) (v := ?vo_w27) (w1 := (w25.setCell ⟨go24, ((rd l0 x8_1) : Int).toNat, none⟩ (.slice Ao28 y124.length co28))) ?hg ?ho ?hn ?hr ?_; (case ho => rfl); (case hg => rfl); (case hn => rfl); (case hr => first | (go_simp; done) | (go_simp; rfl)); intro w27 hw; have hg : w25.grownBy w27 (some go24) := (by rw [hw]; exact HP26.2); have hp_ : Kd.S (Kd.slice 3 (Kd.int .i64)) 37 w27 w.heap.size (fun _ => True) (.slice (some ⟨go24, 0, none⟩) x3_1.length co23) y127 := (by rw [hw, Ny127.out]; exact HP26.1); clear HP26; have n0_ := Aside0.mk ((by rw [hw]; exact below_set HB.out GB24.out : Below w.heap.size w w27)); have n1_ := Aside0.mk (hp_); clear HB; clear HO126; clear HH24; have HB := n0_; have HO_3 := n1_; clear n0_ n1_; clear hg hw hp_ hraw26))
                    go_roundg k1
                    case measure => have := HK1.out; omega
                    case rel => exact ⟨(y127), (wrap64 (x8_1 + 1)), (by first | rfl | (simp; done) | (simp [*]; done)), H', ⟨by have := HK1.out; omega⟩, ⟨by (with_reducible repeat (first | apply Kd.S_alloc | apply Kd.S_drewN | apply Kd.S_drew)); exact HO_3.out⟩, ⟨by repeat (first | (with_reducible first | exact HB.out | apply below_alloc | apply pw_below_drewN | apply below_drew1) | exact HB.out)⟩⟩
                  · rw [if_neg c21] at H
                    exact absurd H (by simp)
                · rw [if_neg c20] at H
                  exact absurd H (by simp)
              · rw [if_neg c19] at H
                exact absurd H (by simp)
          · rw [if_neg c4] at H
            exact absurd H (by simp)
        · rw [if_neg c3] at H
          exact absurd H (by simp)
      · rw [if_neg c2] at H
        have c2b0 : decide (x8_1 < (l0.length : Int)) = false := decide_eq_false c2
        clear c2
        obtain rfl := Option.some.inj H
        go_wp2
        go_ret
        exact ⟨_, by first | rfl | (simp [errW_none, errW_some] <;> rfl) | (simp [*, errW_none, errW_some] <;> rfl), by (with_reducible repeat (first | apply Kd.S_alloc | apply Kd.S_drewN | apply Kd.S_drew)); exact HO_3.out, by repeat (first | (with_reducible first | exact HB.out | apply below_alloc | apply pw_below_drewN | apply below_drew1) | exact HB.out)⟩

end Go.Proofs.Ytegilakgfoglpaa.Q
