/- Plain Lean functions of the Go functions, and proofs that the Go calls come to them; laid out by this session's program wip/tools/hp.py. -/
import Derived.Test.YtegilakgfoglpaaQ0
import Derived.Test.YtegilakgfoglpaaQ1
namespace Go.Proofs.Ytegilakgfoglpaa.Q
open Go.RowKit Go.Proofs.YtegilakgfoglpaaW.PrintWords Go.Proofs.YtegilakgfoglpaaW.PrintLast Go.Proofs.YtegilakgfoglpaaW.PrintMore
attribute [local go_sem] max2_int min2_int max_two min_two max_three min_three max_four min_four   -- for this text's walks alone
set_option linter.unusedVariables false
set_option linter.unusedSimpArgs false

/-! ### ship_Check: function 12, by hand -/
/-- The first error of a shipment. -/
def ckOnes (k : Nat) : List S44 → Option Int
  | [] => some 0
  | x :: t => (ship_one.f k x.f0 x.f1 x.f2).bind fun e => if e = 0 then ckOnes k t else some e
theorem ckOnes_mono (k : Nat) : ∀ l, LeO (ckOnes k l) (ckOnes (k + 1) l)
  | [] => LeO.refl _
  | x :: t => by
    unfold ckOnes
    exact LeO.bind (ship_one.mono _ _ _ _) fun _ => LeO.ite (ckOnes_mono k t) (LeO.refl _)
/-- Is one of the numbers among those that were seen before it. -/
def dupB : List Int → List Int → Bool
  | _, [] => false
  | seen, x :: t => if x ∈ seen then true else dupB (seen ++ [x]) t
/-- Is a shipment earlier than the one before it. -/
def unordB : List S44 → Bool
  | x :: y :: t => if y.f1 < x.f1 then true else unordB (y :: t)
  | _ => false
def ship_Check.f (k : Nat) (l : List S44) : Option Int := if (l.length : Int) > 512 then some 8 else (ckOnes k l).bind fun e => if e = 0 then (if dupB [] (l.map (·.f0)) = true then some 6 else if unordB l = true then some 9 else if dupB [] (l.flatMap (·.f2)) = true then some 34 else some 0) else some e
theorem ship_Check.mono : ∀ a0 k, LeO (ship_Check.f k a0) (ship_Check.f (k + 1) a0) := by
  intro a0 k
  unfold ship_Check.f
  exact LeO.ite (LeO.refl _) (LeO.bind (ckOnes_mono k a0) fun _ => LeO.ite (LeO.refl _) (LeO.refl _))
/-- What is known of a shipment that passes. -/
structure Fit1 (x : S44) : Prop where
  id : 1 ≤ x.f0 ∧ x.f0 ≤ 1000000
  at' : 0 ≤ x.f1 ∧ x.f1 ≤ 2147483647
  len : x.f2.length ≤ 512
  rolls : ∀ r ∈ x.f2, 1 ≤ r ∧ r ≤ 1000000
theorem id_true {n : Int} {b : Bool} (h : ship_id.f n = some b) : b = decide (1 ≤ n ∧ n ≤ 1000000) := by
  unfold ship_id.f at h
  by_cases c : n ≥ 1
  · rw [if_pos c] at h
    have := Option.some.inj h
    rw [← this]
    by_cases d : n ≤ 1000000
    · rw [decide_eq_true d, decide_eq_true ⟨c, d⟩]
    · rw [decide_eq_false d, decide_eq_false (by omega)]
  · rw [if_neg c] at h
    have := Option.some.inj h
    rw [← this, decide_eq_false (by omega)]
theorem one_l0_fit (l : List Int) (n : Int) (hn : n = l.length) (hl : l.length ≤ 512) : ∀ (k : Nat) (i : Int), ship_one.l0 k l n i = some 0 → 0 ≤ i → ∀ j : Nat, i ≤ j → (hj : j < l.length) → 1 ≤ l[j] ∧ l[j] ≤ 1000000
  | 0, i, h, _, _, _, _ => by simp [ship_one.l0] at h
  | k + 1, i, h, h0, j, hij, hj => by
    unfold ship_one.l0 at h
    rw [if_pos (by omega), if_pos h0, if_pos (by omega)] at h
    obtain ⟨b, h1, h2⟩ := Option.bind_eq_some_iff.mp h
    have hb := id_true h1
    by_cases c : b = true
    · rw [if_pos c] at h2
      rw [c] at hb
      have hb := of_decide_eq_true hb.symm
      by_cases e : i = j
      · subst e
        have : rd l (j : Int) = l[j] := by simp [rd, hj]
        rw [this] at hb
        exact hb
      · have hw : wrap64 (i + 1) = i + 1 := by unfold wrap64; omega
        rw [hw] at h2
        exact one_l0_fit l n hn hl k (i + 1) h2 (by omega) j (by omega) hj
    · rw [if_neg c] at h2; exact absurd h2 (by decide)
theorem one_fit {k : Nat} {x : S44} (h : ship_one.f k x.f0 x.f1 x.f2 = some 0) : Fit1 x := by
  have key : ∀ k b, ship_one.j0 k b x.f0 x.f1 x.f2 = some 0 → b = false ∧ x.f2.length ≤ 512 ∧ ∀ r ∈ x.f2, 1 ≤ r ∧ r ≤ 1000000 := fun k b h => by
    cases k with
    | zero => simp [ship_one.j0] at h
    | succ k =>
      simp only [ship_one.j0] at h
      cases b with
      | true => rw [if_pos rfl] at h; exact absurd h (by decide)
      | false =>
        rw [if_neg (by decide)] at h
        by_cases c1 : (x.f2.length : Int) = 0
        · rw [if_pos c1] at h; exact absurd h (by decide)
        rw [if_neg c1] at h
        by_cases c2 : (x.f2.length : Int) > 512
        · rw [if_pos c2] at h; exact absurd h (by decide)
        rw [if_neg c2] at h
        refine ⟨rfl, by omega, fun r hr => ?_⟩
        obtain ⟨j, hj, rfl⟩ := List.mem_iff_getElem.1 hr
        exact one_l0_fit x.f2 _ rfl (by omega) k 0 h (by omega) j (by omega) hj
  unfold ship_one.f at h
  obtain ⟨b, h1, h2⟩ := Option.bind_eq_some_iff.mp h
  have hb := id_true h1
  by_cases c : b = true
  · rw [if_pos c] at h2
    rw [c] at hb
    have hb := of_decide_eq_true hb.symm
    by_cases d : x.f1 < 0
    · rw [if_pos d] at h2; exact absurd (key _ _ h2).1 (by decide)
    · rw [if_neg d] at h2
      have := key _ _ h2
      have h3 := of_decide_eq_false this.1
      exact ⟨hb, by omega, this.2.1, this.2.2⟩
  · rw [if_neg c] at h2; exact absurd (key _ _ h2).1 (by decide)
theorem ckOnes_fit {k : Nat} : ∀ {l : List S44}, ckOnes k l = some 0 → ∀ x ∈ l, Fit1 x
  | [], _, x, hx => by simp at hx
  | y :: t, h, x, hx => by
    unfold ckOnes at h
    obtain ⟨e, h1, h2⟩ := Option.bind_eq_some_iff.mp h
    by_cases c : e = 0
    · rw [if_pos c] at h2
      rw [c] at h1
      rcases List.mem_cons.1 hx with rfl | hx
      · exact one_fit h1
      · exact ckOnes_fit h2 x hx
    · rw [if_neg c] at h2
      exact absurd (Option.some.inj h2) c
theorem zero4 (w : World) : (zeroValue 4).run Try.prog w = .ok (.bool false) w := by kernel_rfl
abbrev SetAt (w : World) (b : Nat) (xs : List Int) : Prop := Mp.SetAt Try.prog 3 4 w b xs
set_option maxHeartbeats 4000000 in
set_option maxRecDepth 100000 in
theorem ship_Check.calls (k : Nat) (A0 : Option Addr) (c0 : Nat) (l0 : List S44) (r : Int) (w : World) (hr0 : Kd.C k44 w A0 l0.length l0) (hc0 : l0.length ≤ c0) (h : ship_Check.f k l0 = some r) :
    Calls Try.prog 12 #[.slice A0 l0.length c0] w fun e w' => e = .returned (.int .i64 r) ∧ Below w.heap.size w w' := by
  have hu44 := Try.underlying44
  have HR0 := Aside0.mk hr0
  clear hr0 hc0
  unfold ship_Check.f at h
  by_cases c2 : (l0.length : Int) > 512
  · rw [if_pos c2] at h
    have c2b0 : decide (512 < (l0.length : Int)) = true := decide_eq_true c2
    have c2b1 : decide (512 < l0.length) = true := decide_eq_true (by omega)
    clear c2
    obtain rfl := Option.some.inj h
    go_enter Try.func12, Try.ntmps12
    go_wp2
    go_ret
    exact ⟨rfl, Below.refl _ _⟩
  · rw [if_neg c2] at h
    have c2b0 : decide (512 < (l0.length : Int)) = false := decide_eq_false c2
    have c2b1 : decide (512 < l0.length) = false := decide_eq_false (by omega)
    have hlen : l0.length ≤ 512 := by omega
    clear c2
    obtain ⟨e0, h1, h⟩ := Option.bind_eq_some_iff.mp h
    have HE := Aside0.mk h1
    have HE0 := Aside0.mk h1
    have H := Aside0.mk h
    clear h h1
    have hmm := @run_makeMap Try.prog
    go_enter Try.func12, Try.ntmps12
    go_wp2
    go_loopg [20] l0.length (fun gg v20 wr => ∃ kk : Nat, kk ≤ l0.length ∧ l0.length - kk ≤ gg ∧ v20 = .int .i64 kk ∧ Aside0 (ckOnes k (l0.drop kk) = some e0) ∧ Aside0 (Below w.heap.size w wr))
    case atStart => exact ⟨0, Nat.zero_le _, by omega, rfl, ⟨by rw [List.drop_zero]; exact HE.out⟩, ⟨Below.refl _ _⟩⟩
    case round =>
      clear HE
      obtain ⟨kk, hkk, hg, rfl, HE, HB⟩ := hrel
      by_cases hlt : kk < l0.length
      · have hltz : (kk : Int) < (l0.length : Int) := by omega
        obtain ⟨ad, A2, c2, e, hx0, hx1, hx2, hl2, hi2⟩ := at_T44 HR0.out (kk : Int) (by omega) (by omega)
        cases e
        obtain ⟨x, HX⟩ : ∃ x, Aside0 (x = l0[kk]) := ⟨_, ⟨rfl⟩⟩
        have hrx : rd_T44 l0 (kk : Int) = x := by rw [HX.out]; simp [rd_T44, hlt]
        rw [hrx] at hx0 hx1 hx2 hl2 hi2
        rw [Int.toNat_natCast] at hx0 hx1 hx2
        clear hrx
        have HI2 := Aside0.mk hi2
        have HL2 := Aside0.mk hl2
        clear hi2 hl2
        replace hx0 := (HB.out.cell (World.block_lt_of_cell? w _ hx0)).trans hx0
        replace hx1 := (HB.out.cell (World.block_lt_of_cell? w _ hx1)).trans hx1
        replace hx2 := (HB.out.cell (World.block_lt_of_cell? w _ hx2)).trans hx2
        have hE := HE.out
        rw [List.drop_eq_getElem_cons hlt, ← HX.out] at hE
        unfold ckOnes at hE
        obtain ⟨t1, h1, h2⟩ := Option.bind_eq_some_iff.mp hE
        have A1 := Aside0.mk h1
        clear hE h1 HE
        by_cases c6 : t1 = 0
        · rw [if_pos c6] at h2
          have HE := Aside0.mk h2
          clear h2
          subst c6
          go_wp2_with (go_at_call 24; (with_reducible refine (ship_one.calls k x.f0 x.f1 A2 c2 x.f2 0 _ ?side1 HL2.out A1.out).mono ?_); (case side1 => exact Kd.C_alloc (Kd.C_below HI2.out HB.out) _); rintro e w7 ⟨rfl, hb⟩; have HB7 := Aside0.mk (below_step (below_alloc HB.out _) hb); clear hb)
          go_roundg (l0.length - (kk + 1))
          case measure => omega
          case rel => exact ⟨kk + 1, by omega, by omega, by go_num, HE, HB7⟩
        · rw [if_neg c6] at h2
          have c6b0 : (t1 == 0) = false := beq_eq_false_iff_ne.mpr c6
          have c6b1 : (t1 != 0) = true := bne_iff_ne.mpr c6
          have hr : some t1 = some r := by
            have := H.out
            rw [← Option.some.inj h2, if_neg c6] at this
            exact this
          obtain rfl := Option.some.inj hr
          clear hr h2 c6
          go_wp2_with (go_at_call 24; (with_reducible refine (ship_one.calls k x.f0 x.f1 A2 c2 x.f2 t1 _ ?side1 HL2.out A1.out).mono ?_); (case side1 => exact Kd.C_alloc (Kd.C_below HI2.out HB.out) _); rintro e w8 ⟨rfl, hb⟩; have HB7 := Aside0.mk (below_step (below_alloc HB.out _) hb); clear hb)
          go_ret
          exact ⟨rfl, HB7.out⟩
      · have hltz : ¬ (kk : Int) < (l0.length : Int) := by omega
        have hE := HE.out
        rw [List.drop_eq_nil_of_le (by omega)] at hE
        have he0 : e0 = 0 := (Option.some.inj hE).symm
        subst he0
        have H1 := Aside0.mk (show (if dupB [] (l0.map (·.f0)) = true then some 6 else if unordB l0 = true then some 9 else if dupB [] (l0.flatMap (·.f2)) = true then some 34 else some 0) = some r from H.out)
        have HF := Aside0.mk (ckOnes_fit HE0.out)
        clear hE HE H HE0
        obtain ⟨d1, HD1⟩ : ∃ d, Aside0 (dupB [] (l0.map (·.f0)) = d) := ⟨_, ⟨rfl⟩⟩
        obtain ⟨W1, hW1⟩ : ∃ x : World, x = wr := ⟨_, rfl⟩
        subst hW1
        go_wp2
        go_loopg [34] l0.length (fun gg v34 wr => ∃ (kk : Nat) (seen : List Int), kk ≤ l0.length ∧ l0.length - kk ≤ gg ∧ v34 = .int .i64 kk ∧ Aside0 (seen.length = kk) ∧ Aside0 (dupB seen ((l0.drop kk).map (·.f0)) = d1) ∧ Aside0 (SetAt wr W1.heap.size seen) ∧ Aside0 (SetAt wr (W1.heap.size + 1) []) ∧ Aside0 (Below w.heap.size w wr))
        case atStart => exact ⟨0, [], Nat.zero_le _, by omega, rfl, ⟨rfl⟩, ⟨by rw [List.drop_zero]; exact HD1.out⟩, ⟨(Mp.SetAt.made W1).alloc _⟩, ⟨by have := Mp.SetAt.made (P := Try.prog) (k := 3) (e := 4) (W1.alloc (.map #[] 0)); simpa using this⟩, ⟨below_alloc (below_alloc HB.out _) _⟩⟩
        case round =>
          have HB1 := HB
          clear HB
          obtain ⟨kk, seen, hkk, hg, rfl, HS, HD, HM1, HM2, HB⟩ := hrel
          by_cases hlt : kk < l0.length
          · have hltz : (kk : Int) < (l0.length : Int) := by omega
            obtain ⟨ad, A2, c2, e, hx0, hx1, hx2, hl2, hi2⟩ := at_T44 HR0.out (kk : Int) (by omega) (by omega)
            cases e
            obtain ⟨x, HX⟩ : ∃ x, Aside0 (x = l0[kk]) := ⟨_, ⟨rfl⟩⟩
            have hrx : rd_T44 l0 (kk : Int) = x := by rw [HX.out]; simp [rd_T44, hlt]
            rw [hrx] at hx0 hx1 hx2 hl2 hi2
            rw [Int.toNat_natCast] at hx0 hx1 hx2
            clear hrx
            have HI2 := Aside0.mk hi2
            have HL2 := Aside0.mk hl2
            clear hi2 hl2
            replace hx0 := (HB.out.cell (World.block_lt_of_cell? w _ hx0)).trans hx0
            replace hx1 := (HB.out.cell (World.block_lt_of_cell? w _ hx1)).trans hx1
            replace hx2 := (HB.out.cell (World.block_lt_of_cell? w _ hx2)).trans hx2
            have hE := HD.out
            rw [List.drop_eq_getElem_cons hlt, List.map_cons, ← HX.out] at hE
            unfold dupB at hE
            have WF : Aside0 ((Lit.int .i64 x.f0).wf = true) := ⟨by have := (HF.out x (by rw [HX.out]; exact List.getElem_mem hlt)).id; exact Mp.wf_of (by omega) (by omega)⟩
            by_cases hm : x.f0 ∈ seen
            · have HQ : Aside0 (decide (x.f0 ∈ seen) = true) := ⟨decide_eq_true hm⟩
              rw [if_pos hm] at hE
              subst hE
              have hr : (some 6 : Option Int) = some r := by have := H1.out; rw [HD1.out, if_pos rfl] at this; exact this
              obtain rfl := Option.some.inj hr
              clear hr hm HD
              go_wp2_with (at_lookup; refine Mp.set_lookup rfl _ _ 47 rfl Try.underlying3 Try.underlying47 Try.underlying4 (zero4 _) rfl (Mp.SetAt.alloc HM1.out _) x.f0 rfl WF.out ?_; rw [HQ.out])
              go_ret
              exact ⟨rfl, below_alloc HB.out _⟩
            · have HQ : Aside0 (decide (x.f0 ∈ seen) = false) := ⟨decide_eq_false hm⟩
              rw [if_neg hm] at hE
              have HE := Aside0.mk hE
              clear hm hE HD
              go_wp2_with (first | (at_lookup; refine Mp.set_lookup rfl _ _ 47 rfl Try.underlying3 Try.underlying47 Try.underlying4 (zero4 _) rfl (Mp.SetAt.alloc HM1.out _) x.f0 rfl WF.out ?_; rw [HQ.out]) | (at_mapUpdate; refine Mp.set_update rfl _ _ _ 47 rfl Try.underlying3 Try.underlying47 Try.underlying4 rfl (Mp.SetAt.alloc HM1.out _) ?hn x.f0 rfl rfl WF.out ?_; (case hn => have := HS.out; unfold maxLen; omega); intro w2 hs hg2; have HM1' := Aside0.mk hs; have HM2' := Aside0.mk (Mp.SetAt.kept (Mp.SetAt.alloc HM2.out _) hg2 (by simp)); have HB2 : Aside0 (Below w.heap.size w w2) := ⟨(below_alloc HB.out _).grown hg2 (below_size (below_alloc HB.out _)) (fun k hk => by cases hk; exact below_size HB1.out)⟩; clear hs hg2))
              go_roundg (l0.length - (kk + 1))
              case measure => omega
              case rel => exact ⟨kk + 1, seen ++ [x.f0], by omega, by omega, by go_num, ⟨by rw [List.length_append, List.length_singleton, HS.out]⟩, HE, HM1', HM2', HB2⟩
          · have hltz : ¬ (kk : Int) < (l0.length : Int) := by omega
            have hE := HD.out
            rw [List.drop_eq_nil_of_le (by omega)] at hE
            have hd : d1 = false := by rw [← hE]; rfl
            subst hd
            have H2 := Aside0.mk (show (if unordB l0 = true then some 9 else if dupB [] (l0.flatMap (·.f2)) = true then some 34 else some 0) = some r from by have := H1.out; rw [HD1.out, if_neg (by decide)] at this; exact this)
            clear hE HD H1 HM1 HD1
            obtain ⟨u, HU⟩ : ∃ d, Aside0 (unordB l0 = d) := ⟨_, ⟨rfl⟩⟩
            go_wp2
            go_loopg [10] l0.length (fun gg v10 wr => ∃ (kk : Nat) (i : Int), kk ≤ l0.length ∧ l0.length - kk ≤ gg ∧ v10 = .int .i64 i ∧ Aside0 (i = (kk : Int) + 1) ∧ Aside0 (unordB (l0.drop kk) = u) ∧ Aside0 (SetAt wr (W1.heap.size + 1) []) ∧ Aside0 (Below w.heap.size w wr))
            case atStart => exact ⟨0, 1, Nat.zero_le _, by omega, rfl, ⟨rfl⟩, ⟨by rw [List.drop_zero]; exact HU.out⟩, HM2, HB⟩
            case round =>
              clear HB HM2
              obtain ⟨kk, i, hkk, hg, rfl, HI, HD, HM2, HB⟩ := hrel
              by_cases hlt : kk + 1 < l0.length
              · have p1 : 0 ≤ i := by have := HI.out; omega
                have q1 : i < (l0.length : Int) := by have := HI.out; omega
                obtain ⟨j, HJ⟩ : ∃ j : Int, Aside0 (j = (kk : Int)) := ⟨_, ⟨rfl⟩⟩
                have p2 : 0 ≤ j := by have := HJ.out; omega
                have q2 : j < (l0.length : Int) := by have := HJ.out; omega
                have hjw : IntKind.i64.wrap (i - 1) = j := by rw [i64_w]; have := HI.out; have := HJ.out; unfold wrap64; omega
                have hlt0 : kk < l0.length := by omega
                have hE := HD.out
                rw [List.drop_eq_getElem_cons hlt0, List.drop_eq_getElem_cons hlt] at hE
                obtain ⟨ad, A2, c2, e, hx0, hx1, hx2, hl2, hi2⟩ := at_T44 HR0.out j p2 q2
                obtain ⟨ad', A2', c2', e', hy0, hy1, hy2, hm2, hj2⟩ := at_T44 HR0.out i p1 q1
                cases e
                obtain rfl : ad = ad' := by injection e'
                obtain ⟨x, HX⟩ : ∃ x, Aside0 (x = l0[kk]) := ⟨_, ⟨rfl⟩⟩
                obtain ⟨y, HY⟩ : ∃ x, Aside0 (x = l0[kk + 1]) := ⟨_, ⟨rfl⟩⟩
                have hrx : rd_T44 l0 j = x := by rw [HX.out, HJ.out]; simp [rd_T44, hlt0]
                have hry : rd_T44 l0 i = y := by rw [HY.out]; unfold rd_T44; rw [HI.out, show ((kk : Int) + 1).toNat = kk + 1 by omega]; simp [hlt]
                rw [hrx] at hx1
                rw [hry] at hy1
                rw [← HX.out, ← HY.out] at hE
                clear hrx hry hl2 hi2 hm2 hj2 e'
                replace hx1 := (HB.out.cell (World.block_lt_of_cell? w _ hx1)).trans hx1
                replace hy1 := (HB.out.cell (World.block_lt_of_cell? w _ hy1)).trans hy1
                clear hx0 hx2 hy0 hy2
                have d1 : decide (0 ≤ i) = true := decide_eq_true p1
                have d2 : decide (i < (l0.length : Int)) = true := decide_eq_true q1
                have d3 : decide (0 ≤ j) = true := decide_eq_true p2
                have d4 : decide (j < (l0.length : Int)) = true := decide_eq_true q2
                replace p1 := eq_true p1
                replace q1 := eq_true q1
                replace p2 := eq_true p2
                replace q2 := eq_true q2
                unfold unordB at hE
                by_cases hm : y.f1 < x.f1
                · have c7 : decide (y.f1 < x.f1) = true := decide_eq_true hm
                  rw [if_pos hm] at hE
                  subst hE
                  have hr : (some 9 : Option Int) = some r := by have := H2.out; rw [HU.out, if_pos rfl] at this; exact this
                  obtain rfl := Option.some.inj hr
                  clear hr hm HD
                  go_wp2
                  go_quiet (fail)
                  go_wp2
                  go_ret
                  exact ⟨rfl, by repeat (first | exact HB.out | apply below_alloc | apply pw_below_drewN | apply below_drew1)⟩
                · have c7 : decide (y.f1 < x.f1) = false := decide_eq_false hm
                  rw [if_neg hm] at hE
                  have HE := Aside0.mk (show unordB (l0.drop (kk + 1)) = u by rw [List.drop_eq_getElem_cons hlt, ← HY.out]; exact hE)
                  clear hm hE HD
                  go_wp2
                  go_quiet (fail)
                  go_wp2
                  go_roundg (l0.length - (kk + 1))
                  case measure => omega
                  case rel => exact ⟨kk + 1, wrap64 (i + 1), by omega, by omega, rfl, ⟨by have := HI.out; unfold wrap64; omega⟩, HE, ⟨Mp.SetAt.below HM2.out (by repeat (first | exact Below.refl _ _ | apply below_alloc | apply pw_below_drewN | apply below_drew1))⟩, ⟨by repeat (first | exact HB.out | apply below_alloc | apply pw_below_drewN | apply below_drew1)⟩⟩
              · have hltz : ¬ i < (l0.length : Int) := by have := HI.out; omega
                have hu : u = false := by
                  rw [← HD.out]
                  have h1 : (l0.drop kk).length ≤ 1 := by rw [List.length_drop]; have := HI.out; omega
                  match l0.drop kk, h1 with
                  | [], _ => rfl
                  | [_], _ => rfl
                subst hu
                have H3 := Aside0.mk (show (if dupB [] (l0.flatMap (·.f2)) = true then some 34 else some 0) = some r from by have := H2.out; rw [HU.out, if_neg (by decide)] at this; exact this)
                clear HD H2 HU
                obtain ⟨d2, HD2⟩ : ∃ d, Aside0 (dupB [] (l0.flatMap (·.f2)) = d) := ⟨_, ⟨rfl⟩⟩
                go_wp2
                go_loopg [66] l0.length (fun gg v66 wr => ∃ (kk : Nat) (seen : List Int), kk ≤ l0.length ∧ l0.length - kk ≤ gg ∧ v66 = .int .i64 kk ∧ Aside0 (seen.length ≤ kk * 512) ∧ Aside0 (dupB seen ((l0.drop kk).flatMap (·.f2)) = d2) ∧ Aside0 (SetAt wr (W1.heap.size + 1) seen) ∧ Aside0 (Below w.heap.size w wr))
                case atStart => exact ⟨0, [], Nat.zero_le _, by omega, rfl, ⟨by simp⟩, ⟨by rw [List.drop_zero]; exact HD2.out⟩, HM2, HB⟩
                case round =>
                  clear HB HM2 HI hltz hlt hg hkk
                  obtain ⟨kk, seen, hkk, hg, rfl, HS, HD, HM2, HB⟩ := hrel
                  by_cases hlt : kk < l0.length
                  · have hltz : (kk : Int) < (l0.length : Int) := by omega
                    obtain ⟨ad, A2, c2, e, hx0, hx1, hx2, hl2, hi2⟩ := at_T44 HR0.out (kk : Int) (by omega) (by omega)
                    cases e
                    obtain ⟨x, HX⟩ : ∃ x, Aside0 (x = l0[kk]) := ⟨_, ⟨rfl⟩⟩
                    have hrx : rd_T44 l0 (kk : Int) = x := by rw [HX.out]; simp [rd_T44, hlt]
                    rw [hrx] at hx0 hx1 hx2 hl2 hi2
                    rw [Int.toNat_natCast] at hx0 hx1 hx2
                    clear hrx
                    have HI2 := Aside0.mk hi2
                    have HL2 := Aside0.mk hl2
                    clear hi2 hl2
                    replace hx0 := (HB.out.cell (World.block_lt_of_cell? w _ hx0)).trans hx0
                    replace hx1 := (HB.out.cell (World.block_lt_of_cell? w _ hx1)).trans hx1
                    replace hx2 := (HB.out.cell (World.block_lt_of_cell? w _ hx2)).trans hx2
                    have hE := HD.out
                    rw [List.drop_eq_getElem_cons hlt, List.flatMap_cons, ← HX.out] at hE
                    have FX := Aside0.mk (HF.out x (by rw [HX.out]; exact List.getElem_mem hlt))
                    obtain ⟨rest, HREST⟩ : ∃ t, Aside0 (t = (l0.drop (kk + 1)).flatMap (·.f2)) := ⟨_, ⟨rfl⟩⟩
                    rw [← HREST.out] at hE
                    have HE := Aside0.mk hE
                    clear hE HD
                    have hxlen : x.f2.length ≤ 512 := FX.out.len
                    go_wp2
                    go_loopg [73] x.f2.length (fun gg v73 wi => ∃ (jj : Nat) (sn : List Int), jj ≤ x.f2.length ∧ x.f2.length - jj ≤ gg ∧ v73 = .int .i64 jj ∧ Aside0 (sn.length ≤ kk * 512 + jj) ∧ Aside0 (dupB sn (x.f2.drop jj ++ rest) = d2) ∧ Aside0 (SetAt wi (W1.heap.size + 1) sn) ∧ Aside0 (Below w.heap.size w wi))
                    case atStart => exact ⟨0, seen, Nat.zero_le _, by omega, rfl, ⟨by have := HS.out; omega⟩, ⟨by rw [List.drop_zero]; exact HE.out⟩, ⟨Mp.SetAt.alloc HM2.out _⟩, ⟨below_alloc HB.out _⟩⟩
                    case round =>
                      have HB0 := HB
                      clear HM2 HB HE HS hx0 hx1 hx2
                      rename World => wx
                      obtain ⟨jj, sn, hjj, hgj, rfl, HS, HD, HM2, HB⟩ := hrel
                      by_cases hjt : jj < x.f2.length
                      · have hjz : (jj : Int) < (x.f2.length : Int) := by omega
                        obtain ⟨ad2, e2, hy0⟩ := Kd.at_int HI2.out (jj : Int) (by omega) hjz
                        cases e2
                        obtain ⟨y, HY⟩ : ∃ y, Aside0 (y = x.f2[jj]) := ⟨_, ⟨rfl⟩⟩
                        have hry : rd x.f2 (jj : Int) = y := by rw [HY.out]; simp [rd, hjt]
                        rw [hry, Int.toNat_natCast] at hy0
                        replace hy0 := (HB.out.cell (World.block_lt_of_cell? w _ hy0)).trans hy0
                        have hE := HD.out
                        rw [List.drop_eq_getElem_cons hjt, List.cons_append, ← HY.out] at hE
                        unfold dupB at hE
                        have WF : Aside0 ((Lit.int .i64 y).wf = true) := ⟨by have := FX.out.rolls y (by rw [HY.out]; exact List.getElem_mem hjt); exact Mp.wf_of (by omega) (by omega)⟩
                        clear hry
                        by_cases hm : y ∈ sn
                        · have HQ : Aside0 (decide (y ∈ sn) = true) := ⟨decide_eq_true hm⟩
                          rw [if_pos hm] at hE
                          subst hE
                          have hr : (some 34 : Option Int) = some r := by have := H3.out; rw [HD2.out, if_pos rfl] at this; exact this
                          obtain rfl := Option.some.inj hr
                          clear hr hm HD
                          go_wp2_with (at_lookup; refine Mp.set_lookup rfl _ _ 47 rfl Try.underlying3 Try.underlying47 Try.underlying4 (zero4 _) rfl HM2.out y rfl WF.out ?_; rw [HQ.out])
                          go_ret
                          exact ⟨rfl, HB.out⟩
                        · have HQ : Aside0 (decide (y ∈ sn) = false) := ⟨decide_eq_false hm⟩
                          rw [if_neg hm] at hE
                          have HE := Aside0.mk hE
                          clear hm hE HD
                          go_wp2_with (first | (at_lookup; refine Mp.set_lookup rfl _ _ 47 rfl Try.underlying3 Try.underlying47 Try.underlying4 (zero4 _) rfl HM2.out y rfl WF.out ?_; rw [HQ.out]) | (at_mapUpdate; refine Mp.set_update rfl _ _ _ 47 rfl Try.underlying3 Try.underlying47 Try.underlying4 rfl HM2.out ?hn2 y rfl rfl WF.out ?_; (case hn2 => have := HS.out; unfold maxLen; omega); intro w2 hs hg2; have HM2' := Aside0.mk hs; have HB2 : Aside0 (Below w.heap.size w w2) := ⟨HB.out.grown hg2 (below_size HB.out) (fun k hk => by cases hk; exact Nat.le_succ_of_le (below_size HB1.out))⟩; clear hs hg2))
                          go_roundg (x.f2.length - (jj + 1))
                          case measure => omega
                          case rel => exact ⟨jj + 1, sn ++ [y], by omega, by omega, by go_num, ⟨by rw [List.length_append, List.length_singleton]; have := HS.out; omega⟩, HE, HM2', HB2⟩
                      · have hjz : ¬ (jj : Int) < (x.f2.length : Int) := by omega
                        have hE := HD.out
                        rw [List.drop_eq_nil_of_le (by omega), List.nil_append, HREST.out] at hE
                        have HE := Aside0.mk hE
                        clear hE HD
                        go_wp2
                        go_roundg (l0.length - (kk + 1))
                        case measure => omega
                        case rel => exact ⟨kk + 1, sn, by omega, by omega, by go_num, ⟨by have := HS.out; omega⟩, HE, HM2, HB⟩
                  · have hltz : ¬ (kk : Int) < (l0.length : Int) := by omega
                    have hd : d2 = false := by
                      rw [← HD.out, List.drop_eq_nil_of_le (by omega)]; rfl
                    subst hd
                    have hr : (some 0 : Option Int) = some r := by have := H3.out; rw [HD2.out, if_neg (by decide)] at this; exact this
                    obtain rfl := Option.some.inj hr
                    clear hr
                    go_wp2
                    go_ret
                    exact ⟨rfl, HB.out⟩

-- NOT PRINTED: function 29 (api_Shipment)

/-! ### ship_Find: function 14, by hand -/
/-- The first place at which p holds; -1 if there is none. -/
def idxI {α : Type} (p : α → Bool) (l : List α) : Int := match l.findIdx? p with | some i => (i : Int) | none => -1
theorem idxI_hit {α : Type} (p : α → Bool) (l : List α) (z : α) (k : Nat) (hk : k < l.length) (h0 : ∀ j, j < k → p (l.getD j z) = false) (h : p (l.getD k z) = true) : idxI p l = (k : Int) := by
  unfold idxI
  have : l.findIdx? p = some k := by
    rw [List.findIdx?_eq_some_iff_getElem]
    refine ⟨hk, by simpa [List.getD_eq_getElem?_getD, hk] using h, fun j hj => ?_⟩
    have := h0 j hj
    simp only [List.getD_eq_getElem?_getD, List.getElem?_eq_getElem (show j < l.length by omega), Option.getD_some] at this
    simp [this]
  rw [this]
theorem idxI_miss {α : Type} (p : α → Bool) (l : List α) (z : α) (h0 : ∀ j, j < l.length → p (l.getD j z) = false) : idxI p l = -1 := by
  unfold idxI
  have : l.findIdx? p = none := by
    rw [List.findIdx?_eq_none_iff]
    intro x hx
    obtain ⟨i, hi, rfl⟩ := List.mem_iff_getElem.1 hx
    have := h0 i hi
    simpa [List.getD_eq_getElem?_getD, hi] using this
  rw [this]
theorem contains_l0 (l : List Int) (a : Int) (hl : l.length ≤ 9223372036854775807) : ∀ (m j : Nat), j + m = l.length → ∃ r : Int, slices_Index_int_int.l0 (m + 1) l a (l.length : Int) (j : Int) = some r ∧ decide (r ≥ 0) = decide (a ∈ l.drop j)
  | 0, j, h => by
    refine ⟨-1, ?_, ?_⟩
    · simp only [slices_Index_int_int.l0]; rw [if_neg (by omega)]
    · rw [List.drop_eq_nil_of_le (by omega)]; simp
  | m + 1, j, h => by
    have hj : j < l.length := by omega
    have hr : rd l (j : Int) = l[j] := by simp [rd, hj]
    by_cases c : a = l[j]
    · refine ⟨(j : Int), ?_, ?_⟩
      · unfold slices_Index_int_int.l0
        rw [if_pos (by omega), if_pos (by omega), if_pos (by omega), hr, if_pos c]
      · rw [List.drop_eq_getElem_cons hj, ← c]; simp
    · obtain ⟨r, h1, h2⟩ := contains_l0 l a hl m (j + 1) (by omega)
      refine ⟨r, ?_, ?_⟩
      · unfold slices_Index_int_int.l0
        have hw : wrap64 ((j : Int) + 1) = ((j + 1 : Nat) : Int) := by unfold wrap64; omega
        rw [if_pos (by omega), if_pos (by omega), if_pos (by omega), hr, if_neg c, hw, h1]
      · have hd : a ∈ l.drop j ↔ a ∈ l.drop (j + 1) := by
          rw [List.drop_eq_getElem_cons hj, List.mem_cons]
          exact ⟨fun h => h.resolve_left c, Or.inr⟩
        rw [h2]
        exact decide_eq_decide.2 hd.symm
theorem contains_at (l : List Int) (a : Int) (hl : l.length ≤ 9223372036854775807) : slices_Contains_int_int.f (l.length + 1) l a = some (decide (a ∈ l)) := by
  obtain ⟨r, h1, h2⟩ := contains_l0 l a hl l.length 0 (by omega)
  unfold slices_Contains_int_int.f slices_Index_int_int.f
  have e : ((0 : Nat) : Int) = 0 := rfl
  rw [e] at h1
  rw [h1, Option.bind_some, h2, List.drop_zero]
/-- Is the roll on a shipment. -/
def hasR (roll : Int) (x : S44) : Bool := decide (roll ∈ x.f2)
set_option maxHeartbeats 1000000 in
theorem f27_calls (x : S44) (A2 : Option Addr) (c2 : Nat) (roll : Int) (pr : Nat) (w : World) (hi : (Kd.int .i64).C w A2 x.f2.length x.f2) (hl : x.f2.length ≤ c2) (hr : w.cell? ⟨pr, 0, none⟩ = some (.int .i64 roll)) :
    Calls Try.prog 27 #[.agg #[.int .i64 x.f0, .int .i64 x.f1, .slice A2 x.f2.length c2], .pointer (some ⟨pr, 0, none⟩)] w fun e w' => e = .returned (.bool (hasR roll x)) ∧ Below w.heap.size w w' := by
  have hu44 := Try.underlying44
  have HI := Aside0.mk hi
  have HL := Aside0.mk hl
  have HC := Aside0.mk (contains_at x.f2 roll hi.2.1)
  have hr' := (World.block_lt_of_cell? w _ hr)
  have HR := Aside0.mk hr
  have HR' := Aside0.mk hr'
  obtain ⟨q, HQ⟩ : ∃ q, Aside0 (q = hasR roll x) := ⟨_, ⟨rfl⟩⟩
  have HC' : Aside0 (slices_Contains_int_int.f (x.f2.length + 1) x.f2 roll = some q) := ⟨by rw [HQ.out]; exact HC.out⟩
  rw [← HQ.out]
  have hra : (w.alloc (.cells #[.int .i64 x.f0, .int .i64 x.f1, .slice A2 x.f2.length c2] 44 (0, 0))).cell? ⟨pr, 0, none⟩ = some (.int .i64 roll) := ((below_alloc (Below.refl _ _) _).cell hr').trans hr
  clear hi hl hr hr' HC
  go_enter Try.func27, Try.ntmps27
  go_wp2_with (go_at_call 28; (with_reducible refine (slices_Contains_int_int.calls (x.f2.length + 1) A2 c2 x.f2 roll q _ ?side1 HL.out HC'.out).mono ?_); (case side1 => exact Kd.C_alloc HI.out _); rintro e w' ⟨rfl, ⟨nd, rfl⟩⟩)
  go_ret
  exact ⟨rfl, by repeat (first | exact Below.refl _ _ | apply below_alloc | apply pw_below_drewN | apply below_drew1)⟩
set_option maxHeartbeats 2000000 in
theorem idx29_calls (A0 : Option Addr) (c0 : Nat) (l0 : List S44) (roll : Int) (pr : Nat) (w : World) (hr0 : Kd.C k44 w A0 l0.length l0) (hr : w.cell? ⟨pr, 0, none⟩ = some (.int .i64 roll)) :
    Calls Try.prog 29 #[.slice A0 l0.length c0, .func (.func 27) #[] #[.pointer (some ⟨pr, 0, none⟩)]] w fun e w' => e = .returned (.int .i64 (idxI (hasR roll) l0)) ∧ Below w.heap.size w w' := by
  have hu44 := Try.underlying44
  have hlen := hr0.2.1
  have HR0 := Aside0.mk hr0
  have HR := Aside0.mk hr
  clear hr0 hr
  go_enter Try.func29, Try.ntmps29
  go_wp2
  go_loopg [5, 8] l0.length (fun gg v5 v8 wr => ∃ kk : Nat, kk ≤ l0.length ∧ l0.length - kk ≤ gg ∧ v8 = .int .i64 kk ∧ Aside0 (Below w.heap.size w wr) ∧ Aside0 (∀ j, j < kk → hasR roll (l0.getD j z44) = false))
  case atStart => exact ⟨0, Nat.zero_le _, by omega, rfl, ⟨Below.refl _ w⟩, ⟨fun j hj => absurd hj (Nat.not_lt_zero _)⟩⟩
  case round =>
    obtain ⟨kk, hkk, hg, rfl, HB, HF⟩ := hrel
    by_cases hlt : kk < l0.length
    · have hltz : (kk : Int) < (l0.length : Int) := by omega
      obtain ⟨ad, A2, c2, e, h0, h1, h2, hl2, hi2⟩ := at_T44 HR0.out (kk : Int) (by omega) (by omega)
      subst e
      obtain ⟨x, HX⟩ : ∃ x, Aside0 (x = l0.getD kk z44) := ⟨_, ⟨rfl⟩⟩
      rw [show rd_T44 l0 (kk : Int) = x by rw [HX.out]; simp [rd_T44]] at h0 h1 h2 hl2 hi2
      rw [Int.toNat_natCast] at h0 h1 h2
      replace h0 := (HB.out.cell (World.block_lt_of_cell? w _ h0)).trans h0
      replace h1 := (HB.out.cell (World.block_lt_of_cell? w _ h1)).trans h1
      replace h2 := (HB.out.cell (World.block_lt_of_cell? w _ h2)).trans h2
      have HV := Aside0.mk (f27_calls x A2 c2 roll pr _ (Kd.C_below hi2 HB.out) hl2 ((HB.out.cell (World.block_lt_of_cell? w _ HR.out)).trans HR.out))
      clear hl2 hi2
      cases hq : hasR roll x with
      | true =>
        have HQ := Aside0.mk hq
        rw [hq] at HV
        clear hq
        go_wp2_with (go_at_call 27; refine HV.out.mono ?_; rintro e w' ⟨rfl, hb⟩)
        go_ret
        exact ⟨by rw [idxI_hit (hasR roll) l0 z44 kk hlt HF.out (by rw [← HX.out, HQ.out])]; rfl, below_step HB.out hb⟩
      | false =>
        have HQ := Aside0.mk hq
        rw [hq] at HV
        clear hq
        go_wp2_with (go_at_call 27; refine HV.out.mono ?_; rintro e w' ⟨rfl, hb⟩)
        go_roundg (l0.length - (kk + 1))
        case measure => omega
        case rel =>
          refine ⟨kk + 1, by omega, by omega, by go_num, ⟨below_step HB.out hb⟩, ⟨fun j hj => ?_⟩⟩
          by_cases e : j = kk
          · subst e
            rw [← HX.out, HQ.out]
          · exact HF.out j (by omega)
    · have hltz : ¬ (kk : Int) < (l0.length : Int) := by omega
      have : kk = l0.length := by omega
      subst this
      go_wp2
      go_ret
      exact ⟨by rw [idxI_miss (hasR roll) l0 z44 HF.out]; rfl, HB.out⟩
def ship_Find.f (k : Nat) (l : List S44) (roll : Int) : Option (Int × Int) := (ship_Check.f k l).bind fun e => if e = 0 then (if idxI (hasR roll) l ≥ 0 then some (idxI (hasR roll) l, 0) else some (0, 7)) else some (0, e)
theorem ship_Find.mono : ∀ a0 a1 k, LeO (ship_Find.f k a0 a1) (ship_Find.f (k + 1) a0 a1) := by
  intro a0 a1 k
  unfold ship_Find.f
  exact LeO.bind (ship_Check.mono _ _) fun _ => LeO.refl _
set_option maxHeartbeats 2000000 in
set_option maxRecDepth 100000 in
theorem ship_Find.calls (k : Nat) (A0 : Option Addr) (c0 : Nat) (l0 : List S44) (a1 : Int) (r1 r2 : Int) (w : World) (hr0 : Kd.C k44 w A0 l0.length l0) (hc0 : l0.length ≤ c0) (h : ship_Find.f k l0 a1 = some (r1, r2)) :
    Calls Try.prog 14 #[.slice A0 l0.length c0, .int .i64 a1] w fun e w' => e = .returned (.tuple #[.int .i64 r1, .int .i64 r2]) ∧ Below w.heap.size w w' := by
  have HR0 := Aside0.mk hr0
  have HC0 := Aside0.mk hc0
  clear hr0 hc0
  unfold ship_Find.f at h
  obtain ⟨e0, h1, h⟩ := Option.bind_eq_some_iff.mp h
  have A1 := Aside0.mk h1
  clear h1
  have CHK : Aside0 (∀ W : World, Below w.heap.size w W → Calls Try.prog 12 #[.slice A0 l0.length c0] W fun e w' => e = .returned (.int .i64 e0) ∧ Below W.heap.size W w') := ⟨fun W hW => ship_Check.calls k A0 c0 l0 e0 W (Kd.C_below HR0.out hW) HC0.out A1.out⟩
  by_cases c3 : e0 = 0
  · rw [if_pos c3] at h
    have c3b0 : (e0 == 0) = true := beq_iff_eq.mpr c3
    have c3b1 : (e0 != 0) = false := bne_eq_false_iff_eq.mpr c3
    clear c3
    obtain ⟨j, HJ⟩ : ∃ j, Aside0 (j = idxI (hasR a1) l0) := ⟨_, ⟨rfl⟩⟩
    rw [← HJ.out] at h
    by_cases c4 : j ≥ 0
    · rw [if_pos c4] at h
      have c4b0 : decide (0 ≤ j) = true := decide_eq_true c4
      replace c4 := eq_true (show 0 ≤ j from c4)
      simp only [Option.some.injEq, Prod.mk.injEq] at h
      obtain ⟨rfl, rfl⟩ := h
      go_enter Try.func14, Try.ntmps14
      go_wp2_with (first | ((with_reducible refine gate_dst (N := 3) rfl ?_); refine box_event ?hg (N := 3) ?hd (cs := #[.int .i64 a1]) (t := 3) ?hr ?_; (case hd => rfl); (case hg => rfl); (case hr => first | (go_simp; done) | (go_simp; rfl)); intro g1 hg w1 hbox hb; have BK1 := Aside0.mk hbox; have HB1 := Aside0.mk hb; clear hbox hb hg) | (go_at_call 12; refine (CHK.out _ HB1.out).mono ?_; rintro e w2 ⟨rfl, hb⟩; have HB2 := Aside0.mk (below_step HB1.out hb); have BK2 := Aside0.mk (blk_below BK1.out hb); clear hb) | (go_at_call 29; refine (idx29_calls A0 c0 l0 a1 g1 _ (Kd.C_below HR0.out HB2.out) ((blk_cell BK2.out 0).trans rfl)).mono ?_; rintro e w3 ⟨rfl, hb⟩; rw [← HJ.out]; have HB3 := Aside0.mk (below_step HB2.out hb); clear hb))
      go_ret2
      exact ⟨rfl, HB3.out⟩
    · rw [if_neg c4] at h
      have c4b0 : decide (0 ≤ j) = false := decide_eq_false c4
      have c4' : (0 ≤ j) = False := eq_false c4
      clear c4
      simp only [Option.some.injEq, Prod.mk.injEq] at h
      obtain ⟨rfl, rfl⟩ := h
      go_enter Try.func14, Try.ntmps14
      go_wp2_with (first | ((with_reducible refine gate_dst (N := 3) rfl ?_); refine box_event ?hg (N := 3) ?hd (cs := #[.int .i64 a1]) (t := 3) ?hr ?_; (case hd => rfl); (case hg => rfl); (case hr => first | (go_simp; done) | (go_simp; rfl)); intro g1 hg w1 hbox hb; have BK1 := Aside0.mk hbox; have HB1 := Aside0.mk hb; clear hbox hb hg) | (go_at_call 12; refine (CHK.out _ HB1.out).mono ?_; rintro e w2 ⟨rfl, hb⟩; have HB2 := Aside0.mk (below_step HB1.out hb); have BK2 := Aside0.mk (blk_below BK1.out hb); clear hb) | (go_at_call 29; refine (idx29_calls A0 c0 l0 a1 g1 _ (Kd.C_below HR0.out HB2.out) ((blk_cell BK2.out 0).trans rfl)).mono ?_; rintro e w3 ⟨rfl, hb⟩; rw [← HJ.out]; have HB3 := Aside0.mk (below_step HB2.out hb); clear hb))
      go_ret2
      exact ⟨rfl, HB3.out⟩
  · rw [if_neg c3] at h
    have c3b0 : (e0 == 0) = false := beq_eq_false_iff_ne.mpr c3
    have c3b1 : (e0 != 0) = true := bne_iff_ne.mpr c3
    clear c3
    simp only [Option.some.injEq, Prod.mk.injEq] at h
    obtain ⟨rfl, rfl⟩ := h
    go_enter Try.func14, Try.ntmps14
    go_wp2_with (first | ((with_reducible refine gate_dst (N := 3) rfl ?_); refine box_event ?hg (N := 3) ?hd (cs := #[.int .i64 a1]) (t := 3) ?hr ?_; (case hd => rfl); (case hg => rfl); (case hr => first | (go_simp; done) | (go_simp; rfl)); intro g1 hg w1 hbox hb; have BK1 := Aside0.mk hbox; have HB1 := Aside0.mk hb; clear hbox hb hg) | (go_at_call 12; refine (CHK.out _ HB1.out).mono ?_; rintro e w2 ⟨rfl, hb⟩; have HB2 := Aside0.mk (below_step HB1.out hb); have BK2 := Aside0.mk (blk_below BK1.out hb); clear hb))
    go_ret2
    exact ⟨rfl, HB2.out⟩

end Go.Proofs.Ytegilakgfoglpaa.Q
