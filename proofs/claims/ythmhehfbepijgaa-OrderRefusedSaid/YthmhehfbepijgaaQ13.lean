/- Plain Lean functions of the Go functions, and proofs that the Go calls come to them; laid out by this session's program wip/tools/hp.py. -/
import Derived.Test.YthmhehfbepijgaaQ0
import Derived.Test.YthmhehfbepijgaaQ5
import Derived.Test.YthmhehfbepijgaaQ7
import Derived.Test.YthmhehfbepijgaaQ11
namespace Go.Proofs.Ythmhehfbepijgaa.Q
open Go.RowKit Go.Proofs.YthmhehfbepijgaaW.PrintWords Go.Proofs.YthmhehfbepijgaaW.PrintLast Go.Proofs.YthmhehfbepijgaaW.PrintMore
attribute [local go_sem] max2_int min2_int max_two min_two max_three min_three max_four min_four   -- for this text's walks alone
set_option linter.unusedVariables false
set_option linter.unusedSimpArgs false

/-! ### papermilllaw51_OrderRefused: function 8, by hand -/
open Mono in
set_option maxHeartbeats 16000000 in
set_option maxRecDepth 100000 in
theorem OrderRefused_long (A0 : Option Addr) (c0 : Nat) (l0 : List S35) (x : S35) (w : World) (hr0 : Kd.C k35 w A0 l0.length l0) (hc0 : l0.length ≤ c0) (hwf : wfs l0 = true) (hwx : (Lit.int .i64 x.f3).wf = true) (hN : 60 < l0.length) :
    Calls Try.prog 8 #[.slice A0 l0.length c0, .agg #[.int .i64 x.f0, .int .i64 x.f1.f0, .int .i64 x.f1.f1, .int .i64 x.f1.f2, .int .i64 x.f1.f3, .int .i64 x.f1.f4, .int .i64 x.f1.f5, .int .i64 x.f1.f6, .int .i64 x.f1.f7, .int .i64 x.f1.f8, .int .i64 x.f1.f9, .int .i64 x.f1.f10, .int .i64 x.f1.f11, .int .i64 x.f2, .int .i64 x.f3]] w fun e w' => e = .returned (.bool true) ∧ Below w.heap.size w w' := by
  have hu35 := Try.underlying35
  have hu23 := Try.underlying23
  have hu41 := Try.underlying41
  have hlen := hr0.2.1
  have HR0 := Aside0.mk hr0
  have HC0 := Aside0.mk hc0
  have HWF := Aside0.mk hwf
  clear hr0 hc0 hwf
  have HWX := Aside0.mk hwx
  clear hwx
  have c1b : decide ((60 : Int) < (l0.length : Int)) = true := decide_eq_true (by omega)
  have c1n : decide (60 < l0.length) = true := decide_eq_true hN
  have c1m := eq_true hN
  go_enter Try.func8, Try.ntmps8
  go_wp2_with fail
  refine (LB.new w _ (below_alloc (Below.refl _ _) _)).mono ?_
  rintro e w1 ⟨P, pb, pm, rfl, h, _, _⟩
  have HB := Aside0.mk h.b
  clear h
  go_wp2_with fail
  refine (aw_all _).mono ?_
  rintro e w2 ⟨rfl, hb⟩
  go_wp2
  go_ret
  exact ⟨rfl, below_step HB.out hb⟩
open Mono in
set_option maxHeartbeats 16000000 in
set_option maxRecDepth 100000 in
theorem OrderRefused_no (A0 : Option Addr) (c0 : Nat) (l0 : List S35) (x : S35) (w : World) (hr0 : Kd.C k35 w A0 l0.length l0) (hc0 : l0.length ≤ c0) (hwf : wfs l0 = true) (hwx : (Lit.int .i64 x.f3).wf = true) (hN : ¬ 60 < l0.length) (hr : ((Bk.new.run l0).do_ x).2 ≠ 0) :
    Calls Try.prog 8 #[.slice A0 l0.length c0, .agg #[.int .i64 x.f0, .int .i64 x.f1.f0, .int .i64 x.f1.f1, .int .i64 x.f1.f2, .int .i64 x.f1.f3, .int .i64 x.f1.f4, .int .i64 x.f1.f5, .int .i64 x.f1.f6, .int .i64 x.f1.f7, .int .i64 x.f1.f8, .int .i64 x.f1.f9, .int .i64 x.f1.f10, .int .i64 x.f1.f11, .int .i64 x.f2, .int .i64 x.f3]] w fun e w' => e = .returned (.bool true) ∧ Below w.heap.size w w' := by
  have hu35 := Try.underlying35
  have hu23 := Try.underlying23
  have hu41 := Try.underlying41
  have hlen := hr0.2.1
  have HR0 := Aside0.mk hr0
  have HC0 := Aside0.mk hc0
  have HWF := Aside0.mk hwf
  clear hr0 hc0 hwf
  have HWX := Aside0.mk hwx
  clear hwx
  have c1b : decide ((60 : Int) < (l0.length : Int)) = false := decide_eq_false (by omega)
  have c1n : decide (60 < l0.length) = false := decide_eq_false hN
  have c1m := eq_false hN
  have Qhr := Aside0.mk hr
  clear hr
  go_enter Try.func8, Try.ntmps8
  go_wp2_with fail
  refine (LB.new _ _ (Below.refl _ _)).mono ?_
  rintro e w1 ⟨P0, pb, pm, rfl, h, _, _⟩
  have HX0 := Aside0.mk (blk_new w (.cells #[.int .i64 x.f0, .int .i64 x.f1.f0, .int .i64 x.f1.f1, .int .i64 x.f1.f2, .int .i64 x.f1.f3, .int .i64 x.f1.f4, .int .i64 x.f1.f5, .int .i64 x.f1.f6, .int .i64 x.f1.f7, .int .i64 x.f1.f8, .int .i64 x.f1.f9, .int .i64 x.f1.f10, .int .i64 x.f1.f11, .int .i64 x.f2, .int .i64 x.f3] 35))
  have HW0 := Aside0.mk (below_alloc (Below.refl w.heap.size w) (.cells #[.int .i64 x.f0, .int .i64 x.f1.f0, .int .i64 x.f1.f1, .int .i64 x.f1.f2, .int .i64 x.f1.f3, .int .i64 x.f1.f4, .int .i64 x.f1.f5, .int .i64 x.f1.f6, .int .i64 x.f1.f7, .int .i64 x.f1.f8, .int .i64 x.f1.f9, .int .i64 x.f1.f10, .int .i64 x.f1.f11, .int .i64 x.f2, .int .i64 x.f3] 35))
  have HRW := Aside0.mk (Kd.C_alloc HR0.out (.cells #[.int .i64 x.f0, .int .i64 x.f1.f0, .int .i64 x.f1.f1, .int .i64 x.f1.f2, .int .i64 x.f1.f3, .int .i64 x.f1.f4, .int .i64 x.f1.f5, .int .i64 x.f1.f6, .int .i64 x.f1.f7, .int .i64 x.f1.f8, .int .i64 x.f1.f9, .int .i64 x.f1.f10, .int .i64 x.f1.f11, .int .i64 x.f2, .int .i64 x.f3] 35))
  have hwl : w.heap.size < (w.alloc (.cells #[.int .i64 x.f0, .int .i64 x.f1.f0, .int .i64 x.f1.f1, .int .i64 x.f1.f2, .int .i64 x.f1.f3, .int .i64 x.f1.f4, .int .i64 x.f1.f5, .int .i64 x.f1.f6, .int .i64 x.f1.f7, .int .i64 x.f1.f8, .int .i64 x.f1.f9, .int .i64 x.f1.f10, .int .i64 x.f1.f11, .int .i64 x.f2, .int .i64 x.f3] 35)).heap.size := blk_lt HX0.out
  generalize w.alloc (.cells #[.int .i64 x.f0, .int .i64 x.f1.f0, .int .i64 x.f1.f1, .int .i64 x.f1.f2, .int .i64 x.f1.f3, .int .i64 x.f1.f4, .int .i64 x.f1.f5, .int .i64 x.f1.f6, .int .i64 x.f1.f7, .int .i64 x.f1.f8, .int .i64 x.f1.f9, .int .i64 x.f1.f10, .int .i64 x.f1.f11, .int .i64 x.f2, .int .i64 x.f3] 35) = W0 at h HX0 HW0 HRW hwl ⊢
  have H1 : Aside0 (∃ P, LB W0 P pb pm w1 (Bk.new.run (l0.take 0))) := ⟨P0, h⟩
  clear h
  go_wp2_with fail
  go_loopg [6] l0.length (fun gg v6 wr => ∃ kk : Nat, kk ≤ l0.length ∧ l0.length - kk ≤ gg ∧ v6 = .int .i64 kk ∧ Aside0 (∃ P, LB W0 P pb pm wr (Bk.new.run (l0.take kk))))
  case atStart => exact ⟨0, Nat.zero_le _, by omega, rfl, H1⟩
  case round =>
    clear H1
    obtain ⟨kk, hkk, hg, rfl, HB⟩ := hrel
    by_cases hlt : kk < l0.length
    · have hltz : (kk : Int) < (l0.length : Int) := by omega
      obtain ⟨P, hP⟩ := HB.out
      have HP := Aside0.mk hP
      have HC := Aside0.mk (Kd.C_below HRW.out hP.b)
      have HWX2 := Aside0.mk (wfs_at HWF.out hlt)
      have HI := Aside0.mk (Bk.Inv.taken l0 kk (T := 900) (by omega))
      clear hP HB
      obtain ⟨ad, e, x0, x1, x2, x3, x4, x5, x6, x7, x8, x9, x10, x11, x12, x13, x14⟩ := at_T35 HC.out (kk : Int) (by omega) hltz
      subst e
      obtain ⟨xx, HX⟩ : ∃ x, Aside0 (x = rd_T35 l0 (kk : Int)) := ⟨_, ⟨rfl⟩⟩
      rw [← HX.out] at HWX2 x0 x1 x2 x3 x4 x5 x6 x7 x8 x9 x10 x11 x12 x13 x14
      rw [Int.toNat_natCast] at x0 x1 x2 x3 x4 x5 x6 x7 x8 x9 x10 x11 x12 x13 x14
      go_wp2_with fail
      refine (LB.do_ HP.out HI.out (Nat.le_refl _) xx HWX2.out).mono ?_
      rintro e w2 ⟨rfl, P2, h, _, _⟩
      have HB2 : Aside0 (∃ P, LB W0 P pb pm w2 (Bk.new.run (l0.take (kk + 1)))) := ⟨P2, by rw [run_take l0 hlt, ← HX.out]; exact h⟩
      clear h
      go_wp2_with fail
      go_roundg (l0.length - (kk + 1))
      case measure => omega
      case rel => exact ⟨kk + 1, by omega, by omega, by go_num, HB2⟩
    · have hltz : ¬ (kk : Int) < (l0.length : Int) := by omega
      have : kk = l0.length := by omega
      subst this
      obtain ⟨P, hP⟩ := HB.out
      rw [List.take_length] at hP
      have hI := Bk.Inv.taken l0 l0.length (T := 60) (by omega)
      rw [List.take_length] at hI
      generalize Bk.new.run l0 = B at hP hI Qhr
      have HP := Aside0.mk hP
      have HI := Aside0.mk hI
      clear HB hP hI
      have q := LB.All HP.out (HI.out.ok (by omega))
      go_wp2_with fail
      refine q.mono ?_
      clear q
      rintro e w2 ⟨v, rfl, hs, hb⟩
      change Kd.S k41 41 w2 wr.heap.size (fun _ => True) v B.all at hs
      obtain ⟨A1, c1, rfl⟩ := Kd.S_slice hs
      have HS1 := Aside0.mk hs
      have HLO := Aside0.mk HP.out.lo
      replace HP := Aside0.mk (HP.out.below hb)
      clear hs hb
      obtain ⟨rf, hrf⟩ := HI.out.findSome x.f3
      have HRF := Aside0.mk hrf
      clear hrf
      have HX := Aside0.mk (blk_below HX0.out HP.out.b)
      have x14 : w2.cell? ⟨w.heap.size, 14, none⟩ = some (.int .i64 x.f3) := (blk_cell HX.out 14).trans rfl
      have q := LB.Find HP.out x.f3 HWX.out rf HRF.out
      go_wp2_with fail
      refine q.mono ?_
      clear q
      rintro e w3 ⟨rfl, hb⟩
      replace HS1 := Aside0.mk (Kd.S_below HS1.out hb)
      replace HP := Aside0.mk (HP.out.below hb)
      clear hb x14 HX
      have HX := Aside0.mk (blk_below HX0.out HP.out.b)
      have x0 : w3.cell? ⟨w.heap.size, 0, none⟩ = some (.int .i64 x.f0) := (blk_cell HX.out 0).trans rfl
      have x1 : w3.cell? ⟨w.heap.size, 1, none⟩ = some (.int .i64 x.f1.f0) := (blk_cell HX.out 1).trans rfl
      have x2 : w3.cell? ⟨w.heap.size, 2, none⟩ = some (.int .i64 x.f1.f1) := (blk_cell HX.out 2).trans rfl
      have x3 : w3.cell? ⟨w.heap.size, 3, none⟩ = some (.int .i64 x.f1.f2) := (blk_cell HX.out 3).trans rfl
      have x4 : w3.cell? ⟨w.heap.size, 4, none⟩ = some (.int .i64 x.f1.f3) := (blk_cell HX.out 4).trans rfl
      have x5 : w3.cell? ⟨w.heap.size, 5, none⟩ = some (.int .i64 x.f1.f4) := (blk_cell HX.out 5).trans rfl
      have x6 : w3.cell? ⟨w.heap.size, 6, none⟩ = some (.int .i64 x.f1.f5) := (blk_cell HX.out 6).trans rfl
      have x7 : w3.cell? ⟨w.heap.size, 7, none⟩ = some (.int .i64 x.f1.f6) := (blk_cell HX.out 7).trans rfl
      have x8 : w3.cell? ⟨w.heap.size, 8, none⟩ = some (.int .i64 x.f1.f7) := (blk_cell HX.out 8).trans rfl
      have x9 : w3.cell? ⟨w.heap.size, 9, none⟩ = some (.int .i64 x.f1.f8) := (blk_cell HX.out 9).trans rfl
      have x10 : w3.cell? ⟨w.heap.size, 10, none⟩ = some (.int .i64 x.f1.f9) := (blk_cell HX.out 10).trans rfl
      have x11 : w3.cell? ⟨w.heap.size, 11, none⟩ = some (.int .i64 x.f1.f10) := (blk_cell HX.out 11).trans rfl
      have x12 : w3.cell? ⟨w.heap.size, 12, none⟩ = some (.int .i64 x.f1.f11) := (blk_cell HX.out 12).trans rfl
      have x13 : w3.cell? ⟨w.heap.size, 13, none⟩ = some (.int .i64 x.f2) := (blk_cell HX.out 13).trans rfl
      have x14 : w3.cell? ⟨w.heap.size, 14, none⟩ = some (.int .i64 x.f3) := (blk_cell HX.out 14).trans rfl
      have q := LB.do_ HP.out HI.out (by omega) x HWX.out
      have hno := @do_no B x
      have had := @do_add B x
      have hone := @do_one B 60 HI.out x
      have HI2 := Aside0.mk (HI.out.do_ x)
      generalize hd : B.do_ x = D at q hno had hone HI2 Qhr
      obtain ⟨B2, r2⟩ := D
      dsimp only at q hno had hone HI2 Qhr
      clear hd
      have HNO := Aside0.mk hno
      have HAD := Aside0.mk had
      have HONE := Aside0.mk hone
      clear hno had hone
      go_wp2_with fail
      refine q.mono ?_
      clear q
      rintro e w4 ⟨rfl, P4, h, hk, _⟩
      replace HS1 := Aside0.mk (Kd.S_kept (Kd.S_bound HS1.out) hk.k (fun k hk h => absurd ((HLO.out k h).2) (by have := hk.2.1; omega)))
      replace HP := Aside0.mk h
      clear h hk HLO HX x0 x1 x2 x3 x4 x5 x6 x7 x8 x9 x10 x11 x12 x13 x14
      have q := LB.All HP.out (HI2.out.ok (by omega))
      go_wp2_with fail
      refine q.mono ?_
      clear q
      rintro e w5 ⟨v, rfl, hs, hb⟩
      change Kd.S k41 41 w5 w4.heap.size (fun _ => True) v B2.all at hs
      obtain ⟨A2, c2, rfl⟩ := Kd.S_slice hs
      have HC1 := Aside0.mk (Kd.S_reads' (Kd.S_below HS1.out hb)).2
      have HC2 := Aside0.mk (Kd.S_reads' hs).2
      replace HP := Aside0.mk (HP.out.below hb)
      have HX := Aside0.mk (blk_below HX0.out HP.out.b)
      clear hs hb HS1
      have HF := Aside0.mk (HI.out.few (by omega))
      have HF2 := Aside0.mk (HI2.out.few (by omega))
      have HL := Aside0.mk HI.out.allLen
      have HL2 := Aside0.mk HI2.out.allLen
      have hr := Qhr.out
      have hrr : (r2 != 0) = true := bne_iff_ne.mpr hr
      have e2 := HNO.out hr
      subst e2
      clear hr
      have q := same_calls B2.all B2.all HF.out w5 HC2.out.2 HC2.out.1 HC1.out.2 HC1.out.1 (by have := HL.out; omega)
      rw [eqL41_iff.2 rfl] at q
      go_wp2_with fail
      refine q.mono ?_
      clear q
      rintro e w6 ⟨rfl, hb⟩
      replace HP := Aside0.mk (HP.out.below hb)
      clear hb
      go_wp2_with fail
      refine (aw_all _).mono ?_
      rintro e w9 ⟨rfl, hb⟩
      go_wp2
      go_ret
      exact ⟨rfl, below_step HW0.out (below_step HP.out.b hb)⟩
open Mono in
set_option maxHeartbeats 16000000 in
set_option maxRecDepth 100000 in
theorem OrderRefused_add (A0 : Option Addr) (c0 : Nat) (l0 : List S35) (x : S35) (w : World) (hr0 : Kd.C k35 w A0 l0.length l0) (hc0 : l0.length ≤ c0) (hwf : wfs l0 = true) (hwx : (Lit.int .i64 x.f3).wf = true) (hN : ¬ 60 < l0.length) (hr : ((Bk.new.run l0).do_ x).2 = 0) (hk : x.f0 = 0) :
    Calls Try.prog 8 #[.slice A0 l0.length c0, .agg #[.int .i64 x.f0, .int .i64 x.f1.f0, .int .i64 x.f1.f1, .int .i64 x.f1.f2, .int .i64 x.f1.f3, .int .i64 x.f1.f4, .int .i64 x.f1.f5, .int .i64 x.f1.f6, .int .i64 x.f1.f7, .int .i64 x.f1.f8, .int .i64 x.f1.f9, .int .i64 x.f1.f10, .int .i64 x.f1.f11, .int .i64 x.f2, .int .i64 x.f3]] w fun e w' => e = .returned (.bool true) ∧ Below w.heap.size w w' := by
  have hu35 := Try.underlying35
  have hu23 := Try.underlying23
  have hu41 := Try.underlying41
  have hlen := hr0.2.1
  have HR0 := Aside0.mk hr0
  have HC0 := Aside0.mk hc0
  have HWF := Aside0.mk hwf
  clear hr0 hc0 hwf
  have HWX := Aside0.mk hwx
  clear hwx
  have c1b : decide ((60 : Int) < (l0.length : Int)) = false := decide_eq_false (by omega)
  have c1n : decide (60 < l0.length) = false := decide_eq_false hN
  have c1m := eq_false hN
  have Qhr := Aside0.mk hr
  have Qhk := Aside0.mk hk
  clear hr hk
  go_enter Try.func8, Try.ntmps8
  go_wp2_with fail
  refine (LB.new _ _ (Below.refl _ _)).mono ?_
  rintro e w1 ⟨P0, pb, pm, rfl, h, _, _⟩
  have HX0 := Aside0.mk (blk_new w (.cells #[.int .i64 x.f0, .int .i64 x.f1.f0, .int .i64 x.f1.f1, .int .i64 x.f1.f2, .int .i64 x.f1.f3, .int .i64 x.f1.f4, .int .i64 x.f1.f5, .int .i64 x.f1.f6, .int .i64 x.f1.f7, .int .i64 x.f1.f8, .int .i64 x.f1.f9, .int .i64 x.f1.f10, .int .i64 x.f1.f11, .int .i64 x.f2, .int .i64 x.f3] 35))
  have HW0 := Aside0.mk (below_alloc (Below.refl w.heap.size w) (.cells #[.int .i64 x.f0, .int .i64 x.f1.f0, .int .i64 x.f1.f1, .int .i64 x.f1.f2, .int .i64 x.f1.f3, .int .i64 x.f1.f4, .int .i64 x.f1.f5, .int .i64 x.f1.f6, .int .i64 x.f1.f7, .int .i64 x.f1.f8, .int .i64 x.f1.f9, .int .i64 x.f1.f10, .int .i64 x.f1.f11, .int .i64 x.f2, .int .i64 x.f3] 35))
  have HRW := Aside0.mk (Kd.C_alloc HR0.out (.cells #[.int .i64 x.f0, .int .i64 x.f1.f0, .int .i64 x.f1.f1, .int .i64 x.f1.f2, .int .i64 x.f1.f3, .int .i64 x.f1.f4, .int .i64 x.f1.f5, .int .i64 x.f1.f6, .int .i64 x.f1.f7, .int .i64 x.f1.f8, .int .i64 x.f1.f9, .int .i64 x.f1.f10, .int .i64 x.f1.f11, .int .i64 x.f2, .int .i64 x.f3] 35))
  have hwl : w.heap.size < (w.alloc (.cells #[.int .i64 x.f0, .int .i64 x.f1.f0, .int .i64 x.f1.f1, .int .i64 x.f1.f2, .int .i64 x.f1.f3, .int .i64 x.f1.f4, .int .i64 x.f1.f5, .int .i64 x.f1.f6, .int .i64 x.f1.f7, .int .i64 x.f1.f8, .int .i64 x.f1.f9, .int .i64 x.f1.f10, .int .i64 x.f1.f11, .int .i64 x.f2, .int .i64 x.f3] 35)).heap.size := blk_lt HX0.out
  generalize w.alloc (.cells #[.int .i64 x.f0, .int .i64 x.f1.f0, .int .i64 x.f1.f1, .int .i64 x.f1.f2, .int .i64 x.f1.f3, .int .i64 x.f1.f4, .int .i64 x.f1.f5, .int .i64 x.f1.f6, .int .i64 x.f1.f7, .int .i64 x.f1.f8, .int .i64 x.f1.f9, .int .i64 x.f1.f10, .int .i64 x.f1.f11, .int .i64 x.f2, .int .i64 x.f3] 35) = W0 at h HX0 HW0 HRW hwl ⊢
  have H1 : Aside0 (∃ P, LB W0 P pb pm w1 (Bk.new.run (l0.take 0))) := ⟨P0, h⟩
  clear h
  go_wp2_with fail
  go_loopg [6] l0.length (fun gg v6 wr => ∃ kk : Nat, kk ≤ l0.length ∧ l0.length - kk ≤ gg ∧ v6 = .int .i64 kk ∧ Aside0 (∃ P, LB W0 P pb pm wr (Bk.new.run (l0.take kk))))
  case atStart => exact ⟨0, Nat.zero_le _, by omega, rfl, H1⟩
  case round =>
    clear H1
    obtain ⟨kk, hkk, hg, rfl, HB⟩ := hrel
    by_cases hlt : kk < l0.length
    · have hltz : (kk : Int) < (l0.length : Int) := by omega
      obtain ⟨P, hP⟩ := HB.out
      have HP := Aside0.mk hP
      have HC := Aside0.mk (Kd.C_below HRW.out hP.b)
      have HWX2 := Aside0.mk (wfs_at HWF.out hlt)
      have HI := Aside0.mk (Bk.Inv.taken l0 kk (T := 900) (by omega))
      clear hP HB
      obtain ⟨ad, e, x0, x1, x2, x3, x4, x5, x6, x7, x8, x9, x10, x11, x12, x13, x14⟩ := at_T35 HC.out (kk : Int) (by omega) hltz
      subst e
      obtain ⟨xx, HX⟩ : ∃ x, Aside0 (x = rd_T35 l0 (kk : Int)) := ⟨_, ⟨rfl⟩⟩
      rw [← HX.out] at HWX2 x0 x1 x2 x3 x4 x5 x6 x7 x8 x9 x10 x11 x12 x13 x14
      rw [Int.toNat_natCast] at x0 x1 x2 x3 x4 x5 x6 x7 x8 x9 x10 x11 x12 x13 x14
      go_wp2_with fail
      refine (LB.do_ HP.out HI.out (Nat.le_refl _) xx HWX2.out).mono ?_
      rintro e w2 ⟨rfl, P2, h, _, _⟩
      have HB2 : Aside0 (∃ P, LB W0 P pb pm w2 (Bk.new.run (l0.take (kk + 1)))) := ⟨P2, by rw [run_take l0 hlt, ← HX.out]; exact h⟩
      clear h
      go_wp2_with fail
      go_roundg (l0.length - (kk + 1))
      case measure => omega
      case rel => exact ⟨kk + 1, by omega, by omega, by go_num, HB2⟩
    · have hltz : ¬ (kk : Int) < (l0.length : Int) := by omega
      have : kk = l0.length := by omega
      subst this
      obtain ⟨P, hP⟩ := HB.out
      rw [List.take_length] at hP
      have hI := Bk.Inv.taken l0 l0.length (T := 60) (by omega)
      rw [List.take_length] at hI
      generalize Bk.new.run l0 = B at hP hI Qhr
      have HP := Aside0.mk hP
      have HI := Aside0.mk hI
      clear HB hP hI
      have q := LB.All HP.out (HI.out.ok (by omega))
      go_wp2_with fail
      refine q.mono ?_
      clear q
      rintro e w2 ⟨v, rfl, hs, hb⟩
      change Kd.S k41 41 w2 wr.heap.size (fun _ => True) v B.all at hs
      obtain ⟨A1, c1, rfl⟩ := Kd.S_slice hs
      have HS1 := Aside0.mk hs
      have HLO := Aside0.mk HP.out.lo
      replace HP := Aside0.mk (HP.out.below hb)
      clear hs hb
      obtain ⟨rf, hrf⟩ := HI.out.findSome x.f3
      have HRF := Aside0.mk hrf
      clear hrf
      have HX := Aside0.mk (blk_below HX0.out HP.out.b)
      have x14 : w2.cell? ⟨w.heap.size, 14, none⟩ = some (.int .i64 x.f3) := (blk_cell HX.out 14).trans rfl
      have q := LB.Find HP.out x.f3 HWX.out rf HRF.out
      go_wp2_with fail
      refine q.mono ?_
      clear q
      rintro e w3 ⟨rfl, hb⟩
      replace HS1 := Aside0.mk (Kd.S_below HS1.out hb)
      replace HP := Aside0.mk (HP.out.below hb)
      clear hb x14 HX
      have HX := Aside0.mk (blk_below HX0.out HP.out.b)
      have x0 : w3.cell? ⟨w.heap.size, 0, none⟩ = some (.int .i64 x.f0) := (blk_cell HX.out 0).trans rfl
      have x1 : w3.cell? ⟨w.heap.size, 1, none⟩ = some (.int .i64 x.f1.f0) := (blk_cell HX.out 1).trans rfl
      have x2 : w3.cell? ⟨w.heap.size, 2, none⟩ = some (.int .i64 x.f1.f1) := (blk_cell HX.out 2).trans rfl
      have x3 : w3.cell? ⟨w.heap.size, 3, none⟩ = some (.int .i64 x.f1.f2) := (blk_cell HX.out 3).trans rfl
      have x4 : w3.cell? ⟨w.heap.size, 4, none⟩ = some (.int .i64 x.f1.f3) := (blk_cell HX.out 4).trans rfl
      have x5 : w3.cell? ⟨w.heap.size, 5, none⟩ = some (.int .i64 x.f1.f4) := (blk_cell HX.out 5).trans rfl
      have x6 : w3.cell? ⟨w.heap.size, 6, none⟩ = some (.int .i64 x.f1.f5) := (blk_cell HX.out 6).trans rfl
      have x7 : w3.cell? ⟨w.heap.size, 7, none⟩ = some (.int .i64 x.f1.f6) := (blk_cell HX.out 7).trans rfl
      have x8 : w3.cell? ⟨w.heap.size, 8, none⟩ = some (.int .i64 x.f1.f7) := (blk_cell HX.out 8).trans rfl
      have x9 : w3.cell? ⟨w.heap.size, 9, none⟩ = some (.int .i64 x.f1.f8) := (blk_cell HX.out 9).trans rfl
      have x10 : w3.cell? ⟨w.heap.size, 10, none⟩ = some (.int .i64 x.f1.f9) := (blk_cell HX.out 10).trans rfl
      have x11 : w3.cell? ⟨w.heap.size, 11, none⟩ = some (.int .i64 x.f1.f10) := (blk_cell HX.out 11).trans rfl
      have x12 : w3.cell? ⟨w.heap.size, 12, none⟩ = some (.int .i64 x.f1.f11) := (blk_cell HX.out 12).trans rfl
      have x13 : w3.cell? ⟨w.heap.size, 13, none⟩ = some (.int .i64 x.f2) := (blk_cell HX.out 13).trans rfl
      have x14 : w3.cell? ⟨w.heap.size, 14, none⟩ = some (.int .i64 x.f3) := (blk_cell HX.out 14).trans rfl
      have q := LB.do_ HP.out HI.out (by omega) x HWX.out
      have hno := @do_no B x
      have had := @do_add B x
      have hone := @do_one B 60 HI.out x
      have HI2 := Aside0.mk (HI.out.do_ x)
      generalize hd : B.do_ x = D at q hno had hone HI2 Qhr
      obtain ⟨B2, r2⟩ := D
      dsimp only at q hno had hone HI2 Qhr
      clear hd
      have HNO := Aside0.mk hno
      have HAD := Aside0.mk had
      have HONE := Aside0.mk hone
      clear hno had hone
      go_wp2_with fail
      refine q.mono ?_
      clear q
      rintro e w4 ⟨rfl, P4, h, hk, _⟩
      replace HS1 := Aside0.mk (Kd.S_kept (Kd.S_bound HS1.out) hk.k (fun k hk h => absurd ((HLO.out k h).2) (by have := hk.2.1; omega)))
      replace HP := Aside0.mk h
      clear h hk HLO HX x0 x1 x2 x3 x4 x5 x6 x7 x8 x9 x10 x11 x12 x13 x14
      have q := LB.All HP.out (HI2.out.ok (by omega))
      go_wp2_with fail
      refine q.mono ?_
      clear q
      rintro e w5 ⟨v, rfl, hs, hb⟩
      change Kd.S k41 41 w5 w4.heap.size (fun _ => True) v B2.all at hs
      obtain ⟨A2, c2, rfl⟩ := Kd.S_slice hs
      have HC1 := Aside0.mk (Kd.S_reads' (Kd.S_below HS1.out hb)).2
      have HC2 := Aside0.mk (Kd.S_reads' hs).2
      replace HP := Aside0.mk (HP.out.below hb)
      have HX := Aside0.mk (blk_below HX0.out HP.out.b)
      clear hs hb HS1
      have HF := Aside0.mk (HI.out.few (by omega))
      have HF2 := Aside0.mk (HI2.out.few (by omega))
      have HL := Aside0.mk HI.out.allLen
      have HL2 := Aside0.mk HI2.out.allLen
      have hr := Qhr.out
      have hk := Qhk.out
      subst hr
      have x0 : w5.cell? ⟨w.heap.size, 0, none⟩ = some (.int .i64 x.f0) := (blk_cell HX.out 0).trans rfl
      have x2 : w5.cell? ⟨w.heap.size, 2, none⟩ = some (.int .i64 x.f1.f1) := (blk_cell HX.out 2).trans rfl
      have x13 : w5.cell? ⟨w.heap.size, 13, none⟩ = some (.int .i64 x.f2) := (blk_cell HX.out 13).trans rfl
      have x14 : w5.cell? ⟨w.heap.size, 14, none⟩ = some (.int .i64 x.f3) := (blk_cell HX.out 14).trans rfl
      have e2 := HAD.out hk rfl
      have hall : B2.all = B.all ++ [(⟨x.f1, [], [], false⟩ : S41)] := by rw [e2]; exact all_add _ _ _
      rw [hall] at HC2 ⊢
      clear e2 hall HNO HAD HONE HF2 HL2
      have hle : (B.all ++ [(⟨x.f1, [], [], false⟩ : S41)]).length = B.all.length + 1 := by simp
      rw [hle] at HC2 ⊢
      have HCP := Aside0.mk (C_prefix (hle ▸ HC2.out.2 : Kd.C k41 w5 A2 (B.all ++ [(⟨x.f1, [], [], false⟩ : S41)]).length (B.all ++ [(⟨x.f1, [], [], false⟩ : S41)])))
      obtain ⟨ad, sA, sc, sB, sd, e, s0, s1, s2, s3, s4, s5, s6, s7, s8, s9, s10, s11, s12, s13, s14, sl1, sC1, sl2, sC2⟩ := at_T41 HC2.out.2 (B.all.length : Int) (by omega) (by omega)
      subst e
      have hrd : rd_T41 (B.all ++ [(⟨x.f1, [], [], false⟩ : S41)]) (B.all.length : Int) = ⟨x.f1, [], [], false⟩ := by unfold rd_T41; rw [Int.toNat_natCast, List.getD_eq_getElem?_getD, List.getElem?_append_right (Nat.le_refl _)]; simp
      rw [hrd] at s0 s1 s2 s3 s4 s5 s6 s7 s8 s9 s10 s11 s12 s13 s14 sl1 sC1 sl2 sC2
      dsimp only at s0 s1 s2 s3 s4 s5 s6 s7 s8 s9 s10 s11 s12 s13 s14
      rw [Int.toNat_natCast] at s0 s1 s2 s3 s4 s5 s6 s7 s8 s9 s10 s11 s12 s13 s14
      have HS := Aside0.mk (And.intro sl1 (And.intro sC1 (And.intro sl2 sC2)))
      have kb : (x.f0 == 0) = true := by rw [hk]; rfl
      clear hk hrd sl1 sC1 sl2 sC2
      have hn64 : B.all.length ≤ 64 := HL.out
      have hcap : B.all.length + 1 ≤ c2 := HC2.out.1
      have hcap' : B.all.length ≤ c1 := HC1.out.1
      have HXS := Aside0.mk (And.intro s0 (And.intro s1 (And.intro s2 (And.intro s3 (And.intro s4 (And.intro s5 (And.intro s6 (And.intro s7 (And.intro s8 (And.intro s9 (And.intro s10 (And.intro s11 (And.intro s12 (And.intro s13 s14))))))))))))))
      clear s0 s1 s2 s3 s4 s5 s6 s7 s8 s9 s10 s11 s12 s13 s14
      go_wp2_with fail
      refine Mono.start (fun ops hops => ?_)
      have HOPS := Aside0.mk hops
      clear hops
      have hB0 : okB ops 142 = true := by rw [HOPS.out]; kernel_rfl
      have hK0 : okK ops 142 [60, 61, 62, 63, 64, 65, 66, 67, 68, 69, 70, 71, 72, 73, 74, 75, 76, 77, 78, 79, 80, 81, 82, 83, 84, 85, 86, 87, 4] = true := by rw [HOPS.out]; kernel_rfl
      refine Reg.wp (Φ := fun i v _ => v = ([.slice (some ad) (B.all.length + 1) c2, .int .i64 ((B.all.length : Int) + 1), .slice A1 B.all.length c1, .int .i64 (B.all.length : Int), .int .i64 ((B.all.length : Int) + 1), .bool true, .bool true, .slice (some ad) (B.all.length + 1) c2, .slice A1 B.all.length c1, .int .i64 (B.all.length : Int), .slice (some ad) B.all.length c2, .slice A1 B.all.length c1, .bool true, .bool true, .bool true, .slice (some ad) (B.all.length + 1) c2, .slice A1 B.all.length c1, .int .i64 (B.all.length : Int), .pointer (some (ad.add (B.all.length * 15))), .agg #[.int .i64 x.f1.f0, .int .i64 x.f1.f1, .int .i64 x.f1.f2, .int .i64 x.f1.f3, .int .i64 x.f1.f4, .int .i64 x.f1.f5, .int .i64 x.f1.f6, .int .i64 x.f1.f7, .int .i64 x.f1.f8, .int .i64 x.f1.f9, .int .i64 x.f1.f10, .int .i64 x.f1.f11, .slice sA 0 sc, .slice sB 0 sd, .bool false], .pointer (some ⟨w.heap.size, 1, none⟩), .agg #[.int .i64 x.f1.f0, .int .i64 x.f1.f1, .int .i64 x.f1.f2, .int .i64 x.f1.f3, .int .i64 x.f1.f4, .int .i64 x.f1.f5, .int .i64 x.f1.f6, .int .i64 x.f1.f7, .int .i64 x.f1.f8, .int .i64 x.f1.f9, .int .i64 x.f1.f10, .int .i64 x.f1.f11], .agg #[.int .i64 x.f1.f0, .int .i64 x.f1.f1, .int .i64 x.f1.f2, .int .i64 x.f1.f3, .int .i64 x.f1.f4, .int .i64 x.f1.f5, .int .i64 x.f1.f6, .int .i64 x.f1.f7, .int .i64 x.f1.f8, .int .i64 x.f1.f9, .int .i64 x.f1.f10, .int .i64 x.f1.f11, .slice none 0 0, .slice none 0 0, .bool false], .bool true, .bool true, .bool true, .bool true, .bool true, .bool true] : List Value).getD i undef) (Inv := fun w_ => Below w5.heap.size w5 w_) (Reg.ofB rfl hB0 (fun _ _ _ _ _ h => h) (fun _ _ hb h => below_step h hb) ?_) (by kernel_rfl) (below_drew1 (Below.refl _ _)) ?_
      · intro i o d ho hd a w_ hf hI hk
        have hN : a.tmps.size = 142 := hf.size.trans rfl
        have hi : i < 29 := by
          have := (Array.getElem?_eq_some_iff.1 ho).1
          rw [HOPS.out] at this
          exact this
        obtain rfl | rfl | rfl | rfl | rfl | rfl | rfl | rfl | rfl | rfl | rfl | rfl | rfl | rfl | rfl | rfl | rfl | rfl | rfl | rfl | rfl | rfl | rfl | rfl | rfl | rfl | rfl | rfl | rfl : i = 0 ∨ i = 1 ∨ i = 2 ∨ i = 3 ∨ i = 4 ∨ i = 5 ∨ i = 6 ∨ i = 7 ∨ i = 8 ∨ i = 9 ∨ i = 10 ∨ i = 11 ∨ i = 12 ∨ i = 13 ∨ i = 14 ∨ i = 15 ∨ i = 16 ∨ i = 17 ∨ i = 18 ∨ i = 19 ∨ i = 20 ∨ i = 21 ∨ i = 22 ∨ i = 23 ∨ i = 24 ∨ i = 25 ∨ i = 26 ∨ i = 27 ∨ i = 28 := by omega
        · -- operation 0
          have h := ho
          rw [HOPS.out] at ho
          simp only [List.getElem?_toArray, List.getElem?_cons_succ, List.getElem?_cons_zero, List.append_eq, List.cons_append, List.nil_append, Option.some.injEq] at ho
          subst ho
          obtain rfl := Option.some.inj hd
          have b11 : a.tmps.getD 11 undef = .slice (some ad) (B.all.length + 1) c2 := (hf.same 11 (by rw [HOPS.out]; exact not_dst (by kernel_rfl))).trans rfl
          exact step_value h rfl (wanted_none rfl) (run_move rfl) b11 (Below.refl _ _)
        · -- operation 1
          have h := ho
          rw [HOPS.out] at ho
          simp only [List.getElem?_toArray, List.getElem?_cons_succ, List.getElem?_cons_zero, List.append_eq, List.cons_append, List.nil_append, Option.some.injEq] at ho
          subst ho
          obtain rfl := Option.some.inj hd
          have e0 : a.tmps.getD 60 undef = .slice (some ad) (B.all.length + 1) c2 := known_eq (hk 0 (by kernel_rfl)) (by rw [HOPS.out]; rfl) rfl
          refine step_value h rfl (wanted_none rfl) (v := .int .i64 ((B.all.length : Int) + 1)) (w1 := w_) ?_ rfl (Below.refl _ _)
          have q0 := getq hN (by decide) e0
          clear hk h hN hf hI
          go_simp
        · -- operation 2
          have h := ho
          rw [HOPS.out] at ho
          simp only [List.getElem?_toArray, List.getElem?_cons_succ, List.getElem?_cons_zero, List.append_eq, List.cons_append, List.nil_append, Option.some.injEq] at ho
          subst ho
          obtain rfl := Option.some.inj hd
          have b7 : a.tmps.getD 7 undef = .slice A1 B.all.length c1 := (hf.same 7 (by rw [HOPS.out]; exact not_dst (by kernel_rfl))).trans rfl
          exact step_value h rfl (wanted_none rfl) (run_move rfl) b7 (Below.refl _ _)
        · -- operation 3
          have h := ho
          rw [HOPS.out] at ho
          simp only [List.getElem?_toArray, List.getElem?_cons_succ, List.getElem?_cons_zero, List.append_eq, List.cons_append, List.nil_append, Option.some.injEq] at ho
          subst ho
          obtain rfl := Option.some.inj hd
          have e2 : a.tmps.getD 62 undef = .slice A1 B.all.length c1 := known_eq (hk 2 (by kernel_rfl)) (by rw [HOPS.out]; rfl) rfl
          refine step_value h rfl (wanted_none rfl) (v := .int .i64 (B.all.length : Int)) (w1 := w_) ?_ rfl (Below.refl _ _)
          have q2 := getq hN (by decide) e2
          clear hk h hN hf hI
          go_simp
        · -- operation 4
          have h := ho
          rw [HOPS.out] at ho
          simp only [List.getElem?_toArray, List.getElem?_cons_succ, List.getElem?_cons_zero, List.append_eq, List.cons_append, List.nil_append, Option.some.injEq] at ho
          subst ho
          obtain rfl := Option.some.inj hd
          have e3 : a.tmps.getD 63 undef = .int .i64 (B.all.length : Int) := known_eq (hk 3 (by kernel_rfl)) (by rw [HOPS.out]; rfl) rfl
          have hw1 : IntKind.i64.wrap ((B.all.length : Int) + 1) = (B.all.length : Int) + 1 := by rw [i64_w]; exact wrapS (by omega) (by omega)
          refine step_value h rfl (wanted_none rfl) (v := .int .i64 ((B.all.length : Int) + 1)) (w1 := w_) ?_ rfl (Below.refl _ _)
          have q3 := getq hN (by decide) e3
          clear hk h hN hf hI
          go_simp
        · -- operation 5
          have h := ho
          rw [HOPS.out] at ho
          simp only [List.getElem?_toArray, List.getElem?_cons_succ, List.getElem?_cons_zero, List.append_eq, List.cons_append, List.nil_append, Option.some.injEq] at ho
          subst ho
          obtain rfl := Option.some.inj hd
          have e1 : a.tmps.getD 61 undef = .int .i64 ((B.all.length : Int) + 1) := known_eq (hk 1 (by kernel_rfl)) (by rw [HOPS.out]; rfl) rfl
          have e4 : a.tmps.getD 64 undef = .int .i64 ((B.all.length : Int) + 1) := known_eq (hk 4 (by kernel_rfl)) (by rw [HOPS.out]; rfl) rfl
          refine step_value h rfl (wanted_none rfl) (v := .bool true) (w1 := w_) ?_ rfl (Below.refl _ _)
          have q1 := getq hN (by decide) e1
          have q4 := getq hN (by decide) e4
          clear hk h hN hf hI
          go_simp
        · -- operation 6
          have h := ho
          rw [HOPS.out] at ho
          simp only [List.getElem?_toArray, List.getElem?_cons_succ, List.getElem?_cons_zero, List.append_eq, List.cons_append, List.nil_append, Option.some.injEq] at ho
          subst ho
          obtain rfl := Option.some.inj hd
          have e5 : a.tmps.getD 65 undef = .bool true := known_eq (hk 5 (by kernel_rfl)) (by rw [HOPS.out]; rfl) rfl
          exact step_value h rfl (wanted_none rfl) (run_move rfl) e5 (Below.refl _ _)
        · -- operation 7
          have h := ho
          rw [HOPS.out] at ho
          simp only [List.getElem?_toArray, List.getElem?_cons_succ, List.getElem?_cons_zero, List.append_eq, List.cons_append, List.nil_append, Option.some.injEq] at ho
          subst ho
          obtain rfl := Option.some.inj hd
          have e6 : a.tmps.getD 66 undef = .bool true := known_eq (hk 6 (by kernel_rfl)) (by rw [HOPS.out]; rfl) rfl
          have b11 : a.tmps.getD 11 undef = .slice (some ad) (B.all.length + 1) c2 := (hf.same 11 (by rw [HOPS.out]; exact not_dst (by kernel_rfl))).trans rfl
          exact step_value h rfl (wanted_some rfl (show dstOf ops 6 = some 66 by rw [HOPS.out]; rfl) (by rw [hN]; decide) e6) (run_move rfl) b11 (Below.refl _ _)
        · -- operation 8
          have h := ho
          rw [HOPS.out] at ho
          simp only [List.getElem?_toArray, List.getElem?_cons_succ, List.getElem?_cons_zero, List.append_eq, List.cons_append, List.nil_append, Option.some.injEq] at ho
          subst ho
          obtain rfl := Option.some.inj hd
          have e6 : a.tmps.getD 66 undef = .bool true := known_eq (hk 6 (by kernel_rfl)) (by rw [HOPS.out]; rfl) rfl
          have b7 : a.tmps.getD 7 undef = .slice A1 B.all.length c1 := (hf.same 7 (by rw [HOPS.out]; exact not_dst (by kernel_rfl))).trans rfl
          exact step_value h rfl (wanted_some rfl (show dstOf ops 6 = some 66 by rw [HOPS.out]; rfl) (by rw [hN]; decide) e6) (run_move rfl) b7 (Below.refl _ _)
        · -- operation 9
          have h := ho
          rw [HOPS.out] at ho
          simp only [List.getElem?_toArray, List.getElem?_cons_succ, List.getElem?_cons_zero, List.append_eq, List.cons_append, List.nil_append, Option.some.injEq] at ho
          subst ho
          obtain rfl := Option.some.inj hd
          have e6 : a.tmps.getD 66 undef = .bool true := known_eq (hk 6 (by kernel_rfl)) (by rw [HOPS.out]; rfl) rfl
          have e8 : a.tmps.getD 68 undef = .slice A1 B.all.length c1 := known_eq (hk 8 (by kernel_rfl)) (by rw [HOPS.out]; rfl) rfl
          refine step_value h rfl (wanted_some rfl (show dstOf ops 6 = some 66 by rw [HOPS.out]; rfl) (by rw [hN]; decide) e6) (v := .int .i64 (B.all.length : Int)) (w1 := w_) ?_ rfl (Below.refl _ _)
          have q8 := getq hN (by decide) e8
          clear hk h hN hf hI
          go_simp
        · -- operation 10
          have h := ho
          rw [HOPS.out] at ho
          simp only [List.getElem?_toArray, List.getElem?_cons_succ, List.getElem?_cons_zero, List.append_eq, List.cons_append, List.nil_append, Option.some.injEq] at ho
          subst ho
          obtain rfl := Option.some.inj hd
          have e6 : a.tmps.getD 66 undef = .bool true := known_eq (hk 6 (by kernel_rfl)) (by rw [HOPS.out]; rfl) rfl
          have e7 : a.tmps.getD 67 undef = .slice (some ad) (B.all.length + 1) c2 := known_eq (hk 7 (by kernel_rfl)) (by rw [HOPS.out]; rfl) rfl
          have e9 : a.tmps.getD 69 undef = .int .i64 (B.all.length : Int) := known_eq (hk 9 (by kernel_rfl)) (by rw [HOPS.out]; rfl) rfl
          refine step_value h rfl (wanted_some rfl (show dstOf ops 6 = some 66 by rw [HOPS.out]; rfl) (by rw [hN]; decide) e6) (v := .slice (some ad) B.all.length c2) (w1 := w_) ?_ rfl (Below.refl _ _)
          have q7 := getq hN (by decide) e7
          have q9 := getq hN (by decide) e9
          clear hk h hN hf hI
          go_simp; intro h_; exact absurd h_ (by omega)
        · -- operation 11
          have h := ho
          rw [HOPS.out] at ho
          simp only [List.getElem?_toArray, List.getElem?_cons_succ, List.getElem?_cons_zero, List.append_eq, List.cons_append, List.nil_append, Option.some.injEq] at ho
          subst ho
          obtain rfl := Option.some.inj hd
          have e6 : a.tmps.getD 66 undef = .bool true := known_eq (hk 6 (by kernel_rfl)) (by rw [HOPS.out]; rfl) rfl
          have b7 : a.tmps.getD 7 undef = .slice A1 B.all.length c1 := (hf.same 7 (by rw [HOPS.out]; exact not_dst (by kernel_rfl))).trans rfl
          exact step_value h rfl (wanted_some rfl (show dstOf ops 6 = some 66 by rw [HOPS.out]; rfl) (by rw [hN]; decide) e6) (run_move rfl) b7 (Below.refl _ _)
        · -- operation 12
          have h := ho
          rw [HOPS.out] at ho
          simp only [List.getElem?_toArray, List.getElem?_cons_succ, List.getElem?_cons_zero, List.append_eq, List.cons_append, List.nil_append, Option.some.injEq] at ho
          subst ho
          obtain rfl := Option.some.inj hd
          have e6 : a.tmps.getD 66 undef = .bool true := known_eq (hk 6 (by kernel_rfl)) (by rw [HOPS.out]; rfl) rfl
          have e10 : a.tmps.getD 70 undef = .slice (some ad) B.all.length c2 := known_eq (hk 10 (by kernel_rfl)) (by rw [HOPS.out]; rfl) rfl
          have e11 : a.tmps.getD 71 undef = .slice A1 B.all.length c1 := known_eq (hk 11 (by kernel_rfl)) (by rw [HOPS.out]; rfl) rfl
          have q_ := same_calls B.all B.all HF.out w_ (Kd.C_below HCP.out hI) (show B.all.length ≤ c2 by have := HC2.out.1; omega) (Kd.C_below HC1.out.2 hI) HC1.out.1 (by omega)
          rw [eqL41_iff.2 rfl] at q_
          exact step_call h rfl (wanted_some rfl (show dstOf ops 6 = some 66 by rw [HOPS.out]; rfl) (by rw [hN]; decide) e6) Try.func26 (by kernel_rfl) rfl #[.slice (some ad) B.all.length c2, .slice A1 B.all.length c1] rfl (by simp only [List.map_toArray, List.map_cons, List.map_nil, Act.eval, e10, e11]) ((q_).mono fun e w' ⟨he, hb⟩ => ⟨_, he, rfl, hb⟩)
        · -- operation 13
          have h := ho
          rw [HOPS.out] at ho
          simp only [List.getElem?_toArray, List.getElem?_cons_succ, List.getElem?_cons_zero, List.append_eq, List.cons_append, List.nil_append, Option.some.injEq] at ho
          subst ho
          obtain rfl := Option.some.inj hd
          have e6 : a.tmps.getD 66 undef = .bool true := known_eq (hk 6 (by kernel_rfl)) (by rw [HOPS.out]; rfl) rfl
          have e12 : a.tmps.getD 72 undef = .bool true := known_eq (hk 12 (by kernel_rfl)) (by rw [HOPS.out]; rfl) rfl
          exact step_value h rfl (wanted_none rfl) (run_pick rfl e6) e12 (Below.refl _ _)
        · -- operation 14
          have h := ho
          rw [HOPS.out] at ho
          simp only [List.getElem?_toArray, List.getElem?_cons_succ, List.getElem?_cons_zero, List.append_eq, List.cons_append, List.nil_append, Option.some.injEq] at ho
          subst ho
          obtain rfl := Option.some.inj hd
          have e13 : a.tmps.getD 73 undef = .bool true := known_eq (hk 13 (by kernel_rfl)) (by rw [HOPS.out]; rfl) rfl
          exact step_value h rfl (wanted_none rfl) (run_move rfl) e13 (Below.refl _ _)
        · -- operation 15
          have h := ho
          rw [HOPS.out] at ho
          simp only [List.getElem?_toArray, List.getElem?_cons_succ, List.getElem?_cons_zero, List.append_eq, List.cons_append, List.nil_append, Option.some.injEq] at ho
          subst ho
          obtain rfl := Option.some.inj hd
          have e14 : a.tmps.getD 74 undef = .bool true := known_eq (hk 14 (by kernel_rfl)) (by rw [HOPS.out]; rfl) rfl
          have b11 : a.tmps.getD 11 undef = .slice (some ad) (B.all.length + 1) c2 := (hf.same 11 (by rw [HOPS.out]; exact not_dst (by kernel_rfl))).trans rfl
          exact step_value h rfl (wanted_some rfl (show dstOf ops 14 = some 74 by rw [HOPS.out]; rfl) (by rw [hN]; decide) e14) (run_move rfl) b11 (Below.refl _ _)
        · -- operation 16
          have h := ho
          rw [HOPS.out] at ho
          simp only [List.getElem?_toArray, List.getElem?_cons_succ, List.getElem?_cons_zero, List.append_eq, List.cons_append, List.nil_append, Option.some.injEq] at ho
          subst ho
          obtain rfl := Option.some.inj hd
          have e14 : a.tmps.getD 74 undef = .bool true := known_eq (hk 14 (by kernel_rfl)) (by rw [HOPS.out]; rfl) rfl
          have b7 : a.tmps.getD 7 undef = .slice A1 B.all.length c1 := (hf.same 7 (by rw [HOPS.out]; exact not_dst (by kernel_rfl))).trans rfl
          exact step_value h rfl (wanted_some rfl (show dstOf ops 14 = some 74 by rw [HOPS.out]; rfl) (by rw [hN]; decide) e14) (run_move rfl) b7 (Below.refl _ _)
        · -- operation 17
          have h := ho
          rw [HOPS.out] at ho
          simp only [List.getElem?_toArray, List.getElem?_cons_succ, List.getElem?_cons_zero, List.append_eq, List.cons_append, List.nil_append, Option.some.injEq] at ho
          subst ho
          obtain rfl := Option.some.inj hd
          have e14 : a.tmps.getD 74 undef = .bool true := known_eq (hk 14 (by kernel_rfl)) (by rw [HOPS.out]; rfl) rfl
          have e16 : a.tmps.getD 76 undef = .slice A1 B.all.length c1 := known_eq (hk 16 (by kernel_rfl)) (by rw [HOPS.out]; rfl) rfl
          refine step_value h rfl (wanted_some rfl (show dstOf ops 14 = some 74 by rw [HOPS.out]; rfl) (by rw [hN]; decide) e14) (v := .int .i64 (B.all.length : Int)) (w1 := w_) ?_ rfl (Below.refl _ _)
          have q16 := getq hN (by decide) e16
          clear hk h hN hf hI
          go_simp
        · -- operation 18
          have h := ho
          rw [HOPS.out] at ho
          simp only [List.getElem?_toArray, List.getElem?_cons_succ, List.getElem?_cons_zero, List.append_eq, List.cons_append, List.nil_append, Option.some.injEq] at ho
          subst ho
          obtain rfl := Option.some.inj hd
          have e14 : a.tmps.getD 74 undef = .bool true := known_eq (hk 14 (by kernel_rfl)) (by rw [HOPS.out]; rfl) rfl
          have e15 : a.tmps.getD 75 undef = .slice (some ad) (B.all.length + 1) c2 := known_eq (hk 15 (by kernel_rfl)) (by rw [HOPS.out]; rfl) rfl
          have e17 : a.tmps.getD 77 undef = .int .i64 (B.all.length : Int) := known_eq (hk 17 (by kernel_rfl)) (by rw [HOPS.out]; rfl) rfl
          refine step_value h rfl (wanted_some rfl (show dstOf ops 14 = some 74 by rw [HOPS.out]; rfl) (by rw [hN]; decide) e14) (v := .pointer (some (ad.add (B.all.length * 15)))) (w1 := w_) ?_ rfl (Below.refl _ _)
          have q15 := getq hN (by decide) e15
          have q17 := getq hN (by decide) e17
          clear hk h hN hf hI
          go_simp; intro h_; exact absurd h_ (by omega)
        · -- operation 19
          have h := ho
          rw [HOPS.out] at ho
          simp only [List.getElem?_toArray, List.getElem?_cons_succ, List.getElem?_cons_zero, List.append_eq, List.cons_append, List.nil_append, Option.some.injEq] at ho
          subst ho
          obtain rfl := Option.some.inj hd
          have e14 : a.tmps.getD 74 undef = .bool true := known_eq (hk 14 (by kernel_rfl)) (by rw [HOPS.out]; rfl) rfl
          have e18 : a.tmps.getD 78 undef = .pointer (some (ad.add (B.all.length * 15))) := known_eq (hk 18 (by kernel_rfl)) (by rw [HOPS.out]; rfl) rfl
          obtain ⟨s0, s1, s2, s3, s4, s5, s6, s7, s8, s9, s10, s11, s12, s13, s14⟩ := HXS.out
          replace s0 := pw_cell_below hI s0
          replace s1 := pw_cell_below hI s1
          replace s2 := pw_cell_below hI s2
          replace s3 := pw_cell_below hI s3
          replace s4 := pw_cell_below hI s4
          replace s5 := pw_cell_below hI s5
          replace s6 := pw_cell_below hI s6
          replace s7 := pw_cell_below hI s7
          replace s8 := pw_cell_below hI s8
          replace s9 := pw_cell_below hI s9
          replace s10 := pw_cell_below hI s10
          replace s11 := pw_cell_below hI s11
          replace s12 := pw_cell_below hI s12
          replace s13 := pw_cell_below hI s13
          replace s14 := pw_cell_below hI s14
          refine step_value h rfl (wanted_some rfl (show dstOf ops 14 = some 74 by rw [HOPS.out]; rfl) (by rw [hN]; decide) e14) (v := .agg #[.int .i64 x.f1.f0, .int .i64 x.f1.f1, .int .i64 x.f1.f2, .int .i64 x.f1.f3, .int .i64 x.f1.f4, .int .i64 x.f1.f5, .int .i64 x.f1.f6, .int .i64 x.f1.f7, .int .i64 x.f1.f8, .int .i64 x.f1.f9, .int .i64 x.f1.f10, .int .i64 x.f1.f11, .slice sA 0 sc, .slice sB 0 sd, .bool false]) (w1 := w_) ?_ rfl (Below.refl _ _)
          have q18 := getq hN (by decide) e18
          clear hk h hN hf hI
          go_simp
        · -- operation 20
          have h := ho
          rw [HOPS.out] at ho
          simp only [List.getElem?_toArray, List.getElem?_cons_succ, List.getElem?_cons_zero, List.append_eq, List.cons_append, List.nil_append, Option.some.injEq] at ho
          subst ho
          obtain rfl := Option.some.inj hd
          have e14 : a.tmps.getD 74 undef = .bool true := known_eq (hk 14 (by kernel_rfl)) (by rw [HOPS.out]; rfl) rfl
          have b3 : a.tmps.getD 3 undef = .pointer (some ⟨w.heap.size, 0, none⟩) := (hf.same 3 (by rw [HOPS.out]; exact not_dst (by kernel_rfl))).trans rfl
          refine step_value h rfl (wanted_some rfl (show dstOf ops 14 = some 74 by rw [HOPS.out]; rfl) (by rw [hN]; decide) e14) (v := .pointer (some ⟨w.heap.size, 1, none⟩)) (w1 := w_) ?_ rfl (Below.refl _ _)
          have qb3 := getq hN (by decide) b3
          clear hk h hN hf hI
          go_simp
        · -- operation 21
          have h := ho
          rw [HOPS.out] at ho
          simp only [List.getElem?_toArray, List.getElem?_cons_succ, List.getElem?_cons_zero, List.append_eq, List.cons_append, List.nil_append, Option.some.injEq] at ho
          subst ho
          obtain rfl := Option.some.inj hd
          have e14 : a.tmps.getD 74 undef = .bool true := known_eq (hk 14 (by kernel_rfl)) (by rw [HOPS.out]; rfl) rfl
          have e20 : a.tmps.getD 80 undef = .pointer (some ⟨w.heap.size, 1, none⟩) := known_eq (hk 20 (by kernel_rfl)) (by rw [HOPS.out]; rfl) rfl
          have HXw := blk_below HX.out hI
          have y1 : w_.cell? ⟨w.heap.size, 1, none⟩ = some (.int .i64 x.f1.f0) := (blk_cell HXw 1).trans rfl
          have y2 : w_.cell? ⟨w.heap.size, 2, none⟩ = some (.int .i64 x.f1.f1) := (blk_cell HXw 2).trans rfl
          have y3 : w_.cell? ⟨w.heap.size, 3, none⟩ = some (.int .i64 x.f1.f2) := (blk_cell HXw 3).trans rfl
          have y4 : w_.cell? ⟨w.heap.size, 4, none⟩ = some (.int .i64 x.f1.f3) := (blk_cell HXw 4).trans rfl
          have y5 : w_.cell? ⟨w.heap.size, 5, none⟩ = some (.int .i64 x.f1.f4) := (blk_cell HXw 5).trans rfl
          have y6 : w_.cell? ⟨w.heap.size, 6, none⟩ = some (.int .i64 x.f1.f5) := (blk_cell HXw 6).trans rfl
          have y7 : w_.cell? ⟨w.heap.size, 7, none⟩ = some (.int .i64 x.f1.f6) := (blk_cell HXw 7).trans rfl
          have y8 : w_.cell? ⟨w.heap.size, 8, none⟩ = some (.int .i64 x.f1.f7) := (blk_cell HXw 8).trans rfl
          have y9 : w_.cell? ⟨w.heap.size, 9, none⟩ = some (.int .i64 x.f1.f8) := (blk_cell HXw 9).trans rfl
          have y10 : w_.cell? ⟨w.heap.size, 10, none⟩ = some (.int .i64 x.f1.f9) := (blk_cell HXw 10).trans rfl
          have y11 : w_.cell? ⟨w.heap.size, 11, none⟩ = some (.int .i64 x.f1.f10) := (blk_cell HXw 11).trans rfl
          have y12 : w_.cell? ⟨w.heap.size, 12, none⟩ = some (.int .i64 x.f1.f11) := (blk_cell HXw 12).trans rfl
          clear HXw
          refine step_value h rfl (wanted_some rfl (show dstOf ops 14 = some 74 by rw [HOPS.out]; rfl) (by rw [hN]; decide) e14) (v := .agg #[.int .i64 x.f1.f0, .int .i64 x.f1.f1, .int .i64 x.f1.f2, .int .i64 x.f1.f3, .int .i64 x.f1.f4, .int .i64 x.f1.f5, .int .i64 x.f1.f6, .int .i64 x.f1.f7, .int .i64 x.f1.f8, .int .i64 x.f1.f9, .int .i64 x.f1.f10, .int .i64 x.f1.f11]) (w1 := w_) ?_ rfl (Below.refl _ _)
          have q20 := getq hN (by decide) e20
          clear hk h hN hf hI
          go_simp
        · -- operation 22
          have h := ho
          rw [HOPS.out] at ho
          simp only [List.getElem?_toArray, List.getElem?_cons_succ, List.getElem?_cons_zero, List.append_eq, List.cons_append, List.nil_append, Option.some.injEq] at ho
          subst ho
          obtain rfl := Option.some.inj hd
          have e14 : a.tmps.getD 74 undef = .bool true := known_eq (hk 14 (by kernel_rfl)) (by rw [HOPS.out]; rfl) rfl
          have e21 : a.tmps.getD 81 undef = .agg #[.int .i64 x.f1.f0, .int .i64 x.f1.f1, .int .i64 x.f1.f2, .int .i64 x.f1.f3, .int .i64 x.f1.f4, .int .i64 x.f1.f5, .int .i64 x.f1.f6, .int .i64 x.f1.f7, .int .i64 x.f1.f8, .int .i64 x.f1.f9, .int .i64 x.f1.f10, .int .i64 x.f1.f11] := known_eq (hk 21 (by kernel_rfl)) (by rw [HOPS.out]; rfl) rfl
          refine step_value h rfl (wanted_some rfl (show dstOf ops 14 = some 74 by rw [HOPS.out]; rfl) (by rw [hN]; decide) e14) (v := .agg #[.int .i64 x.f1.f0, .int .i64 x.f1.f1, .int .i64 x.f1.f2, .int .i64 x.f1.f3, .int .i64 x.f1.f4, .int .i64 x.f1.f5, .int .i64 x.f1.f6, .int .i64 x.f1.f7, .int .i64 x.f1.f8, .int .i64 x.f1.f9, .int .i64 x.f1.f10, .int .i64 x.f1.f11, .slice none 0 0, .slice none 0 0, .bool false]) (w1 := w_) ?_ rfl (Below.refl _ _)
          have q21 := getq hN (by decide) e21
          clear hk h hN hf hI
          go_simp
        · -- operation 23
          have h := ho
          rw [HOPS.out] at ho
          simp only [List.getElem?_toArray, List.getElem?_cons_succ, List.getElem?_cons_zero, List.append_eq, List.cons_append, List.nil_append, Option.some.injEq] at ho
          subst ho
          obtain rfl := Option.some.inj hd
          have e14 : a.tmps.getD 74 undef = .bool true := known_eq (hk 14 (by kernel_rfl)) (by rw [HOPS.out]; rfl) rfl
          have e19 : a.tmps.getD 79 undef = .agg #[.int .i64 x.f1.f0, .int .i64 x.f1.f1, .int .i64 x.f1.f2, .int .i64 x.f1.f3, .int .i64 x.f1.f4, .int .i64 x.f1.f5, .int .i64 x.f1.f6, .int .i64 x.f1.f7, .int .i64 x.f1.f8, .int .i64 x.f1.f9, .int .i64 x.f1.f10, .int .i64 x.f1.f11, .slice sA 0 sc, .slice sB 0 sd, .bool false] := known_eq (hk 19 (by kernel_rfl)) (by rw [HOPS.out]; rfl) rfl
          have e22 : a.tmps.getD 82 undef = .agg #[.int .i64 x.f1.f0, .int .i64 x.f1.f1, .int .i64 x.f1.f2, .int .i64 x.f1.f3, .int .i64 x.f1.f4, .int .i64 x.f1.f5, .int .i64 x.f1.f6, .int .i64 x.f1.f7, .int .i64 x.f1.f8, .int .i64 x.f1.f9, .int .i64 x.f1.f10, .int .i64 x.f1.f11, .slice none 0 0, .slice none 0 0, .bool false] := known_eq (hk 22 (by kernel_rfl)) (by rw [HOPS.out]; rfl) rfl
          have q_ := sameOne_calls ⟨x.f1, [], [], false⟩ ⟨x.f1, [], [], false⟩ ⟨show 0 < 1000 by decide, show 0 < 1000 by decide⟩ w_ (Kd.C_below HS.out.2.1 hI) HS.out.1 (Kd.C_below HS.out.2.2.2 hI) HS.out.2.2.1 (Kd.C_nil _ _) (Nat.le_refl 0) (Kd.C_nil _ _) (Nat.le_refl 0)
          rw [eq41_refl] at q_
          exact step_call h rfl (wanted_some rfl (show dstOf ops 14 = some 74 by rw [HOPS.out]; rfl) (by rw [hN]; decide) e14) Try.func22 (by kernel_rfl) rfl #[.agg #[.int .i64 x.f1.f0, .int .i64 x.f1.f1, .int .i64 x.f1.f2, .int .i64 x.f1.f3, .int .i64 x.f1.f4, .int .i64 x.f1.f5, .int .i64 x.f1.f6, .int .i64 x.f1.f7, .int .i64 x.f1.f8, .int .i64 x.f1.f9, .int .i64 x.f1.f10, .int .i64 x.f1.f11, .slice sA 0 sc, .slice sB 0 sd, .bool false], .agg #[.int .i64 x.f1.f0, .int .i64 x.f1.f1, .int .i64 x.f1.f2, .int .i64 x.f1.f3, .int .i64 x.f1.f4, .int .i64 x.f1.f5, .int .i64 x.f1.f6, .int .i64 x.f1.f7, .int .i64 x.f1.f8, .int .i64 x.f1.f9, .int .i64 x.f1.f10, .int .i64 x.f1.f11, .slice none 0 0, .slice none 0 0, .bool false]] rfl (by simp only [List.map_toArray, List.map_cons, List.map_nil, Act.eval, e19, e22]) ((q_).mono fun e w' ⟨he, hb⟩ => ⟨_, he, rfl, hb⟩)
        · -- operation 24
          have h := ho
          rw [HOPS.out] at ho
          simp only [List.getElem?_toArray, List.getElem?_cons_succ, List.getElem?_cons_zero, List.append_eq, List.cons_append, List.nil_append, Option.some.injEq] at ho
          subst ho
          obtain rfl := Option.some.inj hd
          have e14 : a.tmps.getD 74 undef = .bool true := known_eq (hk 14 (by kernel_rfl)) (by rw [HOPS.out]; rfl) rfl
          have e23 : a.tmps.getD 83 undef = .bool true := known_eq (hk 23 (by kernel_rfl)) (by rw [HOPS.out]; rfl) rfl
          exact step_value h rfl (wanted_none rfl) (run_pick rfl e14) e23 (Below.refl _ _)
        · -- operation 25
          have h := ho
          rw [HOPS.out] at ho
          simp only [List.getElem?_toArray, List.getElem?_cons_succ, List.getElem?_cons_zero, List.append_eq, List.cons_append, List.nil_append, Option.some.injEq] at ho
          subst ho
          obtain rfl := Option.some.inj hd
          have e24 : a.tmps.getD 84 undef = .bool true := known_eq (hk 24 (by kernel_rfl)) (by rw [HOPS.out]; rfl) rfl
          exact step_value h rfl (wanted_none rfl) (run_move rfl) e24 (Below.refl _ _)
        · -- operation 26
          have h := ho
          rw [HOPS.out] at ho
          simp only [List.getElem?_toArray, List.getElem?_cons_succ, List.getElem?_cons_zero, List.append_eq, List.cons_append, List.nil_append, Option.some.injEq] at ho
          subst ho
          obtain rfl := Option.some.inj hd
          have e25 : a.tmps.getD 85 undef = .bool true := known_eq (hk 25 (by kernel_rfl)) (by rw [HOPS.out]; rfl) rfl
          exact step_call h rfl (wanted_some rfl (show dstOf ops 25 = some 85 by rw [HOPS.out]; rfl) (by rw [hN]; decide) e25) Try.func13 (by kernel_rfl) rfl #[] rfl (by simp only [List.map_toArray, List.map_cons, List.map_nil, Act.eval]) ((aw_all w_).mono fun e w' ⟨he, hb⟩ => ⟨_, he, rfl, hb⟩)
        · -- operation 27
          have h := ho
          rw [HOPS.out] at ho
          simp only [List.getElem?_toArray, List.getElem?_cons_succ, List.getElem?_cons_zero, List.append_eq, List.cons_append, List.nil_append, Option.some.injEq] at ho
          subst ho
          obtain rfl := Option.some.inj hd
          have e25 : a.tmps.getD 85 undef = .bool true := known_eq (hk 25 (by kernel_rfl)) (by rw [HOPS.out]; rfl) rfl
          have e26 : a.tmps.getD 86 undef = .bool true := known_eq (hk 26 (by kernel_rfl)) (by rw [HOPS.out]; rfl) rfl
          exact step_value h rfl (wanted_none rfl) (run_pick rfl e25) e26 (Below.refl _ _)
        · -- operation 28
          have h := ho
          rw [HOPS.out] at ho
          simp only [List.getElem?_toArray, List.getElem?_cons_succ, List.getElem?_cons_zero, List.append_eq, List.cons_append, List.nil_append, Option.some.injEq] at ho
          subst ho
          obtain rfl := Option.some.inj hd
          have e27 : a.tmps.getD 87 undef = .bool true := known_eq (hk 27 (by kernel_rfl)) (by rw [HOPS.out]; rfl) rfl
          exact step_value h rfl (wanted_none rfl) (run_assign rfl) e27 (Below.refl _ _)
      intro a w_ hf hI hk
      have e0 : a.tmps.getD 60 undef = .slice (some ad) (B.all.length + 1) c2 := known_eq (hk 0 (by rw [HOPS.out]; decide)) (by rw [HOPS.out]; rfl) rfl
      have e1 : a.tmps.getD 61 undef = .int .i64 ((B.all.length : Int) + 1) := known_eq (hk 1 (by rw [HOPS.out]; decide)) (by rw [HOPS.out]; rfl) rfl
      have e2 : a.tmps.getD 62 undef = .slice A1 B.all.length c1 := known_eq (hk 2 (by rw [HOPS.out]; decide)) (by rw [HOPS.out]; rfl) rfl
      have e3 : a.tmps.getD 63 undef = .int .i64 (B.all.length : Int) := known_eq (hk 3 (by rw [HOPS.out]; decide)) (by rw [HOPS.out]; rfl) rfl
      have e4 : a.tmps.getD 64 undef = .int .i64 ((B.all.length : Int) + 1) := known_eq (hk 4 (by rw [HOPS.out]; decide)) (by rw [HOPS.out]; rfl) rfl
      have e5 : a.tmps.getD 65 undef = .bool true := known_eq (hk 5 (by rw [HOPS.out]; decide)) (by rw [HOPS.out]; rfl) rfl
      have e6 : a.tmps.getD 66 undef = .bool true := known_eq (hk 6 (by rw [HOPS.out]; decide)) (by rw [HOPS.out]; rfl) rfl
      have e7 : a.tmps.getD 67 undef = .slice (some ad) (B.all.length + 1) c2 := known_eq (hk 7 (by rw [HOPS.out]; decide)) (by rw [HOPS.out]; rfl) rfl
      have e8 : a.tmps.getD 68 undef = .slice A1 B.all.length c1 := known_eq (hk 8 (by rw [HOPS.out]; decide)) (by rw [HOPS.out]; rfl) rfl
      have e9 : a.tmps.getD 69 undef = .int .i64 (B.all.length : Int) := known_eq (hk 9 (by rw [HOPS.out]; decide)) (by rw [HOPS.out]; rfl) rfl
      have e10 : a.tmps.getD 70 undef = .slice (some ad) B.all.length c2 := known_eq (hk 10 (by rw [HOPS.out]; decide)) (by rw [HOPS.out]; rfl) rfl
      have e11 : a.tmps.getD 71 undef = .slice A1 B.all.length c1 := known_eq (hk 11 (by rw [HOPS.out]; decide)) (by rw [HOPS.out]; rfl) rfl
      have e12 : a.tmps.getD 72 undef = .bool true := known_eq (hk 12 (by rw [HOPS.out]; decide)) (by rw [HOPS.out]; rfl) rfl
      have e13 : a.tmps.getD 73 undef = .bool true := known_eq (hk 13 (by rw [HOPS.out]; decide)) (by rw [HOPS.out]; rfl) rfl
      have e14 : a.tmps.getD 74 undef = .bool true := known_eq (hk 14 (by rw [HOPS.out]; decide)) (by rw [HOPS.out]; rfl) rfl
      have e15 : a.tmps.getD 75 undef = .slice (some ad) (B.all.length + 1) c2 := known_eq (hk 15 (by rw [HOPS.out]; decide)) (by rw [HOPS.out]; rfl) rfl
      have e16 : a.tmps.getD 76 undef = .slice A1 B.all.length c1 := known_eq (hk 16 (by rw [HOPS.out]; decide)) (by rw [HOPS.out]; rfl) rfl
      have e17 : a.tmps.getD 77 undef = .int .i64 (B.all.length : Int) := known_eq (hk 17 (by rw [HOPS.out]; decide)) (by rw [HOPS.out]; rfl) rfl
      have e18 : a.tmps.getD 78 undef = .pointer (some (ad.add (B.all.length * 15))) := known_eq (hk 18 (by rw [HOPS.out]; decide)) (by rw [HOPS.out]; rfl) rfl
      have e19 : a.tmps.getD 79 undef = .agg #[.int .i64 x.f1.f0, .int .i64 x.f1.f1, .int .i64 x.f1.f2, .int .i64 x.f1.f3, .int .i64 x.f1.f4, .int .i64 x.f1.f5, .int .i64 x.f1.f6, .int .i64 x.f1.f7, .int .i64 x.f1.f8, .int .i64 x.f1.f9, .int .i64 x.f1.f10, .int .i64 x.f1.f11, .slice sA 0 sc, .slice sB 0 sd, .bool false] := known_eq (hk 19 (by rw [HOPS.out]; decide)) (by rw [HOPS.out]; rfl) rfl
      have e20 : a.tmps.getD 80 undef = .pointer (some ⟨w.heap.size, 1, none⟩) := known_eq (hk 20 (by rw [HOPS.out]; decide)) (by rw [HOPS.out]; rfl) rfl
      have e21 : a.tmps.getD 81 undef = .agg #[.int .i64 x.f1.f0, .int .i64 x.f1.f1, .int .i64 x.f1.f2, .int .i64 x.f1.f3, .int .i64 x.f1.f4, .int .i64 x.f1.f5, .int .i64 x.f1.f6, .int .i64 x.f1.f7, .int .i64 x.f1.f8, .int .i64 x.f1.f9, .int .i64 x.f1.f10, .int .i64 x.f1.f11] := known_eq (hk 21 (by rw [HOPS.out]; decide)) (by rw [HOPS.out]; rfl) rfl
      have e22 : a.tmps.getD 82 undef = .agg #[.int .i64 x.f1.f0, .int .i64 x.f1.f1, .int .i64 x.f1.f2, .int .i64 x.f1.f3, .int .i64 x.f1.f4, .int .i64 x.f1.f5, .int .i64 x.f1.f6, .int .i64 x.f1.f7, .int .i64 x.f1.f8, .int .i64 x.f1.f9, .int .i64 x.f1.f10, .int .i64 x.f1.f11, .slice none 0 0, .slice none 0 0, .bool false] := known_eq (hk 22 (by rw [HOPS.out]; decide)) (by rw [HOPS.out]; rfl) rfl
      have e23 : a.tmps.getD 83 undef = .bool true := known_eq (hk 23 (by rw [HOPS.out]; decide)) (by rw [HOPS.out]; rfl) rfl
      have e24 : a.tmps.getD 84 undef = .bool true := known_eq (hk 24 (by rw [HOPS.out]; decide)) (by rw [HOPS.out]; rfl) rfl
      have e25 : a.tmps.getD 85 undef = .bool true := known_eq (hk 25 (by rw [HOPS.out]; decide)) (by rw [HOPS.out]; rfl) rfl
      have e26 : a.tmps.getD 86 undef = .bool true := known_eq (hk 26 (by rw [HOPS.out]; decide)) (by rw [HOPS.out]; rfl) rfl
      have e27 : a.tmps.getD 87 undef = .bool true := known_eq (hk 27 (by rw [HOPS.out]; decide)) (by rw [HOPS.out]; rfl) rfl
      have e28 : a.tmps.getD 4 undef = .bool true := known_eq (hk 28 (by rw [HOPS.out]; decide)) (by rw [HOPS.out]; rfl) rfl
      have E := toPuts hf [(60, .slice (some ad) (B.all.length + 1) c2), (61, .int .i64 ((B.all.length : Int) + 1)), (62, .slice A1 B.all.length c1), (63, .int .i64 (B.all.length : Int)), (64, .int .i64 ((B.all.length : Int) + 1)), (65, .bool true), (66, .bool true), (67, .slice (some ad) (B.all.length + 1) c2), (68, .slice A1 B.all.length c1), (69, .int .i64 (B.all.length : Int)), (70, .slice (some ad) B.all.length c2), (71, .slice A1 B.all.length c1), (72, .bool true), (73, .bool true), (74, .bool true), (75, .slice (some ad) (B.all.length + 1) c2), (76, .slice A1 B.all.length c1), (77, .int .i64 (B.all.length : Int)), (78, .pointer (some (ad.add (B.all.length * 15)))), (79, .agg #[.int .i64 x.f1.f0, .int .i64 x.f1.f1, .int .i64 x.f1.f2, .int .i64 x.f1.f3, .int .i64 x.f1.f4, .int .i64 x.f1.f5, .int .i64 x.f1.f6, .int .i64 x.f1.f7, .int .i64 x.f1.f8, .int .i64 x.f1.f9, .int .i64 x.f1.f10, .int .i64 x.f1.f11, .slice sA 0 sc, .slice sB 0 sd, .bool false]), (80, .pointer (some ⟨w.heap.size, 1, none⟩)), (81, .agg #[.int .i64 x.f1.f0, .int .i64 x.f1.f1, .int .i64 x.f1.f2, .int .i64 x.f1.f3, .int .i64 x.f1.f4, .int .i64 x.f1.f5, .int .i64 x.f1.f6, .int .i64 x.f1.f7, .int .i64 x.f1.f8, .int .i64 x.f1.f9, .int .i64 x.f1.f10, .int .i64 x.f1.f11]), (82, .agg #[.int .i64 x.f1.f0, .int .i64 x.f1.f1, .int .i64 x.f1.f2, .int .i64 x.f1.f3, .int .i64 x.f1.f4, .int .i64 x.f1.f5, .int .i64 x.f1.f6, .int .i64 x.f1.f7, .int .i64 x.f1.f8, .int .i64 x.f1.f9, .int .i64 x.f1.f10, .int .i64 x.f1.f11, .slice none 0 0, .slice none 0 0, .bool false]), (83, .bool true), (84, .bool true), (85, .bool true), (86, .bool true), (87, .bool true), (4, .bool true)] [60, 61, 62, 63, 64, 65, 66, 67, 68, 69, 70, 71, 72, 73, 74, 75, 76, 77, 78, 79, 80, 81, 82, 83, 84, 85, 86, 87, 4] rfl rfl hK0 (List.forall_mem_cons.2 ⟨e0, (List.forall_mem_cons.2 ⟨e1, (List.forall_mem_cons.2 ⟨e2, (List.forall_mem_cons.2 ⟨e3, (List.forall_mem_cons.2 ⟨e4, (List.forall_mem_cons.2 ⟨e5, (List.forall_mem_cons.2 ⟨e6, (List.forall_mem_cons.2 ⟨e7, (List.forall_mem_cons.2 ⟨e8, (List.forall_mem_cons.2 ⟨e9, (List.forall_mem_cons.2 ⟨e10, (List.forall_mem_cons.2 ⟨e11, (List.forall_mem_cons.2 ⟨e12, (List.forall_mem_cons.2 ⟨e13, (List.forall_mem_cons.2 ⟨e14, (List.forall_mem_cons.2 ⟨e15, (List.forall_mem_cons.2 ⟨e16, (List.forall_mem_cons.2 ⟨e17, (List.forall_mem_cons.2 ⟨e18, (List.forall_mem_cons.2 ⟨e19, (List.forall_mem_cons.2 ⟨e20, (List.forall_mem_cons.2 ⟨e21, (List.forall_mem_cons.2 ⟨e22, (List.forall_mem_cons.2 ⟨e23, (List.forall_mem_cons.2 ⟨e24, (List.forall_mem_cons.2 ⟨e25, (List.forall_mem_cons.2 ⟨e26, (List.forall_mem_cons.2 ⟨e27, (List.forall_mem_cons.2 ⟨e28, (fun _ h_ => by cases h_)⟩)⟩)⟩)⟩)⟩)⟩)⟩)⟩)⟩)⟩)⟩)⟩)⟩)⟩)⟩)⟩)⟩)⟩)⟩)⟩)⟩)⟩)⟩)⟩)⟩)⟩)⟩)⟩)⟩)
      clear e0 e1 e2 e3 e4 e5 e6 e7 e8 e9 e10 e11 e12 e13 e14 e15 e16 e17 e18 e19 e20 e21 e22 e23 e24 e25 e26 e27 e28 hk hf HOPS hB0 hK0
      subst E
      simp only [puts, Act.put, List.setIfInBounds_toArray, List.set_cons_succ, List.set_cons_zero]
      go_wp2
      go_ret
      exact ⟨rfl, below_step HW0.out (below_step HP.out.b hI)⟩
open Mono in
set_option maxHeartbeats 16000000 in
set_option maxRecDepth 100000 in
theorem OrderRefused_w3 (A0 : Option Addr) (c0 : Nat) (l0 : List S35) (x : S35) (w : World) (hr0 : Kd.C k35 w A0 l0.length l0) (hc0 : l0.length ≤ c0) (hwf : wfs l0 = true) (hwx : (Lit.int .i64 x.f3).wf = true) (hN : ¬ 60 < l0.length) (hr : ((Bk.new.run l0).do_ x).2 = 0) (c3 : x.f0 = 3) :
    Calls Try.prog 8 #[.slice A0 l0.length c0, .agg #[.int .i64 x.f0, .int .i64 x.f1.f0, .int .i64 x.f1.f1, .int .i64 x.f1.f2, .int .i64 x.f1.f3, .int .i64 x.f1.f4, .int .i64 x.f1.f5, .int .i64 x.f1.f6, .int .i64 x.f1.f7, .int .i64 x.f1.f8, .int .i64 x.f1.f9, .int .i64 x.f1.f10, .int .i64 x.f1.f11, .int .i64 x.f2, .int .i64 x.f3]] w fun e w' => e = .returned (.bool true) ∧ Below w.heap.size w w' := by
  have hu35 := Try.underlying35
  have hu23 := Try.underlying23
  have hu41 := Try.underlying41
  have hlen := hr0.2.1
  have HR0 := Aside0.mk hr0
  have HC0 := Aside0.mk hc0
  have HWF := Aside0.mk hwf
  clear hr0 hc0 hwf
  have HWX := Aside0.mk hwx
  clear hwx
  have c1b : decide ((60 : Int) < (l0.length : Int)) = false := decide_eq_false (by omega)
  have c1n : decide (60 < l0.length) = false := decide_eq_false hN
  have c1m := eq_false hN
  have Qhr := Aside0.mk hr
  have Qc3 := Aside0.mk c3
  clear hr c3
  go_enter Try.func8, Try.ntmps8
  go_wp2_with fail
  refine (LB.new _ _ (Below.refl _ _)).mono ?_
  rintro e w1 ⟨P0, pb, pm, rfl, h, _, _⟩
  have HX0 := Aside0.mk (blk_new w (.cells #[.int .i64 x.f0, .int .i64 x.f1.f0, .int .i64 x.f1.f1, .int .i64 x.f1.f2, .int .i64 x.f1.f3, .int .i64 x.f1.f4, .int .i64 x.f1.f5, .int .i64 x.f1.f6, .int .i64 x.f1.f7, .int .i64 x.f1.f8, .int .i64 x.f1.f9, .int .i64 x.f1.f10, .int .i64 x.f1.f11, .int .i64 x.f2, .int .i64 x.f3] 35))
  have HW0 := Aside0.mk (below_alloc (Below.refl w.heap.size w) (.cells #[.int .i64 x.f0, .int .i64 x.f1.f0, .int .i64 x.f1.f1, .int .i64 x.f1.f2, .int .i64 x.f1.f3, .int .i64 x.f1.f4, .int .i64 x.f1.f5, .int .i64 x.f1.f6, .int .i64 x.f1.f7, .int .i64 x.f1.f8, .int .i64 x.f1.f9, .int .i64 x.f1.f10, .int .i64 x.f1.f11, .int .i64 x.f2, .int .i64 x.f3] 35))
  have HRW := Aside0.mk (Kd.C_alloc HR0.out (.cells #[.int .i64 x.f0, .int .i64 x.f1.f0, .int .i64 x.f1.f1, .int .i64 x.f1.f2, .int .i64 x.f1.f3, .int .i64 x.f1.f4, .int .i64 x.f1.f5, .int .i64 x.f1.f6, .int .i64 x.f1.f7, .int .i64 x.f1.f8, .int .i64 x.f1.f9, .int .i64 x.f1.f10, .int .i64 x.f1.f11, .int .i64 x.f2, .int .i64 x.f3] 35))
  have hwl : w.heap.size < (w.alloc (.cells #[.int .i64 x.f0, .int .i64 x.f1.f0, .int .i64 x.f1.f1, .int .i64 x.f1.f2, .int .i64 x.f1.f3, .int .i64 x.f1.f4, .int .i64 x.f1.f5, .int .i64 x.f1.f6, .int .i64 x.f1.f7, .int .i64 x.f1.f8, .int .i64 x.f1.f9, .int .i64 x.f1.f10, .int .i64 x.f1.f11, .int .i64 x.f2, .int .i64 x.f3] 35)).heap.size := blk_lt HX0.out
  generalize w.alloc (.cells #[.int .i64 x.f0, .int .i64 x.f1.f0, .int .i64 x.f1.f1, .int .i64 x.f1.f2, .int .i64 x.f1.f3, .int .i64 x.f1.f4, .int .i64 x.f1.f5, .int .i64 x.f1.f6, .int .i64 x.f1.f7, .int .i64 x.f1.f8, .int .i64 x.f1.f9, .int .i64 x.f1.f10, .int .i64 x.f1.f11, .int .i64 x.f2, .int .i64 x.f3] 35) = W0 at h HX0 HW0 HRW hwl ⊢
  have H1 : Aside0 (∃ P, LB W0 P pb pm w1 (Bk.new.run (l0.take 0))) := ⟨P0, h⟩
  clear h
  go_wp2_with fail
  go_loopg [6] l0.length (fun gg v6 wr => ∃ kk : Nat, kk ≤ l0.length ∧ l0.length - kk ≤ gg ∧ v6 = .int .i64 kk ∧ Aside0 (∃ P, LB W0 P pb pm wr (Bk.new.run (l0.take kk))))
  case atStart => exact ⟨0, Nat.zero_le _, by omega, rfl, H1⟩
  case round =>
    clear H1
    obtain ⟨kk, hkk, hg, rfl, HB⟩ := hrel
    by_cases hlt : kk < l0.length
    · have hltz : (kk : Int) < (l0.length : Int) := by omega
      obtain ⟨P, hP⟩ := HB.out
      have HP := Aside0.mk hP
      have HC := Aside0.mk (Kd.C_below HRW.out hP.b)
      have HWX2 := Aside0.mk (wfs_at HWF.out hlt)
      have HI := Aside0.mk (Bk.Inv.taken l0 kk (T := 900) (by omega))
      clear hP HB
      obtain ⟨ad, e, x0, x1, x2, x3, x4, x5, x6, x7, x8, x9, x10, x11, x12, x13, x14⟩ := at_T35 HC.out (kk : Int) (by omega) hltz
      subst e
      obtain ⟨xx, HX⟩ : ∃ x, Aside0 (x = rd_T35 l0 (kk : Int)) := ⟨_, ⟨rfl⟩⟩
      rw [← HX.out] at HWX2 x0 x1 x2 x3 x4 x5 x6 x7 x8 x9 x10 x11 x12 x13 x14
      rw [Int.toNat_natCast] at x0 x1 x2 x3 x4 x5 x6 x7 x8 x9 x10 x11 x12 x13 x14
      go_wp2_with fail
      refine (LB.do_ HP.out HI.out (Nat.le_refl _) xx HWX2.out).mono ?_
      rintro e w2 ⟨rfl, P2, h, _, _⟩
      have HB2 : Aside0 (∃ P, LB W0 P pb pm w2 (Bk.new.run (l0.take (kk + 1)))) := ⟨P2, by rw [run_take l0 hlt, ← HX.out]; exact h⟩
      clear h
      go_wp2_with fail
      go_roundg (l0.length - (kk + 1))
      case measure => omega
      case rel => exact ⟨kk + 1, by omega, by omega, by go_num, HB2⟩
    · have hltz : ¬ (kk : Int) < (l0.length : Int) := by omega
      have : kk = l0.length := by omega
      subst this
      obtain ⟨P, hP⟩ := HB.out
      rw [List.take_length] at hP
      have hI := Bk.Inv.taken l0 l0.length (T := 60) (by omega)
      rw [List.take_length] at hI
      generalize Bk.new.run l0 = B at hP hI Qhr
      have HP := Aside0.mk hP
      have HI := Aside0.mk hI
      clear HB hP hI
      have q := LB.All HP.out (HI.out.ok (by omega))
      go_wp2_with fail
      refine q.mono ?_
      clear q
      rintro e w2 ⟨v, rfl, hs, hb⟩
      change Kd.S k41 41 w2 wr.heap.size (fun _ => True) v B.all at hs
      obtain ⟨A1, c1, rfl⟩ := Kd.S_slice hs
      have HS1 := Aside0.mk hs
      have HLO := Aside0.mk HP.out.lo
      replace HP := Aside0.mk (HP.out.below hb)
      clear hs hb
      obtain ⟨rf, hrf⟩ := HI.out.findSome x.f3
      have HRF := Aside0.mk hrf
      clear hrf
      have HX := Aside0.mk (blk_below HX0.out HP.out.b)
      have x14 : w2.cell? ⟨w.heap.size, 14, none⟩ = some (.int .i64 x.f3) := (blk_cell HX.out 14).trans rfl
      have q := LB.Find HP.out x.f3 HWX.out rf HRF.out
      go_wp2_with fail
      refine q.mono ?_
      clear q
      rintro e w3 ⟨rfl, hb⟩
      replace HS1 := Aside0.mk (Kd.S_below HS1.out hb)
      replace HP := Aside0.mk (HP.out.below hb)
      clear hb x14 HX
      have HX := Aside0.mk (blk_below HX0.out HP.out.b)
      have x0 : w3.cell? ⟨w.heap.size, 0, none⟩ = some (.int .i64 x.f0) := (blk_cell HX.out 0).trans rfl
      have x1 : w3.cell? ⟨w.heap.size, 1, none⟩ = some (.int .i64 x.f1.f0) := (blk_cell HX.out 1).trans rfl
      have x2 : w3.cell? ⟨w.heap.size, 2, none⟩ = some (.int .i64 x.f1.f1) := (blk_cell HX.out 2).trans rfl
      have x3 : w3.cell? ⟨w.heap.size, 3, none⟩ = some (.int .i64 x.f1.f2) := (blk_cell HX.out 3).trans rfl
      have x4 : w3.cell? ⟨w.heap.size, 4, none⟩ = some (.int .i64 x.f1.f3) := (blk_cell HX.out 4).trans rfl
      have x5 : w3.cell? ⟨w.heap.size, 5, none⟩ = some (.int .i64 x.f1.f4) := (blk_cell HX.out 5).trans rfl
      have x6 : w3.cell? ⟨w.heap.size, 6, none⟩ = some (.int .i64 x.f1.f5) := (blk_cell HX.out 6).trans rfl
      have x7 : w3.cell? ⟨w.heap.size, 7, none⟩ = some (.int .i64 x.f1.f6) := (blk_cell HX.out 7).trans rfl
      have x8 : w3.cell? ⟨w.heap.size, 8, none⟩ = some (.int .i64 x.f1.f7) := (blk_cell HX.out 8).trans rfl
      have x9 : w3.cell? ⟨w.heap.size, 9, none⟩ = some (.int .i64 x.f1.f8) := (blk_cell HX.out 9).trans rfl
      have x10 : w3.cell? ⟨w.heap.size, 10, none⟩ = some (.int .i64 x.f1.f9) := (blk_cell HX.out 10).trans rfl
      have x11 : w3.cell? ⟨w.heap.size, 11, none⟩ = some (.int .i64 x.f1.f10) := (blk_cell HX.out 11).trans rfl
      have x12 : w3.cell? ⟨w.heap.size, 12, none⟩ = some (.int .i64 x.f1.f11) := (blk_cell HX.out 12).trans rfl
      have x13 : w3.cell? ⟨w.heap.size, 13, none⟩ = some (.int .i64 x.f2) := (blk_cell HX.out 13).trans rfl
      have x14 : w3.cell? ⟨w.heap.size, 14, none⟩ = some (.int .i64 x.f3) := (blk_cell HX.out 14).trans rfl
      have q := LB.do_ HP.out HI.out (by omega) x HWX.out
      have hno := @do_no B x
      have had := @do_add B x
      have hone := @do_one B 60 HI.out x
      have HI2 := Aside0.mk (HI.out.do_ x)
      generalize hd : B.do_ x = D at q hno had hone HI2 Qhr
      obtain ⟨B2, r2⟩ := D
      dsimp only at q hno had hone HI2 Qhr
      clear hd
      have HNO := Aside0.mk hno
      have HAD := Aside0.mk had
      have HONE := Aside0.mk hone
      clear hno had hone
      go_wp2_with fail
      refine q.mono ?_
      clear q
      rintro e w4 ⟨rfl, P4, h, hk, _⟩
      replace HS1 := Aside0.mk (Kd.S_kept (Kd.S_bound HS1.out) hk.k (fun k hk h => absurd ((HLO.out k h).2) (by have := hk.2.1; omega)))
      replace HP := Aside0.mk h
      clear h hk HLO HX x0 x1 x2 x3 x4 x5 x6 x7 x8 x9 x10 x11 x12 x13 x14
      have q := LB.All HP.out (HI2.out.ok (by omega))
      go_wp2_with fail
      refine q.mono ?_
      clear q
      rintro e w5 ⟨v, rfl, hs, hb⟩
      change Kd.S k41 41 w5 w4.heap.size (fun _ => True) v B2.all at hs
      obtain ⟨A2, c2, rfl⟩ := Kd.S_slice hs
      have HC1 := Aside0.mk (Kd.S_reads' (Kd.S_below HS1.out hb)).2
      have HC2 := Aside0.mk (Kd.S_reads' hs).2
      replace HP := Aside0.mk (HP.out.below hb)
      have HX := Aside0.mk (blk_below HX0.out HP.out.b)
      clear hs hb HS1
      have HF := Aside0.mk (HI.out.few (by omega))
      have HF2 := Aside0.mk (HI2.out.few (by omega))
      have HL := Aside0.mk HI.out.allLen
      have HL2 := Aside0.mk HI2.out.allLen
      have hr := Qhr.out
      have c3 := Qc3.out
      subst hr
      have x0 : w5.cell? ⟨w.heap.size, 0, none⟩ = some (.int .i64 x.f0) := (blk_cell HX.out 0).trans rfl
      have x2 : w5.cell? ⟨w.heap.size, 2, none⟩ = some (.int .i64 x.f1.f1) := (blk_cell HX.out 2).trans rfl
      have x13 : w5.cell? ⟨w.heap.size, 13, none⟩ = some (.int .i64 x.f2) := (blk_cell HX.out 13).trans rfl
      have x14 : w5.cell? ⟨w.heap.size, 14, none⟩ = some (.int .i64 x.f3) := (blk_cell HX.out 14).trans rfl
      have hk : x.f0 ≠ 0 := by omega
      have kb : (x.f0 == 0) = false := by simpa using hk
      obtain ⟨i, hD, hne⟩ := HONE.out hk rfl
      have hlen2 := hD.len
      rw [hlen2] at HC2 ⊢
      have HNE := Aside0.mk hne
      have hhi : i < B.all.length := hD.ilt
      have hn64 : B.all.length ≤ 64 := HL.out
      clear hk HNO HAD HONE hne hlen2
      obtain ⟨d, hd⟩ : ∃ d, d = !(eq41 (rd_T41 B2.all (i : Int)) (rd_T41 B.all (i : Int))) := ⟨_, rfl⟩
      have HDD := Aside0.mk hd
      clear hd
      have hid : lookId B x = rf.1 := by unfold lookId; rw [if_pos (.inl c3), HRF.out]; rfl
      rw [hid] at hD
      have k3 : (x.f0 != 3) = false := by rw [c3]; rfl
      clear c3 hid
      have hD := Aside0.mk hD
      skip
      go_wp2_with fail
      go_loopg [12, 13] B.all.length (fun gg v12 v13 wr2 => ∃ kk : Nat, kk ≤ B.all.length ∧ B.all.length - kk ≤ gg ∧ v13 = .int .i64 kk ∧ v12 = .int .i64 (chg i d kk) ∧ Aside0 (Below w5.heap.size w5 wr2))
      case atStart => exact ⟨0, Nat.zero_le _, by omega, rfl, by rw [chg_zero], ⟨Below.refl _ _⟩⟩
      case round =>
        clear x0 x2 x13 x14
        obtain ⟨kk, hkk, hg, rfl, rfl, HB⟩ := hrel
        by_cases hlt : kk < B.all.length
        · have hltz : (kk : Int) < (B.all.length : Int) := by omega
          obtain ⟨mad, mA, mc, mB, md, me, mx0, mx1, mx2, mx3, mx4, mx5, mx6, mx7, mx8, mx9, mx10, mx11, mx12, mx13, mx14, ml1, mC1, ml2, mC2⟩ := at_T41 (Kd.C_below HC2.out.2 HB.out) (kk : Int) (by omega) hltz
          obtain ⟨y, Hy⟩ : ∃ x_, Aside0 (x_ = rd_T41 B2.all (kk : Int)) := ⟨_, ⟨rfl⟩⟩
          rw [← Hy.out] at mx0 mx1 mx2 mx3 mx4 mx5 mx6 mx7 mx8 mx9 mx10 mx11 mx12 mx13 mx14 ml1 mC1 ml2 mC2
          rw [Int.toNat_natCast] at mx0 mx1 mx2 mx3 mx4 mx5 mx6 mx7 mx8 mx9 mx10 mx11 mx12 mx13 mx14
          subst me
          obtain ⟨lad, lA, lc, lB, ld, le, lx0, lx1, lx2, lx3, lx4, lx5, lx6, lx7, lx8, lx9, lx10, lx11, lx12, lx13, lx14, ll1, lC1, ll2, lC2⟩ := at_T41 (Kd.C_below HC1.out.2 HB.out) (kk : Int) (by omega) hltz
          obtain ⟨z, Hz⟩ : ∃ x_, Aside0 (x_ = rd_T41 B.all (kk : Int)) := ⟨_, ⟨rfl⟩⟩
          rw [← Hz.out] at lx0 lx1 lx2 lx3 lx4 lx5 lx6 lx7 lx8 lx9 lx10 lx11 lx12 lx13 lx14 ll1 lC1 ll2 lC2
          rw [Int.toNat_natCast] at lx0 lx1 lx2 lx3 lx4 lx5 lx6 lx7 lx8 lx9 lx10 lx11 lx12 lx13 lx14
          subst le
          have HM := Aside0.mk (And.intro ml1 (And.intro mC1 (And.intro ml2 mC2)))
          have HN := Aside0.mk (And.intro ll1 (And.intro lC1 (And.intro ll2 lC2)))
          clear ml1 mC1 ml2 mC2 ll1 lC1 ll2 lC2
          have HMX := Aside0.mk (And.intro mx0 (And.intro mx1 (And.intro mx2 (And.intro mx3 (And.intro mx4 (And.intro mx5 (And.intro mx6 (And.intro mx7 (And.intro mx8 (And.intro mx9 (And.intro mx10 (And.intro mx11 (And.intro mx12 (And.intro mx13 mx14))))))))))))))
          have HLX := Aside0.mk (And.intro lx0 (And.intro lx1 (And.intro lx2 (And.intro lx3 (And.intro lx4 (And.intro lx5 (And.intro lx6 (And.intro lx7 (And.intro lx8 (And.intro lx9 (And.intro lx10 (And.intro lx11 (And.intro lx12 (And.intro lx13 lx14))))))))))))))
          clear mx0 lx0 mx1 lx1 mx2 lx2 mx3 lx3 mx4 lx4 mx5 lx5 mx6 lx6 mx7 lx7 mx8 lx8 mx9 lx9 mx10 lx10 mx11 lx11 mx12 lx12 mx13 lx13 mx14 lx14
          have hfew : Few y := by rw [Hy.out]; exact HF2.out _ (rd41_mem (by have := hD.out.len; omega))
          have HFEW := Aside0.mk hfew
          clear hfew
          go_wp2_with fail
          refine Mono.start (fun ops hops => ?_)
          have HOPS := Aside0.mk hops
          clear hops
          have hB0 : okB ops 142 = true := by rw [HOPS.out]; kernel_rfl
          have hK0 : okK ops 142 [109, 110, 111, 112, 113, 114, 115, 116, 117] = true := by rw [HOPS.out]; kernel_rfl
          refine Reg.wp (Φ := fun i v _ => v = ([.slice (some mad) B.all.length c2, .int .i64 (kk : Int), .pointer (some (mad.add (kk * 15))), .agg #[.int .i64 y.f0.f0, .int .i64 y.f0.f1, .int .i64 y.f0.f2, .int .i64 y.f0.f3, .int .i64 y.f0.f4, .int .i64 y.f0.f5, .int .i64 y.f0.f6, .int .i64 y.f0.f7, .int .i64 y.f0.f8, .int .i64 y.f0.f9, .int .i64 y.f0.f10, .int .i64 y.f0.f11, .slice mA y.f1.length mc, .slice mB y.f2.length md, .bool y.f3], .slice (some lad) B.all.length c1, .int .i64 (kk : Int), .pointer (some (lad.add (kk * 15))), .agg #[.int .i64 z.f0.f0, .int .i64 z.f0.f1, .int .i64 z.f0.f2, .int .i64 z.f0.f3, .int .i64 z.f0.f4, .int .i64 z.f0.f5, .int .i64 z.f0.f6, .int .i64 z.f0.f7, .int .i64 z.f0.f8, .int .i64 z.f0.f9, .int .i64 z.f0.f10, .int .i64 z.f0.f11, .slice lA z.f1.length lc, .slice lB z.f2.length ld, .bool z.f3], .bool (eq41 y z)] : List Value).getD i undef) (Inv := fun w_ => Below wr.heap.size wr w_) (Reg.ofB rfl hB0 (fun _ _ _ _ _ h => h) (fun _ _ hb h => below_step h hb) ?_) (by kernel_rfl) (below_drew1 (Below.refl _ _)) ?_
          · intro i o d ho hd a w_ hf hI hk
            have hN : a.tmps.size = 142 := hf.size.trans rfl
            have hi : i < 9 := by
              have := (Array.getElem?_eq_some_iff.1 ho).1
              rw [HOPS.out] at this
              exact this
            obtain rfl | rfl | rfl | rfl | rfl | rfl | rfl | rfl | rfl : i = 0 ∨ i = 1 ∨ i = 2 ∨ i = 3 ∨ i = 4 ∨ i = 5 ∨ i = 6 ∨ i = 7 ∨ i = 8 := by omega
            · -- operation 0
              have h := ho
              rw [HOPS.out] at ho
              simp only [List.getElem?_toArray, List.getElem?_cons_succ, List.getElem?_cons_zero, List.append_eq, List.cons_append, List.nil_append, Option.some.injEq] at ho
              subst ho
              obtain rfl := Option.some.inj hd
              have b11 : a.tmps.getD 11 undef = .slice (some mad) B.all.length c2 := (hf.same 11 (by rw [HOPS.out]; exact not_dst (by kernel_rfl))).trans rfl
              exact step_value h rfl (wanted_none rfl) (run_move rfl) b11 (Below.refl _ _)
            · -- operation 1
              have h := ho
              rw [HOPS.out] at ho
              simp only [List.getElem?_toArray, List.getElem?_cons_succ, List.getElem?_cons_zero, List.append_eq, List.cons_append, List.nil_append, Option.some.injEq] at ho
              subst ho
              obtain rfl := Option.some.inj hd
              have b13 : a.tmps.getD 13 undef = .int .i64 (kk : Int) := (hf.same 13 (by rw [HOPS.out]; exact not_dst (by kernel_rfl))).trans rfl
              exact step_value h rfl (wanted_none rfl) (run_move rfl) b13 (Below.refl _ _)
            · -- operation 2
              have h := ho
              rw [HOPS.out] at ho
              simp only [List.getElem?_toArray, List.getElem?_cons_succ, List.getElem?_cons_zero, List.append_eq, List.cons_append, List.nil_append, Option.some.injEq] at ho
              subst ho
              obtain rfl := Option.some.inj hd
              have e0 : a.tmps.getD 109 undef = .slice (some mad) B.all.length c2 := known_eq (hk 0 (by kernel_rfl)) (by rw [HOPS.out]; rfl) rfl
              have e1 : a.tmps.getD 110 undef = .int .i64 (kk : Int) := known_eq (hk 1 (by kernel_rfl)) (by rw [HOPS.out]; rfl) rfl
              refine step_value h rfl (wanted_none rfl) (v := .pointer (some (mad.add (kk * 15)))) (w1 := w_) ?_ rfl (Below.refl _ _)
              have q0 := getq hN (by decide) e0
              have q1 := getq hN (by decide) e1
              clear hk h hN hf hI
              go_simp; try (intro h_; exact absurd h_ (by omega))
            · -- operation 3
              have h := ho
              rw [HOPS.out] at ho
              simp only [List.getElem?_toArray, List.getElem?_cons_succ, List.getElem?_cons_zero, List.append_eq, List.cons_append, List.nil_append, Option.some.injEq] at ho
              subst ho
              obtain rfl := Option.some.inj hd
              have e2 : a.tmps.getD 111 undef = .pointer (some (mad.add (kk * 15))) := known_eq (hk 2 (by kernel_rfl)) (by rw [HOPS.out]; rfl) rfl
              obtain ⟨mx0, mx1, mx2, mx3, mx4, mx5, mx6, mx7, mx8, mx9, mx10, mx11, mx12, mx13, mx14⟩ := HMX.out
              replace mx0 := pw_cell_below hI mx0
              replace mx1 := pw_cell_below hI mx1
              replace mx2 := pw_cell_below hI mx2
              replace mx3 := pw_cell_below hI mx3
              replace mx4 := pw_cell_below hI mx4
              replace mx5 := pw_cell_below hI mx5
              replace mx6 := pw_cell_below hI mx6
              replace mx7 := pw_cell_below hI mx7
              replace mx8 := pw_cell_below hI mx8
              replace mx9 := pw_cell_below hI mx9
              replace mx10 := pw_cell_below hI mx10
              replace mx11 := pw_cell_below hI mx11
              replace mx12 := pw_cell_below hI mx12
              replace mx13 := pw_cell_below hI mx13
              replace mx14 := pw_cell_below hI mx14
              refine step_value h rfl (wanted_none rfl) (v := .agg #[.int .i64 y.f0.f0, .int .i64 y.f0.f1, .int .i64 y.f0.f2, .int .i64 y.f0.f3, .int .i64 y.f0.f4, .int .i64 y.f0.f5, .int .i64 y.f0.f6, .int .i64 y.f0.f7, .int .i64 y.f0.f8, .int .i64 y.f0.f9, .int .i64 y.f0.f10, .int .i64 y.f0.f11, .slice mA y.f1.length mc, .slice mB y.f2.length md, .bool y.f3]) (w1 := w_) ?_ rfl (Below.refl _ _)
              have q2 := getq hN (by decide) e2
              clear hk h hN hf hI
              go_simp
            · -- operation 4
              have h := ho
              rw [HOPS.out] at ho
              simp only [List.getElem?_toArray, List.getElem?_cons_succ, List.getElem?_cons_zero, List.append_eq, List.cons_append, List.nil_append, Option.some.injEq] at ho
              subst ho
              obtain rfl := Option.some.inj hd
              have b7 : a.tmps.getD 7 undef = .slice (some lad) B.all.length c1 := (hf.same 7 (by rw [HOPS.out]; exact not_dst (by kernel_rfl))).trans rfl
              exact step_value h rfl (wanted_none rfl) (run_move rfl) b7 (Below.refl _ _)
            · -- operation 5
              have h := ho
              rw [HOPS.out] at ho
              simp only [List.getElem?_toArray, List.getElem?_cons_succ, List.getElem?_cons_zero, List.append_eq, List.cons_append, List.nil_append, Option.some.injEq] at ho
              subst ho
              obtain rfl := Option.some.inj hd
              have b13 : a.tmps.getD 13 undef = .int .i64 (kk : Int) := (hf.same 13 (by rw [HOPS.out]; exact not_dst (by kernel_rfl))).trans rfl
              exact step_value h rfl (wanted_none rfl) (run_move rfl) b13 (Below.refl _ _)
            · -- operation 6
              have h := ho
              rw [HOPS.out] at ho
              simp only [List.getElem?_toArray, List.getElem?_cons_succ, List.getElem?_cons_zero, List.append_eq, List.cons_append, List.nil_append, Option.some.injEq] at ho
              subst ho
              obtain rfl := Option.some.inj hd
              have e4 : a.tmps.getD 113 undef = .slice (some lad) B.all.length c1 := known_eq (hk 4 (by kernel_rfl)) (by rw [HOPS.out]; rfl) rfl
              have e5 : a.tmps.getD 114 undef = .int .i64 (kk : Int) := known_eq (hk 5 (by kernel_rfl)) (by rw [HOPS.out]; rfl) rfl
              refine step_value h rfl (wanted_none rfl) (v := .pointer (some (lad.add (kk * 15)))) (w1 := w_) ?_ rfl (Below.refl _ _)
              have q4 := getq hN (by decide) e4
              have q5 := getq hN (by decide) e5
              clear hk h hN hf hI
              go_simp; try (intro h_; exact absurd h_ (by omega))
            · -- operation 7
              have h := ho
              rw [HOPS.out] at ho
              simp only [List.getElem?_toArray, List.getElem?_cons_succ, List.getElem?_cons_zero, List.append_eq, List.cons_append, List.nil_append, Option.some.injEq] at ho
              subst ho
              obtain rfl := Option.some.inj hd
              have e6 : a.tmps.getD 115 undef = .pointer (some (lad.add (kk * 15))) := known_eq (hk 6 (by kernel_rfl)) (by rw [HOPS.out]; rfl) rfl
              obtain ⟨lx0, lx1, lx2, lx3, lx4, lx5, lx6, lx7, lx8, lx9, lx10, lx11, lx12, lx13, lx14⟩ := HLX.out
              replace lx0 := pw_cell_below hI lx0
              replace lx1 := pw_cell_below hI lx1
              replace lx2 := pw_cell_below hI lx2
              replace lx3 := pw_cell_below hI lx3
              replace lx4 := pw_cell_below hI lx4
              replace lx5 := pw_cell_below hI lx5
              replace lx6 := pw_cell_below hI lx6
              replace lx7 := pw_cell_below hI lx7
              replace lx8 := pw_cell_below hI lx8
              replace lx9 := pw_cell_below hI lx9
              replace lx10 := pw_cell_below hI lx10
              replace lx11 := pw_cell_below hI lx11
              replace lx12 := pw_cell_below hI lx12
              replace lx13 := pw_cell_below hI lx13
              replace lx14 := pw_cell_below hI lx14
              refine step_value h rfl (wanted_none rfl) (v := .agg #[.int .i64 z.f0.f0, .int .i64 z.f0.f1, .int .i64 z.f0.f2, .int .i64 z.f0.f3, .int .i64 z.f0.f4, .int .i64 z.f0.f5, .int .i64 z.f0.f6, .int .i64 z.f0.f7, .int .i64 z.f0.f8, .int .i64 z.f0.f9, .int .i64 z.f0.f10, .int .i64 z.f0.f11, .slice lA z.f1.length lc, .slice lB z.f2.length ld, .bool z.f3]) (w1 := w_) ?_ rfl (Below.refl _ _)
              have q6 := getq hN (by decide) e6
              clear hk h hN hf hI
              go_simp
            · -- operation 8
              have h := ho
              rw [HOPS.out] at ho
              simp only [List.getElem?_toArray, List.getElem?_cons_succ, List.getElem?_cons_zero, List.append_eq, List.cons_append, List.nil_append, Option.some.injEq] at ho
              subst ho
              obtain rfl := Option.some.inj hd
              have e3 : a.tmps.getD 112 undef = .agg #[.int .i64 y.f0.f0, .int .i64 y.f0.f1, .int .i64 y.f0.f2, .int .i64 y.f0.f3, .int .i64 y.f0.f4, .int .i64 y.f0.f5, .int .i64 y.f0.f6, .int .i64 y.f0.f7, .int .i64 y.f0.f8, .int .i64 y.f0.f9, .int .i64 y.f0.f10, .int .i64 y.f0.f11, .slice mA y.f1.length mc, .slice mB y.f2.length md, .bool y.f3] := known_eq (hk 3 (by kernel_rfl)) (by rw [HOPS.out]; rfl) rfl
              have e7 : a.tmps.getD 116 undef = .agg #[.int .i64 z.f0.f0, .int .i64 z.f0.f1, .int .i64 z.f0.f2, .int .i64 z.f0.f3, .int .i64 z.f0.f4, .int .i64 z.f0.f5, .int .i64 z.f0.f6, .int .i64 z.f0.f7, .int .i64 z.f0.f8, .int .i64 z.f0.f9, .int .i64 z.f0.f10, .int .i64 z.f0.f11, .slice lA z.f1.length lc, .slice lB z.f2.length ld, .bool z.f3] := known_eq (hk 7 (by kernel_rfl)) (by rw [HOPS.out]; rfl) rfl
              exact step_call h rfl (wanted_none rfl) Try.func22 (by kernel_rfl) rfl #[.agg #[.int .i64 y.f0.f0, .int .i64 y.f0.f1, .int .i64 y.f0.f2, .int .i64 y.f0.f3, .int .i64 y.f0.f4, .int .i64 y.f0.f5, .int .i64 y.f0.f6, .int .i64 y.f0.f7, .int .i64 y.f0.f8, .int .i64 y.f0.f9, .int .i64 y.f0.f10, .int .i64 y.f0.f11, .slice mA y.f1.length mc, .slice mB y.f2.length md, .bool y.f3], .agg #[.int .i64 z.f0.f0, .int .i64 z.f0.f1, .int .i64 z.f0.f2, .int .i64 z.f0.f3, .int .i64 z.f0.f4, .int .i64 z.f0.f5, .int .i64 z.f0.f6, .int .i64 z.f0.f7, .int .i64 z.f0.f8, .int .i64 z.f0.f9, .int .i64 z.f0.f10, .int .i64 z.f0.f11, .slice lA z.f1.length lc, .slice lB z.f2.length ld, .bool z.f3]] rfl (by simp only [List.map_toArray, List.map_cons, List.map_nil, Act.eval, e3, e7]) ((sameOne_calls y z HFEW.out w_ (Kd.C_below HM.out.2.1 hI) HM.out.1 (Kd.C_below HM.out.2.2.2 hI) HM.out.2.2.1 (Kd.C_below HN.out.2.1 hI) HN.out.1 (Kd.C_below HN.out.2.2.2 hI) HN.out.2.2.1).mono fun e w' ⟨he, hb⟩ => ⟨_, he, rfl, hb⟩)
          intro a w_ hf hI hk
          have e0 : a.tmps.getD 109 undef = .slice (some mad) B.all.length c2 := known_eq (hk 0 (by rw [HOPS.out]; decide)) (by rw [HOPS.out]; rfl) rfl
          have e1 : a.tmps.getD 110 undef = .int .i64 (kk : Int) := known_eq (hk 1 (by rw [HOPS.out]; decide)) (by rw [HOPS.out]; rfl) rfl
          have e2 : a.tmps.getD 111 undef = .pointer (some (mad.add (kk * 15))) := known_eq (hk 2 (by rw [HOPS.out]; decide)) (by rw [HOPS.out]; rfl) rfl
          have e3 : a.tmps.getD 112 undef = .agg #[.int .i64 y.f0.f0, .int .i64 y.f0.f1, .int .i64 y.f0.f2, .int .i64 y.f0.f3, .int .i64 y.f0.f4, .int .i64 y.f0.f5, .int .i64 y.f0.f6, .int .i64 y.f0.f7, .int .i64 y.f0.f8, .int .i64 y.f0.f9, .int .i64 y.f0.f10, .int .i64 y.f0.f11, .slice mA y.f1.length mc, .slice mB y.f2.length md, .bool y.f3] := known_eq (hk 3 (by rw [HOPS.out]; decide)) (by rw [HOPS.out]; rfl) rfl
          have e4 : a.tmps.getD 113 undef = .slice (some lad) B.all.length c1 := known_eq (hk 4 (by rw [HOPS.out]; decide)) (by rw [HOPS.out]; rfl) rfl
          have e5 : a.tmps.getD 114 undef = .int .i64 (kk : Int) := known_eq (hk 5 (by rw [HOPS.out]; decide)) (by rw [HOPS.out]; rfl) rfl
          have e6 : a.tmps.getD 115 undef = .pointer (some (lad.add (kk * 15))) := known_eq (hk 6 (by rw [HOPS.out]; decide)) (by rw [HOPS.out]; rfl) rfl
          have e7 : a.tmps.getD 116 undef = .agg #[.int .i64 z.f0.f0, .int .i64 z.f0.f1, .int .i64 z.f0.f2, .int .i64 z.f0.f3, .int .i64 z.f0.f4, .int .i64 z.f0.f5, .int .i64 z.f0.f6, .int .i64 z.f0.f7, .int .i64 z.f0.f8, .int .i64 z.f0.f9, .int .i64 z.f0.f10, .int .i64 z.f0.f11, .slice lA z.f1.length lc, .slice lB z.f2.length ld, .bool z.f3] := known_eq (hk 7 (by rw [HOPS.out]; decide)) (by rw [HOPS.out]; rfl) rfl
          have e8 : a.tmps.getD 117 undef = .bool (eq41 y z) := known_eq (hk 8 (by rw [HOPS.out]; decide)) (by rw [HOPS.out]; rfl) rfl
          have E := toPuts hf [(109, .slice (some mad) B.all.length c2), (110, .int .i64 (kk : Int)), (111, .pointer (some (mad.add (kk * 15)))), (112, .agg #[.int .i64 y.f0.f0, .int .i64 y.f0.f1, .int .i64 y.f0.f2, .int .i64 y.f0.f3, .int .i64 y.f0.f4, .int .i64 y.f0.f5, .int .i64 y.f0.f6, .int .i64 y.f0.f7, .int .i64 y.f0.f8, .int .i64 y.f0.f9, .int .i64 y.f0.f10, .int .i64 y.f0.f11, .slice mA y.f1.length mc, .slice mB y.f2.length md, .bool y.f3]), (113, .slice (some lad) B.all.length c1), (114, .int .i64 (kk : Int)), (115, .pointer (some (lad.add (kk * 15)))), (116, .agg #[.int .i64 z.f0.f0, .int .i64 z.f0.f1, .int .i64 z.f0.f2, .int .i64 z.f0.f3, .int .i64 z.f0.f4, .int .i64 z.f0.f5, .int .i64 z.f0.f6, .int .i64 z.f0.f7, .int .i64 z.f0.f8, .int .i64 z.f0.f9, .int .i64 z.f0.f10, .int .i64 z.f0.f11, .slice lA z.f1.length lc, .slice lB z.f2.length ld, .bool z.f3]), (117, .bool (eq41 y z))] [109, 110, 111, 112, 113, 114, 115, 116, 117] rfl rfl hK0 (List.forall_mem_cons.2 ⟨e0, (List.forall_mem_cons.2 ⟨e1, (List.forall_mem_cons.2 ⟨e2, (List.forall_mem_cons.2 ⟨e3, (List.forall_mem_cons.2 ⟨e4, (List.forall_mem_cons.2 ⟨e5, (List.forall_mem_cons.2 ⟨e6, (List.forall_mem_cons.2 ⟨e7, (List.forall_mem_cons.2 ⟨e8, (fun _ h_ => by cases h_)⟩)⟩)⟩)⟩)⟩)⟩)⟩)⟩)⟩)
          clear e0 e1 e2 e3 e4 e5 e6 e7 e8 hk hf HOPS hB0 hK0
          subst E
          simp only [puts, Act.put, List.setIfInBounds_toArray, List.set_cons_succ, List.set_cons_zero]
          have HB2 := Aside0.mk (below_step HB.out hI)
          have mx0 := pw_cell_below hI HMX.out.1
          clear hI
          cases hq : eq41 y z with
          | true =>
            have HQ := Aside0.mk hq
            clear hq
            go_wp2_with fail
            go_roundg (B.all.length - (kk + 1))
            case measure => omega
            case rel => exact ⟨kk + 1, by omega, by omega, by go_num, by rw [chg_same (by rintro rfl; rw [HDD.out, ← Hy.out, ← Hz.out, HQ.out]; rfl)], HB2⟩
          | false =>
            have hki : kk = i := Classical.byContradiction (fun hc => by have h_ := hD.out.same kk hlt hc; rw [← Hy.out, ← Hz.out] at h_; rw [h_, eq41_refl] at hq; cases hq)
            subst hki
            have hdt : d = true := by rw [HDD.out, ← Hy.out, ← Hz.out, hq]; rfl
            have hyid : y.f0.f0 = rf.1 := by rw [Hy.out]; exact hD.out.id
            have hc0 : chg kk d kk = 0 := by unfold chg; rw [if_neg (by omega)]
            have hyb : (y.f0.f0 != rf.1) = false := by rw [hyid]; exact bne_self_eq_false _
            rw [hc0]
            clear hq hyid
            go_wp2_with fail
            go_roundg (B.all.length - (kk + 1))
            case measure => omega
            case rel => exact ⟨kk + 1, by omega, by omega, by go_num, by rw [hdt]; unfold chg; rw [if_pos ⟨by omega, rfl⟩], HB2⟩
        · have hltz : ¬ (kk : Int) < (B.all.length : Int) := by omega
          have : kk = B.all.length := by omega
          subst this
          have HPE := Aside0.mk (HP.out.below HB.out)
          have HXE := Aside0.mk (blk_below HX.out HB.out)
          have x0 : wr.cell? ⟨w.heap.size, 0, none⟩ = some (.int .i64 x.f0) := (blk_cell HXE.out 0).trans rfl
          cases hd : d with
          | true =>
            have hc1 : chg i true B.all.length = 1 := by unfold chg; rw [if_pos ⟨hhi, rfl⟩]
            rw [hc1]
            go_wp2_with fail
            refine (aw_all _).mono ?_
            rintro e w9 ⟨rfl, hb⟩
            go_wp2
            go_ret
            exact ⟨rfl, below_step HW0.out (below_step HPE.out.b hb)⟩
          | false =>
            have hc1 : chg i false B.all.length = 0 := by unfold chg; rw [if_neg (fun h => by cases h.2)]
            have h1 : x.f0 = 1 := Classical.byContradiction (fun hc => by have h2 := HNE.out hc; have h3 := HDD.out; rw [hd] at h3; exact h2 (eq41_iff.1 (by simpa using h3.symm)))
            have h1b : (x.f0 == 1) = true := by rw [h1]; rfl
            clear h1
            rw [hc1]
            go_wp2_with fail
            refine (aw_all _).mono ?_
            rintro e w9 ⟨rfl, hb⟩
            go_wp2
            go_ret
            exact ⟨rfl, below_step HW0.out (below_step HPE.out.b hb)⟩
open Mono in
set_option maxHeartbeats 16000000 in
set_option maxRecDepth 100000 in
theorem OrderRefused_w4 (A0 : Option Addr) (c0 : Nat) (l0 : List S35) (x : S35) (w : World) (hr0 : Kd.C k35 w A0 l0.length l0) (hc0 : l0.length ≤ c0) (hwf : wfs l0 = true) (hwx : (Lit.int .i64 x.f3).wf = true) (hN : ¬ 60 < l0.length) (hr : ((Bk.new.run l0).do_ x).2 = 0) (c4 : x.f0 = 4) :
    Calls Try.prog 8 #[.slice A0 l0.length c0, .agg #[.int .i64 x.f0, .int .i64 x.f1.f0, .int .i64 x.f1.f1, .int .i64 x.f1.f2, .int .i64 x.f1.f3, .int .i64 x.f1.f4, .int .i64 x.f1.f5, .int .i64 x.f1.f6, .int .i64 x.f1.f7, .int .i64 x.f1.f8, .int .i64 x.f1.f9, .int .i64 x.f1.f10, .int .i64 x.f1.f11, .int .i64 x.f2, .int .i64 x.f3]] w fun e w' => e = .returned (.bool true) ∧ Below w.heap.size w w' := by
  have hu35 := Try.underlying35
  have hu23 := Try.underlying23
  have hu41 := Try.underlying41
  have hlen := hr0.2.1
  have HR0 := Aside0.mk hr0
  have HC0 := Aside0.mk hc0
  have HWF := Aside0.mk hwf
  clear hr0 hc0 hwf
  have HWX := Aside0.mk hwx
  clear hwx
  have c1b : decide ((60 : Int) < (l0.length : Int)) = false := decide_eq_false (by omega)
  have c1n : decide (60 < l0.length) = false := decide_eq_false hN
  have c1m := eq_false hN
  have Qhr := Aside0.mk hr
  have Qc4 := Aside0.mk c4
  clear hr c4
  go_enter Try.func8, Try.ntmps8
  go_wp2_with fail
  refine (LB.new _ _ (Below.refl _ _)).mono ?_
  rintro e w1 ⟨P0, pb, pm, rfl, h, _, _⟩
  have HX0 := Aside0.mk (blk_new w (.cells #[.int .i64 x.f0, .int .i64 x.f1.f0, .int .i64 x.f1.f1, .int .i64 x.f1.f2, .int .i64 x.f1.f3, .int .i64 x.f1.f4, .int .i64 x.f1.f5, .int .i64 x.f1.f6, .int .i64 x.f1.f7, .int .i64 x.f1.f8, .int .i64 x.f1.f9, .int .i64 x.f1.f10, .int .i64 x.f1.f11, .int .i64 x.f2, .int .i64 x.f3] 35))
  have HW0 := Aside0.mk (below_alloc (Below.refl w.heap.size w) (.cells #[.int .i64 x.f0, .int .i64 x.f1.f0, .int .i64 x.f1.f1, .int .i64 x.f1.f2, .int .i64 x.f1.f3, .int .i64 x.f1.f4, .int .i64 x.f1.f5, .int .i64 x.f1.f6, .int .i64 x.f1.f7, .int .i64 x.f1.f8, .int .i64 x.f1.f9, .int .i64 x.f1.f10, .int .i64 x.f1.f11, .int .i64 x.f2, .int .i64 x.f3] 35))
  have HRW := Aside0.mk (Kd.C_alloc HR0.out (.cells #[.int .i64 x.f0, .int .i64 x.f1.f0, .int .i64 x.f1.f1, .int .i64 x.f1.f2, .int .i64 x.f1.f3, .int .i64 x.f1.f4, .int .i64 x.f1.f5, .int .i64 x.f1.f6, .int .i64 x.f1.f7, .int .i64 x.f1.f8, .int .i64 x.f1.f9, .int .i64 x.f1.f10, .int .i64 x.f1.f11, .int .i64 x.f2, .int .i64 x.f3] 35))
  have hwl : w.heap.size < (w.alloc (.cells #[.int .i64 x.f0, .int .i64 x.f1.f0, .int .i64 x.f1.f1, .int .i64 x.f1.f2, .int .i64 x.f1.f3, .int .i64 x.f1.f4, .int .i64 x.f1.f5, .int .i64 x.f1.f6, .int .i64 x.f1.f7, .int .i64 x.f1.f8, .int .i64 x.f1.f9, .int .i64 x.f1.f10, .int .i64 x.f1.f11, .int .i64 x.f2, .int .i64 x.f3] 35)).heap.size := blk_lt HX0.out
  generalize w.alloc (.cells #[.int .i64 x.f0, .int .i64 x.f1.f0, .int .i64 x.f1.f1, .int .i64 x.f1.f2, .int .i64 x.f1.f3, .int .i64 x.f1.f4, .int .i64 x.f1.f5, .int .i64 x.f1.f6, .int .i64 x.f1.f7, .int .i64 x.f1.f8, .int .i64 x.f1.f9, .int .i64 x.f1.f10, .int .i64 x.f1.f11, .int .i64 x.f2, .int .i64 x.f3] 35) = W0 at h HX0 HW0 HRW hwl ⊢
  have H1 : Aside0 (∃ P, LB W0 P pb pm w1 (Bk.new.run (l0.take 0))) := ⟨P0, h⟩
  clear h
  go_wp2_with fail
  go_loopg [6] l0.length (fun gg v6 wr => ∃ kk : Nat, kk ≤ l0.length ∧ l0.length - kk ≤ gg ∧ v6 = .int .i64 kk ∧ Aside0 (∃ P, LB W0 P pb pm wr (Bk.new.run (l0.take kk))))
  case atStart => exact ⟨0, Nat.zero_le _, by omega, rfl, H1⟩
  case round =>
    clear H1
    obtain ⟨kk, hkk, hg, rfl, HB⟩ := hrel
    by_cases hlt : kk < l0.length
    · have hltz : (kk : Int) < (l0.length : Int) := by omega
      obtain ⟨P, hP⟩ := HB.out
      have HP := Aside0.mk hP
      have HC := Aside0.mk (Kd.C_below HRW.out hP.b)
      have HWX2 := Aside0.mk (wfs_at HWF.out hlt)
      have HI := Aside0.mk (Bk.Inv.taken l0 kk (T := 900) (by omega))
      clear hP HB
      obtain ⟨ad, e, x0, x1, x2, x3, x4, x5, x6, x7, x8, x9, x10, x11, x12, x13, x14⟩ := at_T35 HC.out (kk : Int) (by omega) hltz
      subst e
      obtain ⟨xx, HX⟩ : ∃ x, Aside0 (x = rd_T35 l0 (kk : Int)) := ⟨_, ⟨rfl⟩⟩
      rw [← HX.out] at HWX2 x0 x1 x2 x3 x4 x5 x6 x7 x8 x9 x10 x11 x12 x13 x14
      rw [Int.toNat_natCast] at x0 x1 x2 x3 x4 x5 x6 x7 x8 x9 x10 x11 x12 x13 x14
      go_wp2_with fail
      refine (LB.do_ HP.out HI.out (Nat.le_refl _) xx HWX2.out).mono ?_
      rintro e w2 ⟨rfl, P2, h, _, _⟩
      have HB2 : Aside0 (∃ P, LB W0 P pb pm w2 (Bk.new.run (l0.take (kk + 1)))) := ⟨P2, by rw [run_take l0 hlt, ← HX.out]; exact h⟩
      clear h
      go_wp2_with fail
      go_roundg (l0.length - (kk + 1))
      case measure => omega
      case rel => exact ⟨kk + 1, by omega, by omega, by go_num, HB2⟩
    · have hltz : ¬ (kk : Int) < (l0.length : Int) := by omega
      have : kk = l0.length := by omega
      subst this
      obtain ⟨P, hP⟩ := HB.out
      rw [List.take_length] at hP
      have hI := Bk.Inv.taken l0 l0.length (T := 60) (by omega)
      rw [List.take_length] at hI
      generalize Bk.new.run l0 = B at hP hI Qhr
      have HP := Aside0.mk hP
      have HI := Aside0.mk hI
      clear HB hP hI
      have q := LB.All HP.out (HI.out.ok (by omega))
      go_wp2_with fail
      refine q.mono ?_
      clear q
      rintro e w2 ⟨v, rfl, hs, hb⟩
      change Kd.S k41 41 w2 wr.heap.size (fun _ => True) v B.all at hs
      obtain ⟨A1, c1, rfl⟩ := Kd.S_slice hs
      have HS1 := Aside0.mk hs
      have HLO := Aside0.mk HP.out.lo
      replace HP := Aside0.mk (HP.out.below hb)
      clear hs hb
      obtain ⟨rf, hrf⟩ := HI.out.findSome x.f3
      have HRF := Aside0.mk hrf
      clear hrf
      have HX := Aside0.mk (blk_below HX0.out HP.out.b)
      have x14 : w2.cell? ⟨w.heap.size, 14, none⟩ = some (.int .i64 x.f3) := (blk_cell HX.out 14).trans rfl
      have q := LB.Find HP.out x.f3 HWX.out rf HRF.out
      go_wp2_with fail
      refine q.mono ?_
      clear q
      rintro e w3 ⟨rfl, hb⟩
      replace HS1 := Aside0.mk (Kd.S_below HS1.out hb)
      replace HP := Aside0.mk (HP.out.below hb)
      clear hb x14 HX
      have HX := Aside0.mk (blk_below HX0.out HP.out.b)
      have x0 : w3.cell? ⟨w.heap.size, 0, none⟩ = some (.int .i64 x.f0) := (blk_cell HX.out 0).trans rfl
      have x1 : w3.cell? ⟨w.heap.size, 1, none⟩ = some (.int .i64 x.f1.f0) := (blk_cell HX.out 1).trans rfl
      have x2 : w3.cell? ⟨w.heap.size, 2, none⟩ = some (.int .i64 x.f1.f1) := (blk_cell HX.out 2).trans rfl
      have x3 : w3.cell? ⟨w.heap.size, 3, none⟩ = some (.int .i64 x.f1.f2) := (blk_cell HX.out 3).trans rfl
      have x4 : w3.cell? ⟨w.heap.size, 4, none⟩ = some (.int .i64 x.f1.f3) := (blk_cell HX.out 4).trans rfl
      have x5 : w3.cell? ⟨w.heap.size, 5, none⟩ = some (.int .i64 x.f1.f4) := (blk_cell HX.out 5).trans rfl
      have x6 : w3.cell? ⟨w.heap.size, 6, none⟩ = some (.int .i64 x.f1.f5) := (blk_cell HX.out 6).trans rfl
      have x7 : w3.cell? ⟨w.heap.size, 7, none⟩ = some (.int .i64 x.f1.f6) := (blk_cell HX.out 7).trans rfl
      have x8 : w3.cell? ⟨w.heap.size, 8, none⟩ = some (.int .i64 x.f1.f7) := (blk_cell HX.out 8).trans rfl
      have x9 : w3.cell? ⟨w.heap.size, 9, none⟩ = some (.int .i64 x.f1.f8) := (blk_cell HX.out 9).trans rfl
      have x10 : w3.cell? ⟨w.heap.size, 10, none⟩ = some (.int .i64 x.f1.f9) := (blk_cell HX.out 10).trans rfl
      have x11 : w3.cell? ⟨w.heap.size, 11, none⟩ = some (.int .i64 x.f1.f10) := (blk_cell HX.out 11).trans rfl
      have x12 : w3.cell? ⟨w.heap.size, 12, none⟩ = some (.int .i64 x.f1.f11) := (blk_cell HX.out 12).trans rfl
      have x13 : w3.cell? ⟨w.heap.size, 13, none⟩ = some (.int .i64 x.f2) := (blk_cell HX.out 13).trans rfl
      have x14 : w3.cell? ⟨w.heap.size, 14, none⟩ = some (.int .i64 x.f3) := (blk_cell HX.out 14).trans rfl
      have q := LB.do_ HP.out HI.out (by omega) x HWX.out
      have hno := @do_no B x
      have had := @do_add B x
      have hone := @do_one B 60 HI.out x
      have HI2 := Aside0.mk (HI.out.do_ x)
      generalize hd : B.do_ x = D at q hno had hone HI2 Qhr
      obtain ⟨B2, r2⟩ := D
      dsimp only at q hno had hone HI2 Qhr
      clear hd
      have HNO := Aside0.mk hno
      have HAD := Aside0.mk had
      have HONE := Aside0.mk hone
      clear hno had hone
      go_wp2_with fail
      refine q.mono ?_
      clear q
      rintro e w4 ⟨rfl, P4, h, hk, _⟩
      replace HS1 := Aside0.mk (Kd.S_kept (Kd.S_bound HS1.out) hk.k (fun k hk h => absurd ((HLO.out k h).2) (by have := hk.2.1; omega)))
      replace HP := Aside0.mk h
      clear h hk HLO HX x0 x1 x2 x3 x4 x5 x6 x7 x8 x9 x10 x11 x12 x13 x14
      have q := LB.All HP.out (HI2.out.ok (by omega))
      go_wp2_with fail
      refine q.mono ?_
      clear q
      rintro e w5 ⟨v, rfl, hs, hb⟩
      change Kd.S k41 41 w5 w4.heap.size (fun _ => True) v B2.all at hs
      obtain ⟨A2, c2, rfl⟩ := Kd.S_slice hs
      have HC1 := Aside0.mk (Kd.S_reads' (Kd.S_below HS1.out hb)).2
      have HC2 := Aside0.mk (Kd.S_reads' hs).2
      replace HP := Aside0.mk (HP.out.below hb)
      have HX := Aside0.mk (blk_below HX0.out HP.out.b)
      clear hs hb HS1
      have HF := Aside0.mk (HI.out.few (by omega))
      have HF2 := Aside0.mk (HI2.out.few (by omega))
      have HL := Aside0.mk HI.out.allLen
      have HL2 := Aside0.mk HI2.out.allLen
      have hr := Qhr.out
      have c4 := Qc4.out
      subst hr
      have x0 : w5.cell? ⟨w.heap.size, 0, none⟩ = some (.int .i64 x.f0) := (blk_cell HX.out 0).trans rfl
      have x2 : w5.cell? ⟨w.heap.size, 2, none⟩ = some (.int .i64 x.f1.f1) := (blk_cell HX.out 2).trans rfl
      have x13 : w5.cell? ⟨w.heap.size, 13, none⟩ = some (.int .i64 x.f2) := (blk_cell HX.out 13).trans rfl
      have x14 : w5.cell? ⟨w.heap.size, 14, none⟩ = some (.int .i64 x.f3) := (blk_cell HX.out 14).trans rfl
      have hk : x.f0 ≠ 0 := by omega
      have kb : (x.f0 == 0) = false := by simpa using hk
      obtain ⟨i, hD, hne⟩ := HONE.out hk rfl
      have hlen2 := hD.len
      rw [hlen2] at HC2 ⊢
      have HNE := Aside0.mk hne
      have hhi : i < B.all.length := hD.ilt
      have hn64 : B.all.length ≤ 64 := HL.out
      clear hk HNO HAD HONE hne hlen2
      obtain ⟨d, hd⟩ : ∃ d, d = !(eq41 (rd_T41 B2.all (i : Int)) (rd_T41 B.all (i : Int))) := ⟨_, rfl⟩
      have HDD := Aside0.mk hd
      clear hd
      have c3 : x.f0 ≠ 3 := by omega
      have k3 : (x.f0 != 3) = true := bne_iff_ne.mpr c3
      have hid : lookId B x = rf.1 := by unfold lookId; rw [if_pos (.inr c4), HRF.out]; rfl
      rw [hid] at hD
      have k4 : (x.f0 != 4) = false := by rw [c4]; rfl
      clear c4 hid
      have hD := Aside0.mk hD
      skip
      go_wp2_with fail
      go_loopg [12, 13] B.all.length (fun gg v12 v13 wr2 => ∃ kk : Nat, kk ≤ B.all.length ∧ B.all.length - kk ≤ gg ∧ v13 = .int .i64 kk ∧ v12 = .int .i64 (chg i d kk) ∧ Aside0 (Below w5.heap.size w5 wr2))
      case atStart => exact ⟨0, Nat.zero_le _, by omega, rfl, by rw [chg_zero], ⟨Below.refl _ _⟩⟩
      case round =>
        clear x0 x2 x13 x14
        obtain ⟨kk, hkk, hg, rfl, rfl, HB⟩ := hrel
        by_cases hlt : kk < B.all.length
        · have hltz : (kk : Int) < (B.all.length : Int) := by omega
          obtain ⟨mad, mA, mc, mB, md, me, mx0, mx1, mx2, mx3, mx4, mx5, mx6, mx7, mx8, mx9, mx10, mx11, mx12, mx13, mx14, ml1, mC1, ml2, mC2⟩ := at_T41 (Kd.C_below HC2.out.2 HB.out) (kk : Int) (by omega) hltz
          obtain ⟨y, Hy⟩ : ∃ x_, Aside0 (x_ = rd_T41 B2.all (kk : Int)) := ⟨_, ⟨rfl⟩⟩
          rw [← Hy.out] at mx0 mx1 mx2 mx3 mx4 mx5 mx6 mx7 mx8 mx9 mx10 mx11 mx12 mx13 mx14 ml1 mC1 ml2 mC2
          rw [Int.toNat_natCast] at mx0 mx1 mx2 mx3 mx4 mx5 mx6 mx7 mx8 mx9 mx10 mx11 mx12 mx13 mx14
          subst me
          obtain ⟨lad, lA, lc, lB, ld, le, lx0, lx1, lx2, lx3, lx4, lx5, lx6, lx7, lx8, lx9, lx10, lx11, lx12, lx13, lx14, ll1, lC1, ll2, lC2⟩ := at_T41 (Kd.C_below HC1.out.2 HB.out) (kk : Int) (by omega) hltz
          obtain ⟨z, Hz⟩ : ∃ x_, Aside0 (x_ = rd_T41 B.all (kk : Int)) := ⟨_, ⟨rfl⟩⟩
          rw [← Hz.out] at lx0 lx1 lx2 lx3 lx4 lx5 lx6 lx7 lx8 lx9 lx10 lx11 lx12 lx13 lx14 ll1 lC1 ll2 lC2
          rw [Int.toNat_natCast] at lx0 lx1 lx2 lx3 lx4 lx5 lx6 lx7 lx8 lx9 lx10 lx11 lx12 lx13 lx14
          subst le
          have HM := Aside0.mk (And.intro ml1 (And.intro mC1 (And.intro ml2 mC2)))
          have HN := Aside0.mk (And.intro ll1 (And.intro lC1 (And.intro ll2 lC2)))
          clear ml1 mC1 ml2 mC2 ll1 lC1 ll2 lC2
          have HMX := Aside0.mk (And.intro mx0 (And.intro mx1 (And.intro mx2 (And.intro mx3 (And.intro mx4 (And.intro mx5 (And.intro mx6 (And.intro mx7 (And.intro mx8 (And.intro mx9 (And.intro mx10 (And.intro mx11 (And.intro mx12 (And.intro mx13 mx14))))))))))))))
          have HLX := Aside0.mk (And.intro lx0 (And.intro lx1 (And.intro lx2 (And.intro lx3 (And.intro lx4 (And.intro lx5 (And.intro lx6 (And.intro lx7 (And.intro lx8 (And.intro lx9 (And.intro lx10 (And.intro lx11 (And.intro lx12 (And.intro lx13 lx14))))))))))))))
          clear mx0 lx0 mx1 lx1 mx2 lx2 mx3 lx3 mx4 lx4 mx5 lx5 mx6 lx6 mx7 lx7 mx8 lx8 mx9 lx9 mx10 lx10 mx11 lx11 mx12 lx12 mx13 lx13 mx14 lx14
          have hfew : Few y := by rw [Hy.out]; exact HF2.out _ (rd41_mem (by have := hD.out.len; omega))
          have HFEW := Aside0.mk hfew
          clear hfew
          go_wp2_with fail
          refine Mono.start (fun ops hops => ?_)
          have HOPS := Aside0.mk hops
          clear hops
          have hB0 : okB ops 142 = true := by rw [HOPS.out]; kernel_rfl
          have hK0 : okK ops 142 [109, 110, 111, 112, 113, 114, 115, 116, 117] = true := by rw [HOPS.out]; kernel_rfl
          refine Reg.wp (Φ := fun i v _ => v = ([.slice (some mad) B.all.length c2, .int .i64 (kk : Int), .pointer (some (mad.add (kk * 15))), .agg #[.int .i64 y.f0.f0, .int .i64 y.f0.f1, .int .i64 y.f0.f2, .int .i64 y.f0.f3, .int .i64 y.f0.f4, .int .i64 y.f0.f5, .int .i64 y.f0.f6, .int .i64 y.f0.f7, .int .i64 y.f0.f8, .int .i64 y.f0.f9, .int .i64 y.f0.f10, .int .i64 y.f0.f11, .slice mA y.f1.length mc, .slice mB y.f2.length md, .bool y.f3], .slice (some lad) B.all.length c1, .int .i64 (kk : Int), .pointer (some (lad.add (kk * 15))), .agg #[.int .i64 z.f0.f0, .int .i64 z.f0.f1, .int .i64 z.f0.f2, .int .i64 z.f0.f3, .int .i64 z.f0.f4, .int .i64 z.f0.f5, .int .i64 z.f0.f6, .int .i64 z.f0.f7, .int .i64 z.f0.f8, .int .i64 z.f0.f9, .int .i64 z.f0.f10, .int .i64 z.f0.f11, .slice lA z.f1.length lc, .slice lB z.f2.length ld, .bool z.f3], .bool (eq41 y z)] : List Value).getD i undef) (Inv := fun w_ => Below wr.heap.size wr w_) (Reg.ofB rfl hB0 (fun _ _ _ _ _ h => h) (fun _ _ hb h => below_step h hb) ?_) (by kernel_rfl) (below_drew1 (Below.refl _ _)) ?_
          · intro i o d ho hd a w_ hf hI hk
            have hN : a.tmps.size = 142 := hf.size.trans rfl
            have hi : i < 9 := by
              have := (Array.getElem?_eq_some_iff.1 ho).1
              rw [HOPS.out] at this
              exact this
            obtain rfl | rfl | rfl | rfl | rfl | rfl | rfl | rfl | rfl : i = 0 ∨ i = 1 ∨ i = 2 ∨ i = 3 ∨ i = 4 ∨ i = 5 ∨ i = 6 ∨ i = 7 ∨ i = 8 := by omega
            · -- operation 0
              have h := ho
              rw [HOPS.out] at ho
              simp only [List.getElem?_toArray, List.getElem?_cons_succ, List.getElem?_cons_zero, List.append_eq, List.cons_append, List.nil_append, Option.some.injEq] at ho
              subst ho
              obtain rfl := Option.some.inj hd
              have b11 : a.tmps.getD 11 undef = .slice (some mad) B.all.length c2 := (hf.same 11 (by rw [HOPS.out]; exact not_dst (by kernel_rfl))).trans rfl
              exact step_value h rfl (wanted_none rfl) (run_move rfl) b11 (Below.refl _ _)
            · -- operation 1
              have h := ho
              rw [HOPS.out] at ho
              simp only [List.getElem?_toArray, List.getElem?_cons_succ, List.getElem?_cons_zero, List.append_eq, List.cons_append, List.nil_append, Option.some.injEq] at ho
              subst ho
              obtain rfl := Option.some.inj hd
              have b13 : a.tmps.getD 13 undef = .int .i64 (kk : Int) := (hf.same 13 (by rw [HOPS.out]; exact not_dst (by kernel_rfl))).trans rfl
              exact step_value h rfl (wanted_none rfl) (run_move rfl) b13 (Below.refl _ _)
            · -- operation 2
              have h := ho
              rw [HOPS.out] at ho
              simp only [List.getElem?_toArray, List.getElem?_cons_succ, List.getElem?_cons_zero, List.append_eq, List.cons_append, List.nil_append, Option.some.injEq] at ho
              subst ho
              obtain rfl := Option.some.inj hd
              have e0 : a.tmps.getD 109 undef = .slice (some mad) B.all.length c2 := known_eq (hk 0 (by kernel_rfl)) (by rw [HOPS.out]; rfl) rfl
              have e1 : a.tmps.getD 110 undef = .int .i64 (kk : Int) := known_eq (hk 1 (by kernel_rfl)) (by rw [HOPS.out]; rfl) rfl
              refine step_value h rfl (wanted_none rfl) (v := .pointer (some (mad.add (kk * 15)))) (w1 := w_) ?_ rfl (Below.refl _ _)
              have q0 := getq hN (by decide) e0
              have q1 := getq hN (by decide) e1
              clear hk h hN hf hI
              go_simp; try (intro h_; exact absurd h_ (by omega))
            · -- operation 3
              have h := ho
              rw [HOPS.out] at ho
              simp only [List.getElem?_toArray, List.getElem?_cons_succ, List.getElem?_cons_zero, List.append_eq, List.cons_append, List.nil_append, Option.some.injEq] at ho
              subst ho
              obtain rfl := Option.some.inj hd
              have e2 : a.tmps.getD 111 undef = .pointer (some (mad.add (kk * 15))) := known_eq (hk 2 (by kernel_rfl)) (by rw [HOPS.out]; rfl) rfl
              obtain ⟨mx0, mx1, mx2, mx3, mx4, mx5, mx6, mx7, mx8, mx9, mx10, mx11, mx12, mx13, mx14⟩ := HMX.out
              replace mx0 := pw_cell_below hI mx0
              replace mx1 := pw_cell_below hI mx1
              replace mx2 := pw_cell_below hI mx2
              replace mx3 := pw_cell_below hI mx3
              replace mx4 := pw_cell_below hI mx4
              replace mx5 := pw_cell_below hI mx5
              replace mx6 := pw_cell_below hI mx6
              replace mx7 := pw_cell_below hI mx7
              replace mx8 := pw_cell_below hI mx8
              replace mx9 := pw_cell_below hI mx9
              replace mx10 := pw_cell_below hI mx10
              replace mx11 := pw_cell_below hI mx11
              replace mx12 := pw_cell_below hI mx12
              replace mx13 := pw_cell_below hI mx13
              replace mx14 := pw_cell_below hI mx14
              refine step_value h rfl (wanted_none rfl) (v := .agg #[.int .i64 y.f0.f0, .int .i64 y.f0.f1, .int .i64 y.f0.f2, .int .i64 y.f0.f3, .int .i64 y.f0.f4, .int .i64 y.f0.f5, .int .i64 y.f0.f6, .int .i64 y.f0.f7, .int .i64 y.f0.f8, .int .i64 y.f0.f9, .int .i64 y.f0.f10, .int .i64 y.f0.f11, .slice mA y.f1.length mc, .slice mB y.f2.length md, .bool y.f3]) (w1 := w_) ?_ rfl (Below.refl _ _)
              have q2 := getq hN (by decide) e2
              clear hk h hN hf hI
              go_simp
            · -- operation 4
              have h := ho
              rw [HOPS.out] at ho
              simp only [List.getElem?_toArray, List.getElem?_cons_succ, List.getElem?_cons_zero, List.append_eq, List.cons_append, List.nil_append, Option.some.injEq] at ho
              subst ho
              obtain rfl := Option.some.inj hd
              have b7 : a.tmps.getD 7 undef = .slice (some lad) B.all.length c1 := (hf.same 7 (by rw [HOPS.out]; exact not_dst (by kernel_rfl))).trans rfl
              exact step_value h rfl (wanted_none rfl) (run_move rfl) b7 (Below.refl _ _)
            · -- operation 5
              have h := ho
              rw [HOPS.out] at ho
              simp only [List.getElem?_toArray, List.getElem?_cons_succ, List.getElem?_cons_zero, List.append_eq, List.cons_append, List.nil_append, Option.some.injEq] at ho
              subst ho
              obtain rfl := Option.some.inj hd
              have b13 : a.tmps.getD 13 undef = .int .i64 (kk : Int) := (hf.same 13 (by rw [HOPS.out]; exact not_dst (by kernel_rfl))).trans rfl
              exact step_value h rfl (wanted_none rfl) (run_move rfl) b13 (Below.refl _ _)
            · -- operation 6
              have h := ho
              rw [HOPS.out] at ho
              simp only [List.getElem?_toArray, List.getElem?_cons_succ, List.getElem?_cons_zero, List.append_eq, List.cons_append, List.nil_append, Option.some.injEq] at ho
              subst ho
              obtain rfl := Option.some.inj hd
              have e4 : a.tmps.getD 113 undef = .slice (some lad) B.all.length c1 := known_eq (hk 4 (by kernel_rfl)) (by rw [HOPS.out]; rfl) rfl
              have e5 : a.tmps.getD 114 undef = .int .i64 (kk : Int) := known_eq (hk 5 (by kernel_rfl)) (by rw [HOPS.out]; rfl) rfl
              refine step_value h rfl (wanted_none rfl) (v := .pointer (some (lad.add (kk * 15)))) (w1 := w_) ?_ rfl (Below.refl _ _)
              have q4 := getq hN (by decide) e4
              have q5 := getq hN (by decide) e5
              clear hk h hN hf hI
              go_simp; try (intro h_; exact absurd h_ (by omega))
            · -- operation 7
              have h := ho
              rw [HOPS.out] at ho
              simp only [List.getElem?_toArray, List.getElem?_cons_succ, List.getElem?_cons_zero, List.append_eq, List.cons_append, List.nil_append, Option.some.injEq] at ho
              subst ho
              obtain rfl := Option.some.inj hd
              have e6 : a.tmps.getD 115 undef = .pointer (some (lad.add (kk * 15))) := known_eq (hk 6 (by kernel_rfl)) (by rw [HOPS.out]; rfl) rfl
              obtain ⟨lx0, lx1, lx2, lx3, lx4, lx5, lx6, lx7, lx8, lx9, lx10, lx11, lx12, lx13, lx14⟩ := HLX.out
              replace lx0 := pw_cell_below hI lx0
              replace lx1 := pw_cell_below hI lx1
              replace lx2 := pw_cell_below hI lx2
              replace lx3 := pw_cell_below hI lx3
              replace lx4 := pw_cell_below hI lx4
              replace lx5 := pw_cell_below hI lx5
              replace lx6 := pw_cell_below hI lx6
              replace lx7 := pw_cell_below hI lx7
              replace lx8 := pw_cell_below hI lx8
              replace lx9 := pw_cell_below hI lx9
              replace lx10 := pw_cell_below hI lx10
              replace lx11 := pw_cell_below hI lx11
              replace lx12 := pw_cell_below hI lx12
              replace lx13 := pw_cell_below hI lx13
              replace lx14 := pw_cell_below hI lx14
              refine step_value h rfl (wanted_none rfl) (v := .agg #[.int .i64 z.f0.f0, .int .i64 z.f0.f1, .int .i64 z.f0.f2, .int .i64 z.f0.f3, .int .i64 z.f0.f4, .int .i64 z.f0.f5, .int .i64 z.f0.f6, .int .i64 z.f0.f7, .int .i64 z.f0.f8, .int .i64 z.f0.f9, .int .i64 z.f0.f10, .int .i64 z.f0.f11, .slice lA z.f1.length lc, .slice lB z.f2.length ld, .bool z.f3]) (w1 := w_) ?_ rfl (Below.refl _ _)
              have q6 := getq hN (by decide) e6
              clear hk h hN hf hI
              go_simp
            · -- operation 8
              have h := ho
              rw [HOPS.out] at ho
              simp only [List.getElem?_toArray, List.getElem?_cons_succ, List.getElem?_cons_zero, List.append_eq, List.cons_append, List.nil_append, Option.some.injEq] at ho
              subst ho
              obtain rfl := Option.some.inj hd
              have e3 : a.tmps.getD 112 undef = .agg #[.int .i64 y.f0.f0, .int .i64 y.f0.f1, .int .i64 y.f0.f2, .int .i64 y.f0.f3, .int .i64 y.f0.f4, .int .i64 y.f0.f5, .int .i64 y.f0.f6, .int .i64 y.f0.f7, .int .i64 y.f0.f8, .int .i64 y.f0.f9, .int .i64 y.f0.f10, .int .i64 y.f0.f11, .slice mA y.f1.length mc, .slice mB y.f2.length md, .bool y.f3] := known_eq (hk 3 (by kernel_rfl)) (by rw [HOPS.out]; rfl) rfl
              have e7 : a.tmps.getD 116 undef = .agg #[.int .i64 z.f0.f0, .int .i64 z.f0.f1, .int .i64 z.f0.f2, .int .i64 z.f0.f3, .int .i64 z.f0.f4, .int .i64 z.f0.f5, .int .i64 z.f0.f6, .int .i64 z.f0.f7, .int .i64 z.f0.f8, .int .i64 z.f0.f9, .int .i64 z.f0.f10, .int .i64 z.f0.f11, .slice lA z.f1.length lc, .slice lB z.f2.length ld, .bool z.f3] := known_eq (hk 7 (by kernel_rfl)) (by rw [HOPS.out]; rfl) rfl
              exact step_call h rfl (wanted_none rfl) Try.func22 (by kernel_rfl) rfl #[.agg #[.int .i64 y.f0.f0, .int .i64 y.f0.f1, .int .i64 y.f0.f2, .int .i64 y.f0.f3, .int .i64 y.f0.f4, .int .i64 y.f0.f5, .int .i64 y.f0.f6, .int .i64 y.f0.f7, .int .i64 y.f0.f8, .int .i64 y.f0.f9, .int .i64 y.f0.f10, .int .i64 y.f0.f11, .slice mA y.f1.length mc, .slice mB y.f2.length md, .bool y.f3], .agg #[.int .i64 z.f0.f0, .int .i64 z.f0.f1, .int .i64 z.f0.f2, .int .i64 z.f0.f3, .int .i64 z.f0.f4, .int .i64 z.f0.f5, .int .i64 z.f0.f6, .int .i64 z.f0.f7, .int .i64 z.f0.f8, .int .i64 z.f0.f9, .int .i64 z.f0.f10, .int .i64 z.f0.f11, .slice lA z.f1.length lc, .slice lB z.f2.length ld, .bool z.f3]] rfl (by simp only [List.map_toArray, List.map_cons, List.map_nil, Act.eval, e3, e7]) ((sameOne_calls y z HFEW.out w_ (Kd.C_below HM.out.2.1 hI) HM.out.1 (Kd.C_below HM.out.2.2.2 hI) HM.out.2.2.1 (Kd.C_below HN.out.2.1 hI) HN.out.1 (Kd.C_below HN.out.2.2.2 hI) HN.out.2.2.1).mono fun e w' ⟨he, hb⟩ => ⟨_, he, rfl, hb⟩)
          intro a w_ hf hI hk
          have e0 : a.tmps.getD 109 undef = .slice (some mad) B.all.length c2 := known_eq (hk 0 (by rw [HOPS.out]; decide)) (by rw [HOPS.out]; rfl) rfl
          have e1 : a.tmps.getD 110 undef = .int .i64 (kk : Int) := known_eq (hk 1 (by rw [HOPS.out]; decide)) (by rw [HOPS.out]; rfl) rfl
          have e2 : a.tmps.getD 111 undef = .pointer (some (mad.add (kk * 15))) := known_eq (hk 2 (by rw [HOPS.out]; decide)) (by rw [HOPS.out]; rfl) rfl
          have e3 : a.tmps.getD 112 undef = .agg #[.int .i64 y.f0.f0, .int .i64 y.f0.f1, .int .i64 y.f0.f2, .int .i64 y.f0.f3, .int .i64 y.f0.f4, .int .i64 y.f0.f5, .int .i64 y.f0.f6, .int .i64 y.f0.f7, .int .i64 y.f0.f8, .int .i64 y.f0.f9, .int .i64 y.f0.f10, .int .i64 y.f0.f11, .slice mA y.f1.length mc, .slice mB y.f2.length md, .bool y.f3] := known_eq (hk 3 (by rw [HOPS.out]; decide)) (by rw [HOPS.out]; rfl) rfl
          have e4 : a.tmps.getD 113 undef = .slice (some lad) B.all.length c1 := known_eq (hk 4 (by rw [HOPS.out]; decide)) (by rw [HOPS.out]; rfl) rfl
          have e5 : a.tmps.getD 114 undef = .int .i64 (kk : Int) := known_eq (hk 5 (by rw [HOPS.out]; decide)) (by rw [HOPS.out]; rfl) rfl
          have e6 : a.tmps.getD 115 undef = .pointer (some (lad.add (kk * 15))) := known_eq (hk 6 (by rw [HOPS.out]; decide)) (by rw [HOPS.out]; rfl) rfl
          have e7 : a.tmps.getD 116 undef = .agg #[.int .i64 z.f0.f0, .int .i64 z.f0.f1, .int .i64 z.f0.f2, .int .i64 z.f0.f3, .int .i64 z.f0.f4, .int .i64 z.f0.f5, .int .i64 z.f0.f6, .int .i64 z.f0.f7, .int .i64 z.f0.f8, .int .i64 z.f0.f9, .int .i64 z.f0.f10, .int .i64 z.f0.f11, .slice lA z.f1.length lc, .slice lB z.f2.length ld, .bool z.f3] := known_eq (hk 7 (by rw [HOPS.out]; decide)) (by rw [HOPS.out]; rfl) rfl
          have e8 : a.tmps.getD 117 undef = .bool (eq41 y z) := known_eq (hk 8 (by rw [HOPS.out]; decide)) (by rw [HOPS.out]; rfl) rfl
          have E := toPuts hf [(109, .slice (some mad) B.all.length c2), (110, .int .i64 (kk : Int)), (111, .pointer (some (mad.add (kk * 15)))), (112, .agg #[.int .i64 y.f0.f0, .int .i64 y.f0.f1, .int .i64 y.f0.f2, .int .i64 y.f0.f3, .int .i64 y.f0.f4, .int .i64 y.f0.f5, .int .i64 y.f0.f6, .int .i64 y.f0.f7, .int .i64 y.f0.f8, .int .i64 y.f0.f9, .int .i64 y.f0.f10, .int .i64 y.f0.f11, .slice mA y.f1.length mc, .slice mB y.f2.length md, .bool y.f3]), (113, .slice (some lad) B.all.length c1), (114, .int .i64 (kk : Int)), (115, .pointer (some (lad.add (kk * 15)))), (116, .agg #[.int .i64 z.f0.f0, .int .i64 z.f0.f1, .int .i64 z.f0.f2, .int .i64 z.f0.f3, .int .i64 z.f0.f4, .int .i64 z.f0.f5, .int .i64 z.f0.f6, .int .i64 z.f0.f7, .int .i64 z.f0.f8, .int .i64 z.f0.f9, .int .i64 z.f0.f10, .int .i64 z.f0.f11, .slice lA z.f1.length lc, .slice lB z.f2.length ld, .bool z.f3]), (117, .bool (eq41 y z))] [109, 110, 111, 112, 113, 114, 115, 116, 117] rfl rfl hK0 (List.forall_mem_cons.2 ⟨e0, (List.forall_mem_cons.2 ⟨e1, (List.forall_mem_cons.2 ⟨e2, (List.forall_mem_cons.2 ⟨e3, (List.forall_mem_cons.2 ⟨e4, (List.forall_mem_cons.2 ⟨e5, (List.forall_mem_cons.2 ⟨e6, (List.forall_mem_cons.2 ⟨e7, (List.forall_mem_cons.2 ⟨e8, (fun _ h_ => by cases h_)⟩)⟩)⟩)⟩)⟩)⟩)⟩)⟩)⟩)
          clear e0 e1 e2 e3 e4 e5 e6 e7 e8 hk hf HOPS hB0 hK0
          subst E
          simp only [puts, Act.put, List.setIfInBounds_toArray, List.set_cons_succ, List.set_cons_zero]
          have HB2 := Aside0.mk (below_step HB.out hI)
          have mx0 := pw_cell_below hI HMX.out.1
          clear hI
          cases hq : eq41 y z with
          | true =>
            have HQ := Aside0.mk hq
            clear hq
            go_wp2_with fail
            go_roundg (B.all.length - (kk + 1))
            case measure => omega
            case rel => exact ⟨kk + 1, by omega, by omega, by go_num, by rw [chg_same (by rintro rfl; rw [HDD.out, ← Hy.out, ← Hz.out, HQ.out]; rfl)], HB2⟩
          | false =>
            have hki : kk = i := Classical.byContradiction (fun hc => by have h_ := hD.out.same kk hlt hc; rw [← Hy.out, ← Hz.out] at h_; rw [h_, eq41_refl] at hq; cases hq)
            subst hki
            have hdt : d = true := by rw [HDD.out, ← Hy.out, ← Hz.out, hq]; rfl
            have hyid : y.f0.f0 = rf.1 := by rw [Hy.out]; exact hD.out.id
            have hc0 : chg kk d kk = 0 := by unfold chg; rw [if_neg (by omega)]
            have hyb : (y.f0.f0 != rf.1) = false := by rw [hyid]; exact bne_self_eq_false _
            rw [hc0]
            clear hq hyid
            go_wp2_with fail
            go_roundg (B.all.length - (kk + 1))
            case measure => omega
            case rel => exact ⟨kk + 1, by omega, by omega, by go_num, by rw [hdt]; unfold chg; rw [if_pos ⟨by omega, rfl⟩], HB2⟩
        · have hltz : ¬ (kk : Int) < (B.all.length : Int) := by omega
          have : kk = B.all.length := by omega
          subst this
          have HPE := Aside0.mk (HP.out.below HB.out)
          have HXE := Aside0.mk (blk_below HX.out HB.out)
          have x0 : wr.cell? ⟨w.heap.size, 0, none⟩ = some (.int .i64 x.f0) := (blk_cell HXE.out 0).trans rfl
          cases hd : d with
          | true =>
            have hc1 : chg i true B.all.length = 1 := by unfold chg; rw [if_pos ⟨hhi, rfl⟩]
            rw [hc1]
            go_wp2_with fail
            refine (aw_all _).mono ?_
            rintro e w9 ⟨rfl, hb⟩
            go_wp2
            go_ret
            exact ⟨rfl, below_step HW0.out (below_step HPE.out.b hb)⟩
          | false =>
            have hc1 : chg i false B.all.length = 0 := by unfold chg; rw [if_neg (fun h => by cases h.2)]
            have h1 : x.f0 = 1 := Classical.byContradiction (fun hc => by have h2 := HNE.out hc; have h3 := HDD.out; rw [hd] at h3; exact h2 (eq41_iff.1 (by simpa using h3.symm)))
            have h1b : (x.f0 == 1) = true := by rw [h1]; rfl
            clear h1
            rw [hc1]
            go_wp2_with fail
            refine (aw_all _).mono ?_
            rintro e w9 ⟨rfl, hb⟩
            go_wp2
            go_ret
            exact ⟨rfl, below_step HW0.out (below_step HPE.out.b hb)⟩
open Mono in
set_option maxHeartbeats 16000000 in
set_option maxRecDepth 100000 in
theorem OrderRefused_w5 (A0 : Option Addr) (c0 : Nat) (l0 : List S35) (x : S35) (w : World) (hr0 : Kd.C k35 w A0 l0.length l0) (hc0 : l0.length ≤ c0) (hwf : wfs l0 = true) (hwx : (Lit.int .i64 x.f3).wf = true) (hN : ¬ 60 < l0.length) (hr : ((Bk.new.run l0).do_ x).2 = 0) (hk : x.f0 ≠ 0) (c3 : x.f0 ≠ 3) (c4 : x.f0 ≠ 4) :
    Calls Try.prog 8 #[.slice A0 l0.length c0, .agg #[.int .i64 x.f0, .int .i64 x.f1.f0, .int .i64 x.f1.f1, .int .i64 x.f1.f2, .int .i64 x.f1.f3, .int .i64 x.f1.f4, .int .i64 x.f1.f5, .int .i64 x.f1.f6, .int .i64 x.f1.f7, .int .i64 x.f1.f8, .int .i64 x.f1.f9, .int .i64 x.f1.f10, .int .i64 x.f1.f11, .int .i64 x.f2, .int .i64 x.f3]] w fun e w' => e = .returned (.bool true) ∧ Below w.heap.size w w' := by
  have hu35 := Try.underlying35
  have hu23 := Try.underlying23
  have hu41 := Try.underlying41
  have hlen := hr0.2.1
  have HR0 := Aside0.mk hr0
  have HC0 := Aside0.mk hc0
  have HWF := Aside0.mk hwf
  clear hr0 hc0 hwf
  have HWX := Aside0.mk hwx
  clear hwx
  have c1b : decide ((60 : Int) < (l0.length : Int)) = false := decide_eq_false (by omega)
  have c1n : decide (60 < l0.length) = false := decide_eq_false hN
  have c1m := eq_false hN
  have Qhr := Aside0.mk hr
  have Qhk := Aside0.mk hk
  have Qc3 := Aside0.mk c3
  have Qc4 := Aside0.mk c4
  clear hr hk c3 c4
  go_enter Try.func8, Try.ntmps8
  go_wp2_with fail
  refine (LB.new _ _ (Below.refl _ _)).mono ?_
  rintro e w1 ⟨P0, pb, pm, rfl, h, _, _⟩
  have HX0 := Aside0.mk (blk_new w (.cells #[.int .i64 x.f0, .int .i64 x.f1.f0, .int .i64 x.f1.f1, .int .i64 x.f1.f2, .int .i64 x.f1.f3, .int .i64 x.f1.f4, .int .i64 x.f1.f5, .int .i64 x.f1.f6, .int .i64 x.f1.f7, .int .i64 x.f1.f8, .int .i64 x.f1.f9, .int .i64 x.f1.f10, .int .i64 x.f1.f11, .int .i64 x.f2, .int .i64 x.f3] 35))
  have HW0 := Aside0.mk (below_alloc (Below.refl w.heap.size w) (.cells #[.int .i64 x.f0, .int .i64 x.f1.f0, .int .i64 x.f1.f1, .int .i64 x.f1.f2, .int .i64 x.f1.f3, .int .i64 x.f1.f4, .int .i64 x.f1.f5, .int .i64 x.f1.f6, .int .i64 x.f1.f7, .int .i64 x.f1.f8, .int .i64 x.f1.f9, .int .i64 x.f1.f10, .int .i64 x.f1.f11, .int .i64 x.f2, .int .i64 x.f3] 35))
  have HRW := Aside0.mk (Kd.C_alloc HR0.out (.cells #[.int .i64 x.f0, .int .i64 x.f1.f0, .int .i64 x.f1.f1, .int .i64 x.f1.f2, .int .i64 x.f1.f3, .int .i64 x.f1.f4, .int .i64 x.f1.f5, .int .i64 x.f1.f6, .int .i64 x.f1.f7, .int .i64 x.f1.f8, .int .i64 x.f1.f9, .int .i64 x.f1.f10, .int .i64 x.f1.f11, .int .i64 x.f2, .int .i64 x.f3] 35))
  have hwl : w.heap.size < (w.alloc (.cells #[.int .i64 x.f0, .int .i64 x.f1.f0, .int .i64 x.f1.f1, .int .i64 x.f1.f2, .int .i64 x.f1.f3, .int .i64 x.f1.f4, .int .i64 x.f1.f5, .int .i64 x.f1.f6, .int .i64 x.f1.f7, .int .i64 x.f1.f8, .int .i64 x.f1.f9, .int .i64 x.f1.f10, .int .i64 x.f1.f11, .int .i64 x.f2, .int .i64 x.f3] 35)).heap.size := blk_lt HX0.out
  generalize w.alloc (.cells #[.int .i64 x.f0, .int .i64 x.f1.f0, .int .i64 x.f1.f1, .int .i64 x.f1.f2, .int .i64 x.f1.f3, .int .i64 x.f1.f4, .int .i64 x.f1.f5, .int .i64 x.f1.f6, .int .i64 x.f1.f7, .int .i64 x.f1.f8, .int .i64 x.f1.f9, .int .i64 x.f1.f10, .int .i64 x.f1.f11, .int .i64 x.f2, .int .i64 x.f3] 35) = W0 at h HX0 HW0 HRW hwl ⊢
  have H1 : Aside0 (∃ P, LB W0 P pb pm w1 (Bk.new.run (l0.take 0))) := ⟨P0, h⟩
  clear h
  go_wp2_with fail
  go_loopg [6] l0.length (fun gg v6 wr => ∃ kk : Nat, kk ≤ l0.length ∧ l0.length - kk ≤ gg ∧ v6 = .int .i64 kk ∧ Aside0 (∃ P, LB W0 P pb pm wr (Bk.new.run (l0.take kk))))
  case atStart => exact ⟨0, Nat.zero_le _, by omega, rfl, H1⟩
  case round =>
    clear H1
    obtain ⟨kk, hkk, hg, rfl, HB⟩ := hrel
    by_cases hlt : kk < l0.length
    · have hltz : (kk : Int) < (l0.length : Int) := by omega
      obtain ⟨P, hP⟩ := HB.out
      have HP := Aside0.mk hP
      have HC := Aside0.mk (Kd.C_below HRW.out hP.b)
      have HWX2 := Aside0.mk (wfs_at HWF.out hlt)
      have HI := Aside0.mk (Bk.Inv.taken l0 kk (T := 900) (by omega))
      clear hP HB
      obtain ⟨ad, e, x0, x1, x2, x3, x4, x5, x6, x7, x8, x9, x10, x11, x12, x13, x14⟩ := at_T35 HC.out (kk : Int) (by omega) hltz
      subst e
      obtain ⟨xx, HX⟩ : ∃ x, Aside0 (x = rd_T35 l0 (kk : Int)) := ⟨_, ⟨rfl⟩⟩
      rw [← HX.out] at HWX2 x0 x1 x2 x3 x4 x5 x6 x7 x8 x9 x10 x11 x12 x13 x14
      rw [Int.toNat_natCast] at x0 x1 x2 x3 x4 x5 x6 x7 x8 x9 x10 x11 x12 x13 x14
      go_wp2_with fail
      refine (LB.do_ HP.out HI.out (Nat.le_refl _) xx HWX2.out).mono ?_
      rintro e w2 ⟨rfl, P2, h, _, _⟩
      have HB2 : Aside0 (∃ P, LB W0 P pb pm w2 (Bk.new.run (l0.take (kk + 1)))) := ⟨P2, by rw [run_take l0 hlt, ← HX.out]; exact h⟩
      clear h
      go_wp2_with fail
      go_roundg (l0.length - (kk + 1))
      case measure => omega
      case rel => exact ⟨kk + 1, by omega, by omega, by go_num, HB2⟩
    · have hltz : ¬ (kk : Int) < (l0.length : Int) := by omega
      have : kk = l0.length := by omega
      subst this
      obtain ⟨P, hP⟩ := HB.out
      rw [List.take_length] at hP
      have hI := Bk.Inv.taken l0 l0.length (T := 60) (by omega)
      rw [List.take_length] at hI
      generalize Bk.new.run l0 = B at hP hI Qhr
      have HP := Aside0.mk hP
      have HI := Aside0.mk hI
      clear HB hP hI
      have q := LB.All HP.out (HI.out.ok (by omega))
      go_wp2_with fail
      refine q.mono ?_
      clear q
      rintro e w2 ⟨v, rfl, hs, hb⟩
      change Kd.S k41 41 w2 wr.heap.size (fun _ => True) v B.all at hs
      obtain ⟨A1, c1, rfl⟩ := Kd.S_slice hs
      have HS1 := Aside0.mk hs
      have HLO := Aside0.mk HP.out.lo
      replace HP := Aside0.mk (HP.out.below hb)
      clear hs hb
      obtain ⟨rf, hrf⟩ := HI.out.findSome x.f3
      have HRF := Aside0.mk hrf
      clear hrf
      have HX := Aside0.mk (blk_below HX0.out HP.out.b)
      have x14 : w2.cell? ⟨w.heap.size, 14, none⟩ = some (.int .i64 x.f3) := (blk_cell HX.out 14).trans rfl
      have q := LB.Find HP.out x.f3 HWX.out rf HRF.out
      go_wp2_with fail
      refine q.mono ?_
      clear q
      rintro e w3 ⟨rfl, hb⟩
      replace HS1 := Aside0.mk (Kd.S_below HS1.out hb)
      replace HP := Aside0.mk (HP.out.below hb)
      clear hb x14 HX
      have HX := Aside0.mk (blk_below HX0.out HP.out.b)
      have x0 : w3.cell? ⟨w.heap.size, 0, none⟩ = some (.int .i64 x.f0) := (blk_cell HX.out 0).trans rfl
      have x1 : w3.cell? ⟨w.heap.size, 1, none⟩ = some (.int .i64 x.f1.f0) := (blk_cell HX.out 1).trans rfl
      have x2 : w3.cell? ⟨w.heap.size, 2, none⟩ = some (.int .i64 x.f1.f1) := (blk_cell HX.out 2).trans rfl
      have x3 : w3.cell? ⟨w.heap.size, 3, none⟩ = some (.int .i64 x.f1.f2) := (blk_cell HX.out 3).trans rfl
      have x4 : w3.cell? ⟨w.heap.size, 4, none⟩ = some (.int .i64 x.f1.f3) := (blk_cell HX.out 4).trans rfl
      have x5 : w3.cell? ⟨w.heap.size, 5, none⟩ = some (.int .i64 x.f1.f4) := (blk_cell HX.out 5).trans rfl
      have x6 : w3.cell? ⟨w.heap.size, 6, none⟩ = some (.int .i64 x.f1.f5) := (blk_cell HX.out 6).trans rfl
      have x7 : w3.cell? ⟨w.heap.size, 7, none⟩ = some (.int .i64 x.f1.f6) := (blk_cell HX.out 7).trans rfl
      have x8 : w3.cell? ⟨w.heap.size, 8, none⟩ = some (.int .i64 x.f1.f7) := (blk_cell HX.out 8).trans rfl
      have x9 : w3.cell? ⟨w.heap.size, 9, none⟩ = some (.int .i64 x.f1.f8) := (blk_cell HX.out 9).trans rfl
      have x10 : w3.cell? ⟨w.heap.size, 10, none⟩ = some (.int .i64 x.f1.f9) := (blk_cell HX.out 10).trans rfl
      have x11 : w3.cell? ⟨w.heap.size, 11, none⟩ = some (.int .i64 x.f1.f10) := (blk_cell HX.out 11).trans rfl
      have x12 : w3.cell? ⟨w.heap.size, 12, none⟩ = some (.int .i64 x.f1.f11) := (blk_cell HX.out 12).trans rfl
      have x13 : w3.cell? ⟨w.heap.size, 13, none⟩ = some (.int .i64 x.f2) := (blk_cell HX.out 13).trans rfl
      have x14 : w3.cell? ⟨w.heap.size, 14, none⟩ = some (.int .i64 x.f3) := (blk_cell HX.out 14).trans rfl
      have q := LB.do_ HP.out HI.out (by omega) x HWX.out
      have hno := @do_no B x
      have had := @do_add B x
      have hone := @do_one B 60 HI.out x
      have HI2 := Aside0.mk (HI.out.do_ x)
      generalize hd : B.do_ x = D at q hno had hone HI2 Qhr
      obtain ⟨B2, r2⟩ := D
      dsimp only at q hno had hone HI2 Qhr
      clear hd
      have HNO := Aside0.mk hno
      have HAD := Aside0.mk had
      have HONE := Aside0.mk hone
      clear hno had hone
      go_wp2_with fail
      refine q.mono ?_
      clear q
      rintro e w4 ⟨rfl, P4, h, hk, _⟩
      replace HS1 := Aside0.mk (Kd.S_kept (Kd.S_bound HS1.out) hk.k (fun k hk h => absurd ((HLO.out k h).2) (by have := hk.2.1; omega)))
      replace HP := Aside0.mk h
      clear h hk HLO HX x0 x1 x2 x3 x4 x5 x6 x7 x8 x9 x10 x11 x12 x13 x14
      have q := LB.All HP.out (HI2.out.ok (by omega))
      go_wp2_with fail
      refine q.mono ?_
      clear q
      rintro e w5 ⟨v, rfl, hs, hb⟩
      change Kd.S k41 41 w5 w4.heap.size (fun _ => True) v B2.all at hs
      obtain ⟨A2, c2, rfl⟩ := Kd.S_slice hs
      have HC1 := Aside0.mk (Kd.S_reads' (Kd.S_below HS1.out hb)).2
      have HC2 := Aside0.mk (Kd.S_reads' hs).2
      replace HP := Aside0.mk (HP.out.below hb)
      have HX := Aside0.mk (blk_below HX0.out HP.out.b)
      clear hs hb HS1
      have HF := Aside0.mk (HI.out.few (by omega))
      have HF2 := Aside0.mk (HI2.out.few (by omega))
      have HL := Aside0.mk HI.out.allLen
      have HL2 := Aside0.mk HI2.out.allLen
      have hr := Qhr.out
      have hk := Qhk.out
      have c3 := Qc3.out
      have c4 := Qc4.out
      subst hr
      have x0 : w5.cell? ⟨w.heap.size, 0, none⟩ = some (.int .i64 x.f0) := (blk_cell HX.out 0).trans rfl
      have x2 : w5.cell? ⟨w.heap.size, 2, none⟩ = some (.int .i64 x.f1.f1) := (blk_cell HX.out 2).trans rfl
      have x13 : w5.cell? ⟨w.heap.size, 13, none⟩ = some (.int .i64 x.f2) := (blk_cell HX.out 13).trans rfl
      have x14 : w5.cell? ⟨w.heap.size, 14, none⟩ = some (.int .i64 x.f3) := (blk_cell HX.out 14).trans rfl
      have kb : (x.f0 == 0) = false := by simpa using hk
      obtain ⟨i, hD, hne⟩ := HONE.out hk rfl
      have hlen2 := hD.len
      rw [hlen2] at HC2 ⊢
      have HNE := Aside0.mk hne
      have hhi : i < B.all.length := hD.ilt
      have hn64 : B.all.length ≤ 64 := HL.out
      clear hk HNO HAD HONE hne hlen2
      obtain ⟨d, hd⟩ : ∃ d, d = !(eq41 (rd_T41 B2.all (i : Int)) (rd_T41 B.all (i : Int))) := ⟨_, rfl⟩
      have HDD := Aside0.mk hd
      clear hd
      have k3 : (x.f0 != 3) = true := bne_iff_ne.mpr c3
      have hid : lookId B x = x.f2 := by unfold lookId; rw [if_neg (fun h => h.elim c3 c4)]
      rw [hid] at hD
      have k4 : (x.f0 != 4) = true := bne_iff_ne.mpr c4
      clear c3 c4 hid
      have hD := Aside0.mk hD
      skip
      go_wp2_with fail
      go_loopg [12, 13] B.all.length (fun gg v12 v13 wr2 => ∃ kk : Nat, kk ≤ B.all.length ∧ B.all.length - kk ≤ gg ∧ v13 = .int .i64 kk ∧ v12 = .int .i64 (chg i d kk) ∧ Aside0 (Below w5.heap.size w5 wr2))
      case atStart => exact ⟨0, Nat.zero_le _, by omega, rfl, by rw [chg_zero], ⟨Below.refl _ _⟩⟩
      case round =>
        clear x0 x2 x13 x14
        obtain ⟨kk, hkk, hg, rfl, rfl, HB⟩ := hrel
        by_cases hlt : kk < B.all.length
        · have hltz : (kk : Int) < (B.all.length : Int) := by omega
          obtain ⟨mad, mA, mc, mB, md, me, mx0, mx1, mx2, mx3, mx4, mx5, mx6, mx7, mx8, mx9, mx10, mx11, mx12, mx13, mx14, ml1, mC1, ml2, mC2⟩ := at_T41 (Kd.C_below HC2.out.2 HB.out) (kk : Int) (by omega) hltz
          obtain ⟨y, Hy⟩ : ∃ x_, Aside0 (x_ = rd_T41 B2.all (kk : Int)) := ⟨_, ⟨rfl⟩⟩
          rw [← Hy.out] at mx0 mx1 mx2 mx3 mx4 mx5 mx6 mx7 mx8 mx9 mx10 mx11 mx12 mx13 mx14 ml1 mC1 ml2 mC2
          rw [Int.toNat_natCast] at mx0 mx1 mx2 mx3 mx4 mx5 mx6 mx7 mx8 mx9 mx10 mx11 mx12 mx13 mx14
          subst me
          obtain ⟨lad, lA, lc, lB, ld, le, lx0, lx1, lx2, lx3, lx4, lx5, lx6, lx7, lx8, lx9, lx10, lx11, lx12, lx13, lx14, ll1, lC1, ll2, lC2⟩ := at_T41 (Kd.C_below HC1.out.2 HB.out) (kk : Int) (by omega) hltz
          obtain ⟨z, Hz⟩ : ∃ x_, Aside0 (x_ = rd_T41 B.all (kk : Int)) := ⟨_, ⟨rfl⟩⟩
          rw [← Hz.out] at lx0 lx1 lx2 lx3 lx4 lx5 lx6 lx7 lx8 lx9 lx10 lx11 lx12 lx13 lx14 ll1 lC1 ll2 lC2
          rw [Int.toNat_natCast] at lx0 lx1 lx2 lx3 lx4 lx5 lx6 lx7 lx8 lx9 lx10 lx11 lx12 lx13 lx14
          subst le
          have HM := Aside0.mk (And.intro ml1 (And.intro mC1 (And.intro ml2 mC2)))
          have HN := Aside0.mk (And.intro ll1 (And.intro lC1 (And.intro ll2 lC2)))
          clear ml1 mC1 ml2 mC2 ll1 lC1 ll2 lC2
          have HMX := Aside0.mk (And.intro mx0 (And.intro mx1 (And.intro mx2 (And.intro mx3 (And.intro mx4 (And.intro mx5 (And.intro mx6 (And.intro mx7 (And.intro mx8 (And.intro mx9 (And.intro mx10 (And.intro mx11 (And.intro mx12 (And.intro mx13 mx14))))))))))))))
          have HLX := Aside0.mk (And.intro lx0 (And.intro lx1 (And.intro lx2 (And.intro lx3 (And.intro lx4 (And.intro lx5 (And.intro lx6 (And.intro lx7 (And.intro lx8 (And.intro lx9 (And.intro lx10 (And.intro lx11 (And.intro lx12 (And.intro lx13 lx14))))))))))))))
          clear mx0 lx0 mx1 lx1 mx2 lx2 mx3 lx3 mx4 lx4 mx5 lx5 mx6 lx6 mx7 lx7 mx8 lx8 mx9 lx9 mx10 lx10 mx11 lx11 mx12 lx12 mx13 lx13 mx14 lx14
          have hfew : Few y := by rw [Hy.out]; exact HF2.out _ (rd41_mem (by have := hD.out.len; omega))
          have HFEW := Aside0.mk hfew
          clear hfew
          go_wp2_with fail
          refine Mono.start (fun ops hops => ?_)
          have HOPS := Aside0.mk hops
          clear hops
          have hB0 : okB ops 142 = true := by rw [HOPS.out]; kernel_rfl
          have hK0 : okK ops 142 [109, 110, 111, 112, 113, 114, 115, 116, 117] = true := by rw [HOPS.out]; kernel_rfl
          refine Reg.wp (Φ := fun i v _ => v = ([.slice (some mad) B.all.length c2, .int .i64 (kk : Int), .pointer (some (mad.add (kk * 15))), .agg #[.int .i64 y.f0.f0, .int .i64 y.f0.f1, .int .i64 y.f0.f2, .int .i64 y.f0.f3, .int .i64 y.f0.f4, .int .i64 y.f0.f5, .int .i64 y.f0.f6, .int .i64 y.f0.f7, .int .i64 y.f0.f8, .int .i64 y.f0.f9, .int .i64 y.f0.f10, .int .i64 y.f0.f11, .slice mA y.f1.length mc, .slice mB y.f2.length md, .bool y.f3], .slice (some lad) B.all.length c1, .int .i64 (kk : Int), .pointer (some (lad.add (kk * 15))), .agg #[.int .i64 z.f0.f0, .int .i64 z.f0.f1, .int .i64 z.f0.f2, .int .i64 z.f0.f3, .int .i64 z.f0.f4, .int .i64 z.f0.f5, .int .i64 z.f0.f6, .int .i64 z.f0.f7, .int .i64 z.f0.f8, .int .i64 z.f0.f9, .int .i64 z.f0.f10, .int .i64 z.f0.f11, .slice lA z.f1.length lc, .slice lB z.f2.length ld, .bool z.f3], .bool (eq41 y z)] : List Value).getD i undef) (Inv := fun w_ => Below wr.heap.size wr w_) (Reg.ofB rfl hB0 (fun _ _ _ _ _ h => h) (fun _ _ hb h => below_step h hb) ?_) (by kernel_rfl) (below_drew1 (Below.refl _ _)) ?_
          · intro i o d ho hd a w_ hf hI hk
            have hN : a.tmps.size = 142 := hf.size.trans rfl
            have hi : i < 9 := by
              have := (Array.getElem?_eq_some_iff.1 ho).1
              rw [HOPS.out] at this
              exact this
            obtain rfl | rfl | rfl | rfl | rfl | rfl | rfl | rfl | rfl : i = 0 ∨ i = 1 ∨ i = 2 ∨ i = 3 ∨ i = 4 ∨ i = 5 ∨ i = 6 ∨ i = 7 ∨ i = 8 := by omega
            · -- operation 0
              have h := ho
              rw [HOPS.out] at ho
              simp only [List.getElem?_toArray, List.getElem?_cons_succ, List.getElem?_cons_zero, List.append_eq, List.cons_append, List.nil_append, Option.some.injEq] at ho
              subst ho
              obtain rfl := Option.some.inj hd
              have b11 : a.tmps.getD 11 undef = .slice (some mad) B.all.length c2 := (hf.same 11 (by rw [HOPS.out]; exact not_dst (by kernel_rfl))).trans rfl
              exact step_value h rfl (wanted_none rfl) (run_move rfl) b11 (Below.refl _ _)
            · -- operation 1
              have h := ho
              rw [HOPS.out] at ho
              simp only [List.getElem?_toArray, List.getElem?_cons_succ, List.getElem?_cons_zero, List.append_eq, List.cons_append, List.nil_append, Option.some.injEq] at ho
              subst ho
              obtain rfl := Option.some.inj hd
              have b13 : a.tmps.getD 13 undef = .int .i64 (kk : Int) := (hf.same 13 (by rw [HOPS.out]; exact not_dst (by kernel_rfl))).trans rfl
              exact step_value h rfl (wanted_none rfl) (run_move rfl) b13 (Below.refl _ _)
            · -- operation 2
              have h := ho
              rw [HOPS.out] at ho
              simp only [List.getElem?_toArray, List.getElem?_cons_succ, List.getElem?_cons_zero, List.append_eq, List.cons_append, List.nil_append, Option.some.injEq] at ho
              subst ho
              obtain rfl := Option.some.inj hd
              have e0 : a.tmps.getD 109 undef = .slice (some mad) B.all.length c2 := known_eq (hk 0 (by kernel_rfl)) (by rw [HOPS.out]; rfl) rfl
              have e1 : a.tmps.getD 110 undef = .int .i64 (kk : Int) := known_eq (hk 1 (by kernel_rfl)) (by rw [HOPS.out]; rfl) rfl
              refine step_value h rfl (wanted_none rfl) (v := .pointer (some (mad.add (kk * 15)))) (w1 := w_) ?_ rfl (Below.refl _ _)
              have q0 := getq hN (by decide) e0
              have q1 := getq hN (by decide) e1
              clear hk h hN hf hI
              go_simp; try (intro h_; exact absurd h_ (by omega))
            · -- operation 3
              have h := ho
              rw [HOPS.out] at ho
              simp only [List.getElem?_toArray, List.getElem?_cons_succ, List.getElem?_cons_zero, List.append_eq, List.cons_append, List.nil_append, Option.some.injEq] at ho
              subst ho
              obtain rfl := Option.some.inj hd
              have e2 : a.tmps.getD 111 undef = .pointer (some (mad.add (kk * 15))) := known_eq (hk 2 (by kernel_rfl)) (by rw [HOPS.out]; rfl) rfl
              obtain ⟨mx0, mx1, mx2, mx3, mx4, mx5, mx6, mx7, mx8, mx9, mx10, mx11, mx12, mx13, mx14⟩ := HMX.out
              replace mx0 := pw_cell_below hI mx0
              replace mx1 := pw_cell_below hI mx1
              replace mx2 := pw_cell_below hI mx2
              replace mx3 := pw_cell_below hI mx3
              replace mx4 := pw_cell_below hI mx4
              replace mx5 := pw_cell_below hI mx5
              replace mx6 := pw_cell_below hI mx6
              replace mx7 := pw_cell_below hI mx7
              replace mx8 := pw_cell_below hI mx8
              replace mx9 := pw_cell_below hI mx9
              replace mx10 := pw_cell_below hI mx10
              replace mx11 := pw_cell_below hI mx11
              replace mx12 := pw_cell_below hI mx12
              replace mx13 := pw_cell_below hI mx13
              replace mx14 := pw_cell_below hI mx14
              refine step_value h rfl (wanted_none rfl) (v := .agg #[.int .i64 y.f0.f0, .int .i64 y.f0.f1, .int .i64 y.f0.f2, .int .i64 y.f0.f3, .int .i64 y.f0.f4, .int .i64 y.f0.f5, .int .i64 y.f0.f6, .int .i64 y.f0.f7, .int .i64 y.f0.f8, .int .i64 y.f0.f9, .int .i64 y.f0.f10, .int .i64 y.f0.f11, .slice mA y.f1.length mc, .slice mB y.f2.length md, .bool y.f3]) (w1 := w_) ?_ rfl (Below.refl _ _)
              have q2 := getq hN (by decide) e2
              clear hk h hN hf hI
              go_simp
            · -- operation 4
              have h := ho
              rw [HOPS.out] at ho
              simp only [List.getElem?_toArray, List.getElem?_cons_succ, List.getElem?_cons_zero, List.append_eq, List.cons_append, List.nil_append, Option.some.injEq] at ho
              subst ho
              obtain rfl := Option.some.inj hd
              have b7 : a.tmps.getD 7 undef = .slice (some lad) B.all.length c1 := (hf.same 7 (by rw [HOPS.out]; exact not_dst (by kernel_rfl))).trans rfl
              exact step_value h rfl (wanted_none rfl) (run_move rfl) b7 (Below.refl _ _)
            · -- operation 5
              have h := ho
              rw [HOPS.out] at ho
              simp only [List.getElem?_toArray, List.getElem?_cons_succ, List.getElem?_cons_zero, List.append_eq, List.cons_append, List.nil_append, Option.some.injEq] at ho
              subst ho
              obtain rfl := Option.some.inj hd
              have b13 : a.tmps.getD 13 undef = .int .i64 (kk : Int) := (hf.same 13 (by rw [HOPS.out]; exact not_dst (by kernel_rfl))).trans rfl
              exact step_value h rfl (wanted_none rfl) (run_move rfl) b13 (Below.refl _ _)
            · -- operation 6
              have h := ho
              rw [HOPS.out] at ho
              simp only [List.getElem?_toArray, List.getElem?_cons_succ, List.getElem?_cons_zero, List.append_eq, List.cons_append, List.nil_append, Option.some.injEq] at ho
              subst ho
              obtain rfl := Option.some.inj hd
              have e4 : a.tmps.getD 113 undef = .slice (some lad) B.all.length c1 := known_eq (hk 4 (by kernel_rfl)) (by rw [HOPS.out]; rfl) rfl
              have e5 : a.tmps.getD 114 undef = .int .i64 (kk : Int) := known_eq (hk 5 (by kernel_rfl)) (by rw [HOPS.out]; rfl) rfl
              refine step_value h rfl (wanted_none rfl) (v := .pointer (some (lad.add (kk * 15)))) (w1 := w_) ?_ rfl (Below.refl _ _)
              have q4 := getq hN (by decide) e4
              have q5 := getq hN (by decide) e5
              clear hk h hN hf hI
              go_simp; try (intro h_; exact absurd h_ (by omega))
            · -- operation 7
              have h := ho
              rw [HOPS.out] at ho
              simp only [List.getElem?_toArray, List.getElem?_cons_succ, List.getElem?_cons_zero, List.append_eq, List.cons_append, List.nil_append, Option.some.injEq] at ho
              subst ho
              obtain rfl := Option.some.inj hd
              have e6 : a.tmps.getD 115 undef = .pointer (some (lad.add (kk * 15))) := known_eq (hk 6 (by kernel_rfl)) (by rw [HOPS.out]; rfl) rfl
              obtain ⟨lx0, lx1, lx2, lx3, lx4, lx5, lx6, lx7, lx8, lx9, lx10, lx11, lx12, lx13, lx14⟩ := HLX.out
              replace lx0 := pw_cell_below hI lx0
              replace lx1 := pw_cell_below hI lx1
              replace lx2 := pw_cell_below hI lx2
              replace lx3 := pw_cell_below hI lx3
              replace lx4 := pw_cell_below hI lx4
              replace lx5 := pw_cell_below hI lx5
              replace lx6 := pw_cell_below hI lx6
              replace lx7 := pw_cell_below hI lx7
              replace lx8 := pw_cell_below hI lx8
              replace lx9 := pw_cell_below hI lx9
              replace lx10 := pw_cell_below hI lx10
              replace lx11 := pw_cell_below hI lx11
              replace lx12 := pw_cell_below hI lx12
              replace lx13 := pw_cell_below hI lx13
              replace lx14 := pw_cell_below hI lx14
              refine step_value h rfl (wanted_none rfl) (v := .agg #[.int .i64 z.f0.f0, .int .i64 z.f0.f1, .int .i64 z.f0.f2, .int .i64 z.f0.f3, .int .i64 z.f0.f4, .int .i64 z.f0.f5, .int .i64 z.f0.f6, .int .i64 z.f0.f7, .int .i64 z.f0.f8, .int .i64 z.f0.f9, .int .i64 z.f0.f10, .int .i64 z.f0.f11, .slice lA z.f1.length lc, .slice lB z.f2.length ld, .bool z.f3]) (w1 := w_) ?_ rfl (Below.refl _ _)
              have q6 := getq hN (by decide) e6
              clear hk h hN hf hI
              go_simp
            · -- operation 8
              have h := ho
              rw [HOPS.out] at ho
              simp only [List.getElem?_toArray, List.getElem?_cons_succ, List.getElem?_cons_zero, List.append_eq, List.cons_append, List.nil_append, Option.some.injEq] at ho
              subst ho
              obtain rfl := Option.some.inj hd
              have e3 : a.tmps.getD 112 undef = .agg #[.int .i64 y.f0.f0, .int .i64 y.f0.f1, .int .i64 y.f0.f2, .int .i64 y.f0.f3, .int .i64 y.f0.f4, .int .i64 y.f0.f5, .int .i64 y.f0.f6, .int .i64 y.f0.f7, .int .i64 y.f0.f8, .int .i64 y.f0.f9, .int .i64 y.f0.f10, .int .i64 y.f0.f11, .slice mA y.f1.length mc, .slice mB y.f2.length md, .bool y.f3] := known_eq (hk 3 (by kernel_rfl)) (by rw [HOPS.out]; rfl) rfl
              have e7 : a.tmps.getD 116 undef = .agg #[.int .i64 z.f0.f0, .int .i64 z.f0.f1, .int .i64 z.f0.f2, .int .i64 z.f0.f3, .int .i64 z.f0.f4, .int .i64 z.f0.f5, .int .i64 z.f0.f6, .int .i64 z.f0.f7, .int .i64 z.f0.f8, .int .i64 z.f0.f9, .int .i64 z.f0.f10, .int .i64 z.f0.f11, .slice lA z.f1.length lc, .slice lB z.f2.length ld, .bool z.f3] := known_eq (hk 7 (by kernel_rfl)) (by rw [HOPS.out]; rfl) rfl
              exact step_call h rfl (wanted_none rfl) Try.func22 (by kernel_rfl) rfl #[.agg #[.int .i64 y.f0.f0, .int .i64 y.f0.f1, .int .i64 y.f0.f2, .int .i64 y.f0.f3, .int .i64 y.f0.f4, .int .i64 y.f0.f5, .int .i64 y.f0.f6, .int .i64 y.f0.f7, .int .i64 y.f0.f8, .int .i64 y.f0.f9, .int .i64 y.f0.f10, .int .i64 y.f0.f11, .slice mA y.f1.length mc, .slice mB y.f2.length md, .bool y.f3], .agg #[.int .i64 z.f0.f0, .int .i64 z.f0.f1, .int .i64 z.f0.f2, .int .i64 z.f0.f3, .int .i64 z.f0.f4, .int .i64 z.f0.f5, .int .i64 z.f0.f6, .int .i64 z.f0.f7, .int .i64 z.f0.f8, .int .i64 z.f0.f9, .int .i64 z.f0.f10, .int .i64 z.f0.f11, .slice lA z.f1.length lc, .slice lB z.f2.length ld, .bool z.f3]] rfl (by simp only [List.map_toArray, List.map_cons, List.map_nil, Act.eval, e3, e7]) ((sameOne_calls y z HFEW.out w_ (Kd.C_below HM.out.2.1 hI) HM.out.1 (Kd.C_below HM.out.2.2.2 hI) HM.out.2.2.1 (Kd.C_below HN.out.2.1 hI) HN.out.1 (Kd.C_below HN.out.2.2.2 hI) HN.out.2.2.1).mono fun e w' ⟨he, hb⟩ => ⟨_, he, rfl, hb⟩)
          intro a w_ hf hI hk
          have e0 : a.tmps.getD 109 undef = .slice (some mad) B.all.length c2 := known_eq (hk 0 (by rw [HOPS.out]; decide)) (by rw [HOPS.out]; rfl) rfl
          have e1 : a.tmps.getD 110 undef = .int .i64 (kk : Int) := known_eq (hk 1 (by rw [HOPS.out]; decide)) (by rw [HOPS.out]; rfl) rfl
          have e2 : a.tmps.getD 111 undef = .pointer (some (mad.add (kk * 15))) := known_eq (hk 2 (by rw [HOPS.out]; decide)) (by rw [HOPS.out]; rfl) rfl
          have e3 : a.tmps.getD 112 undef = .agg #[.int .i64 y.f0.f0, .int .i64 y.f0.f1, .int .i64 y.f0.f2, .int .i64 y.f0.f3, .int .i64 y.f0.f4, .int .i64 y.f0.f5, .int .i64 y.f0.f6, .int .i64 y.f0.f7, .int .i64 y.f0.f8, .int .i64 y.f0.f9, .int .i64 y.f0.f10, .int .i64 y.f0.f11, .slice mA y.f1.length mc, .slice mB y.f2.length md, .bool y.f3] := known_eq (hk 3 (by rw [HOPS.out]; decide)) (by rw [HOPS.out]; rfl) rfl
          have e4 : a.tmps.getD 113 undef = .slice (some lad) B.all.length c1 := known_eq (hk 4 (by rw [HOPS.out]; decide)) (by rw [HOPS.out]; rfl) rfl
          have e5 : a.tmps.getD 114 undef = .int .i64 (kk : Int) := known_eq (hk 5 (by rw [HOPS.out]; decide)) (by rw [HOPS.out]; rfl) rfl
          have e6 : a.tmps.getD 115 undef = .pointer (some (lad.add (kk * 15))) := known_eq (hk 6 (by rw [HOPS.out]; decide)) (by rw [HOPS.out]; rfl) rfl
          have e7 : a.tmps.getD 116 undef = .agg #[.int .i64 z.f0.f0, .int .i64 z.f0.f1, .int .i64 z.f0.f2, .int .i64 z.f0.f3, .int .i64 z.f0.f4, .int .i64 z.f0.f5, .int .i64 z.f0.f6, .int .i64 z.f0.f7, .int .i64 z.f0.f8, .int .i64 z.f0.f9, .int .i64 z.f0.f10, .int .i64 z.f0.f11, .slice lA z.f1.length lc, .slice lB z.f2.length ld, .bool z.f3] := known_eq (hk 7 (by rw [HOPS.out]; decide)) (by rw [HOPS.out]; rfl) rfl
          have e8 : a.tmps.getD 117 undef = .bool (eq41 y z) := known_eq (hk 8 (by rw [HOPS.out]; decide)) (by rw [HOPS.out]; rfl) rfl
          have E := toPuts hf [(109, .slice (some mad) B.all.length c2), (110, .int .i64 (kk : Int)), (111, .pointer (some (mad.add (kk * 15)))), (112, .agg #[.int .i64 y.f0.f0, .int .i64 y.f0.f1, .int .i64 y.f0.f2, .int .i64 y.f0.f3, .int .i64 y.f0.f4, .int .i64 y.f0.f5, .int .i64 y.f0.f6, .int .i64 y.f0.f7, .int .i64 y.f0.f8, .int .i64 y.f0.f9, .int .i64 y.f0.f10, .int .i64 y.f0.f11, .slice mA y.f1.length mc, .slice mB y.f2.length md, .bool y.f3]), (113, .slice (some lad) B.all.length c1), (114, .int .i64 (kk : Int)), (115, .pointer (some (lad.add (kk * 15)))), (116, .agg #[.int .i64 z.f0.f0, .int .i64 z.f0.f1, .int .i64 z.f0.f2, .int .i64 z.f0.f3, .int .i64 z.f0.f4, .int .i64 z.f0.f5, .int .i64 z.f0.f6, .int .i64 z.f0.f7, .int .i64 z.f0.f8, .int .i64 z.f0.f9, .int .i64 z.f0.f10, .int .i64 z.f0.f11, .slice lA z.f1.length lc, .slice lB z.f2.length ld, .bool z.f3]), (117, .bool (eq41 y z))] [109, 110, 111, 112, 113, 114, 115, 116, 117] rfl rfl hK0 (List.forall_mem_cons.2 ⟨e0, (List.forall_mem_cons.2 ⟨e1, (List.forall_mem_cons.2 ⟨e2, (List.forall_mem_cons.2 ⟨e3, (List.forall_mem_cons.2 ⟨e4, (List.forall_mem_cons.2 ⟨e5, (List.forall_mem_cons.2 ⟨e6, (List.forall_mem_cons.2 ⟨e7, (List.forall_mem_cons.2 ⟨e8, (fun _ h_ => by cases h_)⟩)⟩)⟩)⟩)⟩)⟩)⟩)⟩)⟩)
          clear e0 e1 e2 e3 e4 e5 e6 e7 e8 hk hf HOPS hB0 hK0
          subst E
          simp only [puts, Act.put, List.setIfInBounds_toArray, List.set_cons_succ, List.set_cons_zero]
          have HB2 := Aside0.mk (below_step HB.out hI)
          have mx0 := pw_cell_below hI HMX.out.1
          clear hI
          cases hq : eq41 y z with
          | true =>
            have HQ := Aside0.mk hq
            clear hq
            go_wp2_with fail
            go_roundg (B.all.length - (kk + 1))
            case measure => omega
            case rel => exact ⟨kk + 1, by omega, by omega, by go_num, by rw [chg_same (by rintro rfl; rw [HDD.out, ← Hy.out, ← Hz.out, HQ.out]; rfl)], HB2⟩
          | false =>
            have hki : kk = i := Classical.byContradiction (fun hc => by have h_ := hD.out.same kk hlt hc; rw [← Hy.out, ← Hz.out] at h_; rw [h_, eq41_refl] at hq; cases hq)
            subst hki
            have hdt : d = true := by rw [HDD.out, ← Hy.out, ← Hz.out, hq]; rfl
            have hyid : y.f0.f0 = x.f2 := by rw [Hy.out]; exact hD.out.id
            have hc0 : chg kk d kk = 0 := by unfold chg; rw [if_neg (by omega)]
            have hyb : (y.f0.f0 != x.f2) = false := by rw [hyid]; exact bne_self_eq_false _
            rw [hc0]
            clear hq hyid
            go_wp2_with fail
            go_roundg (B.all.length - (kk + 1))
            case measure => omega
            case rel => exact ⟨kk + 1, by omega, by omega, by go_num, by rw [hdt]; unfold chg; rw [if_pos ⟨by omega, rfl⟩], HB2⟩
        · have hltz : ¬ (kk : Int) < (B.all.length : Int) := by omega
          have : kk = B.all.length := by omega
          subst this
          have HPE := Aside0.mk (HP.out.below HB.out)
          have HXE := Aside0.mk (blk_below HX.out HB.out)
          have x0 : wr.cell? ⟨w.heap.size, 0, none⟩ = some (.int .i64 x.f0) := (blk_cell HXE.out 0).trans rfl
          cases hd : d with
          | true =>
            have hc1 : chg i true B.all.length = 1 := by unfold chg; rw [if_pos ⟨hhi, rfl⟩]
            rw [hc1]
            go_wp2_with fail
            refine (aw_all _).mono ?_
            rintro e w9 ⟨rfl, hb⟩
            go_wp2
            go_ret
            exact ⟨rfl, below_step HW0.out (below_step HPE.out.b hb)⟩
          | false =>
            have hc1 : chg i false B.all.length = 0 := by unfold chg; rw [if_neg (fun h => by cases h.2)]
            have h1 : x.f0 = 1 := Classical.byContradiction (fun hc => by have h2 := HNE.out hc; have h3 := HDD.out; rw [hd] at h3; exact h2 (eq41_iff.1 (by simpa using h3.symm)))
            have h1b : (x.f0 == 1) = true := by rw [h1]; rfl
            clear h1
            rw [hc1]
            go_wp2_with fail
            refine (aw_all _).mono ?_
            rintro e w9 ⟨rfl, hb⟩
            go_wp2
            go_ret
            exact ⟨rfl, below_step HW0.out (below_step HPE.out.b hb)⟩
theorem OrderRefused_all (A0 : Option Addr) (c0 : Nat) (l0 : List S35) (x : S35) (w : World) (hr0 : Kd.C k35 w A0 l0.length l0) (hc0 : l0.length ≤ c0) (hwf : wfs l0 = true) (hwx : (Lit.int .i64 x.f3).wf = true) :
    Calls Try.prog 8 #[.slice A0 l0.length c0, .agg #[.int .i64 x.f0, .int .i64 x.f1.f0, .int .i64 x.f1.f1, .int .i64 x.f1.f2, .int .i64 x.f1.f3, .int .i64 x.f1.f4, .int .i64 x.f1.f5, .int .i64 x.f1.f6, .int .i64 x.f1.f7, .int .i64 x.f1.f8, .int .i64 x.f1.f9, .int .i64 x.f1.f10, .int .i64 x.f1.f11, .int .i64 x.f2, .int .i64 x.f3]] w fun e w' => e = .returned (.bool true) ∧ Below w.heap.size w w' := by
  by_cases hN : 60 < l0.length
  · exact OrderRefused_long A0 c0 l0 x w hr0 hc0 hwf hwx hN
  by_cases hr : ((Bk.new.run l0).do_ x).2 = 0
  · by_cases hk : x.f0 = 0
    · exact OrderRefused_add A0 c0 l0 x w hr0 hc0 hwf hwx hN hr hk
    by_cases c3 : x.f0 = 3
    · exact OrderRefused_w3 A0 c0 l0 x w hr0 hc0 hwf hwx hN hr c3
    by_cases c4 : x.f0 = 4
    · exact OrderRefused_w4 A0 c0 l0 x w hr0 hc0 hwf hwx hN hr c4
    · exact OrderRefused_w5 A0 c0 l0 x w hr0 hc0 hwf hwx hN hr hk c3 c4
  · exact OrderRefused_no A0 c0 l0 x w hr0 hc0 hwf hwx hN hr
def papermilllaw51_OrderRefused.f (l0 : List S35)  (a1_0 : Int) (a1_1 : Int) (a1_2 : Int) (a1_3 : Int) (a1_4 : Int) (a1_5 : Int) (a1_6 : Int) (a1_7 : Int) (a1_8 : Int) (a1_9 : Int) (a1_10 : Int) (a1_11 : Int) (a1_12 : Int) (a1_13 : Int) (a1_14 : Int) : Option Bool := if wfs l0 = true ∧ (Lit.int .i64 a1_14).wf = true then some true else none
theorem papermilllaw51_OrderRefused.calls (A0 : Option Addr) (c0 : Nat) (l0 : List S35)  (a1_0 : Int) (a1_1 : Int) (a1_2 : Int) (a1_3 : Int) (a1_4 : Int) (a1_5 : Int) (a1_6 : Int) (a1_7 : Int) (a1_8 : Int) (a1_9 : Int) (a1_10 : Int) (a1_11 : Int) (a1_12 : Int) (a1_13 : Int) (a1_14 : Int) (r : Bool) (w : World) (hr0 : Kd.C k35 w A0 l0.length l0) (hc0 : l0.length ≤ c0) (h : papermilllaw51_OrderRefused.f l0 a1_0 a1_1 a1_2 a1_3 a1_4 a1_5 a1_6 a1_7 a1_8 a1_9 a1_10 a1_11 a1_12 a1_13 a1_14 = some r) :
    Calls Try.prog 8 #[.slice A0 l0.length c0, .agg #[.int .i64 a1_0, .int .i64 a1_1, .int .i64 a1_2, .int .i64 a1_3, .int .i64 a1_4, .int .i64 a1_5, .int .i64 a1_6, .int .i64 a1_7, .int .i64 a1_8, .int .i64 a1_9, .int .i64 a1_10, .int .i64 a1_11, .int .i64 a1_12, .int .i64 a1_13, .int .i64 a1_14]] w fun e w' => e = .returned (.bool r) ∧ Below w.heap.size w w' := by
  unfold papermilllaw51_OrderRefused.f at h
  split at h
  · rename_i hw0
    obtain rfl := Option.some.inj h
    exact OrderRefused_all A0 c0 l0 ⟨a1_0, ⟨a1_1, a1_2, a1_3, a1_4, a1_5, a1_6, a1_7, a1_8, a1_9, a1_10, a1_11, a1_12⟩, a1_13, a1_14⟩ w hr0 hc0 hw0.1 hw0.2
  · cases h

end Go.Proofs.Ythmhehfbepijgaa.Q
