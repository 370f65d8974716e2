/- Plain Lean functions of the Go functions, and proofs that the Go calls come to them; laid out by this session's program wip/tools/hp.py. -/
import Derived.Test.YthmhehfbepijgaaQ0
import Derived.Test.YthmhehfbepijgaaQ5
import Derived.Test.YthmhehfbepijgaaQ7
namespace Go.Proofs.Ythmhehfbepijgaa.Q
open Go.RowKit Go.Proofs.YthmhehfbepijgaaW.PrintWords Go.Proofs.YthmhehfbepijgaaW.PrintLast Go.Proofs.YthmhehfbepijgaaW.PrintMore
attribute [local go_sem] max2_int min2_int max_two min_two max_three min_three max_four min_four   -- for this text's walks alone
set_option linter.unusedVariables false
set_option linter.unusedSimpArgs false

/-! ### papermilllaw51_OrderReturns: function 5, by hand -/
open Mono in
set_option maxHeartbeats 16000000 in
set_option maxRecDepth 100000 in
theorem OrderReturns_all (A0 : Option Addr) (c0 : Nat) (l0 : List S35) (id roll : Int) (w : World) (hr0 : Kd.C k35 w A0 l0.length l0) (hc0 : l0.length ≤ c0) (hwf : wfs l0 = true) (hw : (Lit.int .i64 roll).wf = true) :
    Calls Try.prog 5 #[.slice A0 l0.length c0, .int .i64 id, .int .i64 roll] w fun e w' => e = .returned (.bool true) ∧ Below w.heap.size w w' := by
  have hu35 := Try.underlying35
  have hu23 := Try.underlying23
  have hu41 := Try.underlying41
  have hlen := hr0.2.1
  have HR0 := Aside0.mk hr0
  have HC0 := Aside0.mk hc0
  have HWF := Aside0.mk hwf
  clear hr0 hc0 hwf
  have HW := Aside0.mk hw
  clear hw
  by_cases hN : 60 < l0.length
  · have c1b : decide ((60 : Int) < (l0.length : Int)) = true := decide_eq_true (by omega)
    have c1n : decide (60 < l0.length) = true := decide_eq_true hN
    have c1m := eq_true hN
    go_enter Try.func5, Try.ntmps5
    go_wp2_with fail
    refine (LB.new w _ (Below.refl _ _)).mono ?_
    rintro e w1 ⟨P, pb, pm, rfl, h, _, _⟩
    have HB := Aside0.mk h.b
    clear h
    go_wp2_with fail
    refine (aw_all _).mono ?_
    rintro e w2 ⟨rfl, hb⟩
    go_wp2
    go_ret
    exact ⟨rfl, below_step HB.out hb⟩
  have c1b : decide ((60 : Int) < (l0.length : Int)) = false := decide_eq_false (by omega)
  have c1n : decide (60 < l0.length) = false := decide_eq_false hN
  have c1m := eq_false hN
  go_enter Try.func5, Try.ntmps5
  go_wp2_with fail
  refine (LB.new w _ (Below.refl _ _)).mono ?_
  rintro e w1 ⟨P0, pb, pm, rfl, h, _, _⟩
  have H1 : Aside0 (∃ P, LB w P pb pm w1 (Bk.new.run (l0.take 0))) := ⟨P0, h⟩
  clear h
  go_wp2_with fail
  go_loopg [8] l0.length (fun gg v8 wr => ∃ kk : Nat, kk ≤ l0.length ∧ l0.length - kk ≤ gg ∧ v8 = .int .i64 kk ∧ Aside0 (∃ P, LB w P pb pm wr (Bk.new.run (l0.take kk))))
  case atStart => exact ⟨0, Nat.zero_le _, by omega, rfl, H1⟩
  case round =>
    clear H1
    obtain ⟨kk, hkk, hg, rfl, HB⟩ := hrel
    by_cases hlt : kk < l0.length
    · have hltz : (kk : Int) < (l0.length : Int) := by omega
      obtain ⟨P, hP⟩ := HB.out
      have HP := Aside0.mk hP
      have HC := Aside0.mk (Kd.C_below HR0.out hP.b)
      have HWX := Aside0.mk (wfs_at HWF.out hlt)
      have HI := Aside0.mk (Bk.Inv.taken l0 kk (T := 900) (by omega))
      clear hP HB
      obtain ⟨ad, e, x0, x1, x2, x3, x4, x5, x6, x7, x8, x9, x10, x11, x12, x13, x14⟩ := at_T35 HC.out (kk : Int) (by omega) hltz
      subst e
      obtain ⟨x, HX⟩ : ∃ x, Aside0 (x = rd_T35 l0 (kk : Int)) := ⟨_, ⟨rfl⟩⟩
      rw [← HX.out] at HWX x0 x1 x2 x3 x4 x5 x6 x7 x8 x9 x10 x11 x12 x13 x14
      rw [Int.toNat_natCast] at x0 x1 x2 x3 x4 x5 x6 x7 x8 x9 x10 x11 x12 x13 x14
      go_wp2_with fail
      refine (LB.do_ HP.out HI.out (Nat.le_refl _) x HWX.out).mono ?_
      rintro e w2 ⟨rfl, P2, h, _, _⟩
      have HB2 : Aside0 (∃ P, LB w P pb pm w2 (Bk.new.run (l0.take (kk + 1)))) := ⟨P2, by rw [run_take l0 hlt, ← HX.out]; exact h⟩
      clear h
      go_wp2_with fail
      go_roundg (l0.length - (kk + 1))
      case measure => omega
      case rel => exact ⟨kk + 1, by omega, by omega, by go_num, HB2⟩
    · have hltz : ¬ (kk : Int) < (l0.length : Int) := by omega
      have : kk = l0.length := by omega
      subst this
      obtain ⟨P, hP⟩ := HB.out
      rw [List.take_length] at hP
      have hI := Bk.Inv.taken l0 l0.length (T := 60) (by omega)
      rw [List.take_length] at hI
      generalize Bk.new.run l0 = B at hP hI
      have HP := Aside0.mk hP
      have HI := Aside0.mk hI
      have HA := Aside0.mk (LB.Assign hP (hI.ok (by omega)) id roll)
      clear HB hP hI
      by_cases ha : (B.Assign id roll).2 = 0
      · obtain ⟨B1, B3, B4, e1, e2, e3, e4, ⟨s, e5, l, e6⟩, e7, e8, e9, e10, e11⟩ := returns HI.out ha
        have I1 : Aside0 (B1.Inv 61) := ⟨e1 ▸ HI.out.Assign id roll⟩
        have I2 : Aside0 ((⟨B.es, B.n + 1, B.asg⟩ : Bk).Inv 62) := ⟨by have := I1.out.Release roll; rw [e2] at this; exact this⟩
        have I3 : Aside0 (B3.Inv 63) := ⟨by have := I2.out.Assign id roll; rw [e4] at this; exact this⟩
        have I4 : Aside0 (B4.Inv 64) := ⟨by have := I3.out.Ship roll; rw [e8] at this; exact this⟩
        generalize (⟨B.es, B.n + 1, B.asg⟩ : Bk) = B2 at e2 e3 e4 I2
        have q := HA.out
        rw [ha, e1] at q
        clear HA
        have E2 := Aside0.mk e2
        have E3 := Aside0.mk e3
        have E4 := Aside0.mk e4
        have E5 := Aside0.mk e5
        have E7 := Aside0.mk e7
        have E8 := Aside0.mk e8
        have E9 := Aside0.mk e9
        have E10 := Aside0.mk e10
        have E11 := Aside0.mk e11
        have E6 := Aside0.mk e6
        clear e1 e2 e3 e4 e5 e6 e7 e8 e9 e10 e11 ha
        go_wp2_with fail
        refine q.mono ?_
        clear q
        rintro e w2 ⟨rfl, P2, h, _, _⟩
        have q := LB.Release h (I1.out.ok (by omega)) roll HW.out (I1.out.hin roll)
        rw [E2.out] at q
        dsimp only at q
        clear h
        go_wp2_with fail
        refine q.mono ?_
        clear q
        rintro e w2 ⟨rfl, P2, h, _, _⟩
        have HBK := Aside0.mk h
        have q := LB.Find h roll HW.out (0, false) E3.out
        clear h
        go_wp2_with fail
        refine q.mono ?_
        clear q
        rintro e w3 ⟨rfl, hb⟩
        have q := LB.Assign (HBK.out.below hb) (I2.out.ok (by omega)) id roll
        rw [E4.out] at q
        dsimp only at q
        clear hb HBK
        go_wp2_with fail
        refine q.mono ?_
        clear q
        rintro e w2 ⟨rfl, P2, h, _, _⟩
        have HBK := Aside0.mk h
        have q := LB.Status h (I3.out.ok (by omega)) id
        rw [E5.out, E6.out] at q
        dsimp only at q
        clear h
        go_wp2_with fail
        refine q.mono ?_
        clear q
        rintro e w3 ⟨v12, v13, rfl, h12, h13, hb⟩
        have HBL := Aside0.mk (HBK.out.below hb)
        obtain ⟨A12, c12, e12⟩ := Kd.R_slice h12
        subst e12
        obtain ⟨A13, c13, e13⟩ := Kd.R_slice h13
        subst e13
        have hC := (Kd.R_reads' h12).2.2
        obtain ⟨ad, e, hcell⟩ := Kd.at_int hC (l.length : Int) (by omega) (by simp; omega)
        subst e
        have hrd : rd (l ++ [roll]) (l.length : Int) = roll := by unfold rd; rw [Int.toNat_natCast, List.getD_eq_getElem?_getD, List.getElem?_append_right (Nat.le_refl _)]; simp
        rw [hrd, Int.toNat_natCast] at hcell
        have hle : (l ++ [roll]).length = l.length + 1 := by simp
        rw [hle]
        have hcl : ∀ o, (w3.alloc o).cell? (ad.add l.length) = some (.int .i64 roll) := fun o => pw_cell_below (below_alloc (Below.refl _ _) o) hcell
        have hL := hC.2.1
        rw [hle] at hL
        have hwr : wrap64 (l.length : Int) = (l.length : Int) := wrapS (by omega) (by omega)
        have hne : ((l.length : Int) + 1 == 0) = false := by simp; omega
        have hne1 : ((l.length : Int) + 1 = 0) = False := eq_false (by omega)
        have hz : (0 ≤ (l.length : Int)) = True := eq_true (by omega)
        clear hb h12 h13 hC HBK hrd hL
        have HBM := Aside0.mk (HBL.out.below (below_alloc (Below.refl _ _) (.cells #[.int .i64 s.f0.f0, .int .i64 s.f0.f1, .int .i64 s.f0.f2, .int .i64 s.f0.f3, .int .i64 s.f0.f4, .int .i64 s.f0.f5, .int .i64 s.f0.f6, .int .i64 s.f0.f7, .int .i64 s.f0.f8, .int .i64 s.f0.f9, .int .i64 s.f0.f10, .int .i64 s.f0.f11, .slice (some ad) (l.length + 1) c12, .slice A13 s.f2.length c13, .bool s.f3] 41)))
        have q := LB.Find HBM.out roll HW.out (id, true) E7.out
        go_wp2_with fail
        refine q.mono ?_
        rintro e w4 ⟨rfl, hb⟩
        have HBN := Aside0.mk (HBM.out.below hb)
        clear q hb hcl hcell HBL HBM
        have q := LB.Ship HBN.out (I3.out.ok (by omega)) roll HW.out
        rw [E8.out] at q
        dsimp only at q
        clear HBN
        go_wp2_with fail
        refine q.mono ?_
        clear q
        rintro e w2 ⟨rfl, P2, h, _, _⟩
        have q := LB.Release h (I4.out.ok (by omega)) roll HW.out (I4.out.hin roll)
        rw [E9.out] at q
        dsimp only at q
        clear h
        go_wp2_with fail
        refine q.mono ?_
        clear q
        rintro e w2 ⟨rfl, P2, h, _, _⟩
        have q := LB.Ship h (I4.out.ok (by omega)) roll HW.out
        rw [E10.out] at q
        dsimp only at q
        clear h
        go_wp2_with fail
        refine q.mono ?_
        clear q
        rintro e w2 ⟨rfl, P2, h, _, _⟩
        have q := LB.Assign h (I4.out.ok (by omega)) id roll
        rw [E11.out] at q
        dsimp only at q
        clear h
        go_wp2_with fail
        refine q.mono ?_
        clear q
        rintro e w2 ⟨rfl, P2, h, _, _⟩
        have HB9 := Aside0.mk h.b
        clear h
        have q := aw_all w2
        go_wp2_with fail
        refine q.mono ?_
        clear q
        rintro e w5 ⟨rfl, hb⟩
        go_wp2
        go_ret
        exact ⟨rfl, below_step HB9.out hb⟩
      · generalize (B.Assign id roll).2 = rr at ha HA
        have hrr : (rr != 0) = true := bne_iff_ne.mpr ha
        clear ha
        go_wp2_with fail
        refine HA.out.mono ?_
        rintro e w2 ⟨rfl, P2, h, _, _⟩
        have HB9 := Aside0.mk h.b
        clear h
        go_wp2_with fail
        refine (aw_all _).mono ?_
        rintro e w3 ⟨rfl, hb⟩
        go_wp2
        go_ret
        exact ⟨rfl, below_step HB9.out hb⟩
def papermilllaw51_OrderReturns.f (l0 : List S35) (a1 : Int) (a2 : Int) : Option Bool := if wfs l0 = true ∧ (Lit.int .i64 a2).wf = true then some true else none
theorem papermilllaw51_OrderReturns.calls (A0 : Option Addr) (c0 : Nat) (l0 : List S35) (a1 : Int) (a2 : Int) (r : Bool) (w : World) (hr0 : Kd.C k35 w A0 l0.length l0) (hc0 : l0.length ≤ c0) (h : papermilllaw51_OrderReturns.f l0 a1 a2 = some r) :
    Calls Try.prog 5 #[.slice A0 l0.length c0, .int .i64 a1, .int .i64 a2] w fun e w' => e = .returned (.bool r) ∧ Below w.heap.size w w' := by
  unfold papermilllaw51_OrderReturns.f at h
  split at h
  · rename_i hw0
    obtain rfl := Option.some.inj h
    exact OrderReturns_all A0 c0 l0 a1 a2 w hr0 hc0 hw0.1 hw0.2
  · cases h

end Go.Proofs.Ythmhehfbepijgaa.Q
