import Derived.Test.YthmhehfbepijgaaBQ0
import Derived.Test.YthmhehfbepijgaaBQ2
import Derived.Test.YthmhehfbepijgaaBR12
import Derived.Test.YthmhehfbepijgaaBQ5
import Derived.Test.YthmhehfbepijgaaBQ6
import Derived.Test.YthmhehfbepijgaaBQ7
import Derived.Test.YthmhehfbepijgaaBQ8
import Derived.Test.YthmhehfbepijgaaBQ9
import Derived.Test.YthmhehfbepijgaaBQ11
import Derived.Test.YthmhehfbepijgaaBQ12
import Derived.Test.YthmhehfbepijgaaBQ16
import Derived.Test.YthmhehfbepijgaaBT37
import Derived.Test.YthmhehfbepijgaaBT39
import Derived.Test.YthmhehfbepijgaaBT40
import Derived.Test.YthmhehfbepijgaaBT41
namespace Go.Proofs.Ythmhehfbepijgaa.Q
open Go.RowKit Go.Proofs.YthmhehfbepijgaaW.PrintWords Go.Proofs.YthmhehfbepijgaaW.PrintLast Go.Proofs.YthmhehfbepijgaaW.PrintMore
attribute [local go_sem] max2_int min2_int max_two min_two max_three min_three max_four min_four
set_option linter.unusedVariables false
set_option linter.unusedSimpArgs false
set_option maxHeartbeats 16000000 in
open Mono in
set_option maxHeartbeats 16000000 in
set_option maxRecDepth 100000 in
theorem OrderFinds_long (A0 : Option Addr) (c0 : Nat) (l0 : List S35) (n id : Int) (w : World) (hr0 : Kd.C k35 w A0 l0.length l0) (hc0 : l0.length ≤ c0) (hwf : wfs l0 = true) (hw : (Lit.int .i64 n).wf = true) (hN : 120 < l0.length) :
    Calls Try.prog 4 #[.slice A0 l0.length c0, .int .i64 n, .int .i64 id] w fun e w' => e = .returned (.bool true) ∧ Below w.heap.size w w' := by
  have hu35 := Try.underlying35
  have hu23 := Try.underlying23
  have hu41 := Try.underlying41
  have hlen := hr0.2.1
  have HR0 := Aside0.mk hr0
  have HC0 := Aside0.mk hc0
  have HWF := Aside0.mk hwf
  clear hr0 hc0 hwf
  have HW := Aside0.mk hw
  clear hw
  have c1b : decide ((120 : Int) < (l0.length : Int)) = true := decide_eq_true (by omega)
  have c1n : decide (120 < l0.length) = true := decide_eq_true hN
  have c1m := eq_true hN
  go_enter Try.func4, Try.ntmps4
  go_wp2_with fail
  refine (BR.new w).mono ?_
  rintro e w1 ⟨P, pb, pm, rfl, h⟩
  have H1 := Aside0.mk h
  clear h
  go_wp2_with fail
  refine (BR.newR H1.out).mono ?_
  rintro e w1b ⟨pr, rfl, h⟩
  have HB := Aside0.mk h.b
  clear h
  go_wp2_with fail
  refine (aw_all _).mono ?_
  rintro e w2 ⟨rfl, hb⟩
  go_wp2
  go_ret
  exact ⟨rfl, below_step HB.out hb⟩
open Mono in
set_option maxHeartbeats 16000000 in
set_option maxRecDepth 100000 in
theorem OrderFinds_all (A0 : Option Addr) (c0 : Nat) (l0 : List S35) (n id : Int) (w : World) (hr0 : Kd.C k35 w A0 l0.length l0) (hc0 : l0.length ≤ c0) (hwf : wfs l0 = true) (hw : (Lit.int .i64 n).wf = true) (hN : ¬ 120 < l0.length) :
    Calls Try.prog 4 #[.slice A0 l0.length c0, .int .i64 n, .int .i64 id] w fun e w' => e = .returned (.bool true) ∧ Below w.heap.size w w' := by
  have hu35 := Try.underlying35
  have hu23 := Try.underlying23
  have hu41 := Try.underlying41
  have hlen := hr0.2.1
  have HR0 := Aside0.mk hr0
  have HC0 := Aside0.mk hc0
  have HWF := Aside0.mk hwf
  clear hr0 hc0 hwf
  have HW := Aside0.mk hw
  clear hw
  have c1b : decide ((120 : Int) < (l0.length : Int)) = false := decide_eq_false (by omega)
  have c1n : decide (120 < l0.length) = false := decide_eq_false hN
  have c1m := eq_false hN
  go_enter Try.func4, Try.ntmps4
  go_wp2_with fail
  refine (BR.new w).mono ?_
  rintro e w1 ⟨P, pb, pm, rfl, h⟩
  have H0 := Aside0.mk h
  clear h
  go_wp2_with fail
  refine (BR.newR H0.out).mono ?_
  rintro e w1b ⟨pr, rfl, h⟩
  have H1 : Aside0 (BR w pb pm pr w1b (Bk.new.run (l0.take 0)) (Bk.new.run (l0.take 0))) := ⟨h⟩
  clear h H0
  go_wp2_with fail
  go_loopg [9] l0.length (fun gg v9 wr => ∃ kk : Nat, kk ≤ l0.length ∧ l0.length - kk ≤ gg ∧ v9 = .int .i64 kk ∧ Aside0 (BR w pb pm pr wr (Bk.new.run (l0.take kk)) (Bk.new.run (l0.take kk))))
  case atStart => exact ⟨0, Nat.zero_le _, by omega, rfl, H1⟩
  case round =>
    clear H1
    obtain ⟨kk, hkk, hg, rfl, HB⟩ := hrel
    by_cases hlt : kk < l0.length
    · have hltz : (kk : Int) < (l0.length : Int) := by omega
      have HWX := Aside0.mk (wfs_at HWF.out hlt)
      have HI := Aside0.mk (Bk.Inv.taken l0 kk (T := 120) (by omega))
      have HI2 := Aside0.mk (Bk.Inv.taken l0 (kk + 1) (T := 120) (by omega))
      have HTK := Aside0.mk (run_take l0 hlt)
      obtain ⟨ad, e, x0, x1, x2, x3, x4, x5, x6, x7, x8, x9, x10, x11, x12, x13, x14⟩ := at_T35 HR0.out (kk : Int) (by omega) hltz
      subst e
      obtain ⟨x, HX⟩ : ∃ x, Aside0 (x = rd_T35 l0 (kk : Int)) := ⟨_, ⟨rfl⟩⟩
      rw [← HX.out] at HWX HTK x0 x1 x2 x3 x4 x5 x6 x7 x8 x9 x10 x11 x12 x13 x14
      rw [Int.toNat_natCast] at x0 x1 x2 x3 x4 x5 x6 x7 x8 x9 x10 x11 x12 x13 x14
      have HX0 := Aside0.mk x0
      have HX1 := Aside0.mk x1
      have HX2 := Aside0.mk x2
      have HX3 := Aside0.mk x3
      have HX4 := Aside0.mk x4
      have HX5 := Aside0.mk x5
      have HX6 := Aside0.mk x6
      have HX7 := Aside0.mk x7
      have HX8 := Aside0.mk x8
      have HX9 := Aside0.mk x9
      have HX10 := Aside0.mk x10
      have HX11 := Aside0.mk x11
      have HX12 := Aside0.mk x12
      have HX13 := Aside0.mk x13
      have HX14 := Aside0.mk x14
      clear x0 x1 x2 x3 x4 x5 x6 x7 x8 x9 x10 x11 x12 x13 x14
      have x0 := pw_cell_below HB.out.b HX0.out
      have x1 := pw_cell_below HB.out.b HX1.out
      have x2 := pw_cell_below HB.out.b HX2.out
      have x3 := pw_cell_below HB.out.b HX3.out
      have x4 := pw_cell_below HB.out.b HX4.out
      have x5 := pw_cell_below HB.out.b HX5.out
      have x6 := pw_cell_below HB.out.b HX6.out
      have x7 := pw_cell_below HB.out.b HX7.out
      have x8 := pw_cell_below HB.out.b HX8.out
      have x9 := pw_cell_below HB.out.b HX9.out
      have x10 := pw_cell_below HB.out.b HX10.out
      have x11 := pw_cell_below HB.out.b HX11.out
      have x12 := pw_cell_below HB.out.b HX12.out
      have x13 := pw_cell_below HB.out.b HX13.out
      have x14 := pw_cell_below HB.out.b HX14.out
      go_wp2_with fail
      refine (BR.do_ HB.out HI.out (by omega) x HWX.out).mono ?_
      rintro e w2 ⟨rfl, h⟩
      have HB2 := Aside0.mk h
      clear h HB x0 x1 x2 x3 x4 x5 x6 x7 x8 x9 x10 x11 x12 x13 x14
      have x0 := pw_cell_below HB2.out.b HX0.out
      have x1 := pw_cell_below HB2.out.b HX1.out
      have x2 := pw_cell_below HB2.out.b HX2.out
      have x3 := pw_cell_below HB2.out.b HX3.out
      have x4 := pw_cell_below HB2.out.b HX4.out
      have x5 := pw_cell_below HB2.out.b HX5.out
      have x6 := pw_cell_below HB2.out.b HX6.out
      have x7 := pw_cell_below HB2.out.b HX7.out
      have x8 := pw_cell_below HB2.out.b HX8.out
      have x9 := pw_cell_below HB2.out.b HX9.out
      have x10 := pw_cell_below HB2.out.b HX10.out
      have x11 := pw_cell_below HB2.out.b HX11.out
      have x12 := pw_cell_below HB2.out.b HX12.out
      have x13 := pw_cell_below HB2.out.b HX13.out
      have x14 := pw_cell_below HB2.out.b HX14.out
      go_wp2_with fail
      refine (BR.must HB2.out HI.out (by omega) x).mono ?_
      rintro e w3 ⟨rfl, h⟩
      rw [← HTK.out] at h
      have HB3 := Aside0.mk h
      clear h HB2 x0 x1 x2 x3 x4 x5 x6 x7 x8 x9 x10 x11 x12 x13 x14
      go_wp2_with fail
      go_roundg (l0.length - (kk + 1))
      case measure => omega
      case rel => exact ⟨kk + 1, by omega, by omega, by go_num, HB3⟩
    · have hltz : ¬ (kk : Int) < (l0.length : Int) := by omega
      have hke : kk = l0.length := by omega
      subst hke
      rw [List.take_length] at HB
      have hI := Bk.Inv.taken l0 l0.length (T := 120) (by omega)
      rw [List.take_length] at hI
      generalize Bk.new.run l0 = B at HB hI
      have HI := Aside0.mk hI
      clear hI
      obtain ⟨rf, hrf⟩ := HI.out.findSome n
      have HRF := Aside0.mk hrf
      clear hrf
      obtain ⟨S, rs, hS⟩ : ∃ S rs, B.Status id = (S, rs) := ⟨_, _, rfl⟩
      have HSS := Aside0.mk hS
      have HFW : Aside0 (Few S) := ⟨by have h_ := HI.out.fewS (by omega) id; rw [hS] at h_; exact h_⟩
      clear hS
      go_wp2_with fail
      refine (BR.Find HB.out n HW.out rf HRF.out).mono ?_
      rintro e w2 ⟨rfl, hb⟩
      replace HB := Aside0.mk (HB.out.below hb)
      clear hb
      go_wp2_with fail
      refine (BR.FindR HB.out HI.out (by omega) n rf HRF.out).mono ?_
      rintro e w3 ⟨rfl, hb⟩
      replace HB := Aside0.mk (HB.out.below hb)
      clear hb
      go_wp2_with fail
      refine (BR.Status HB.out (HI.out.ok (by omega)) id S rs HSS.out).mono ?_
      rintro e w4 ⟨A1, b1, A2, b2, rfl, h1, h2, hb⟩
      have HR1 := Aside0.mk h1
      have HR2 := Aside0.mk h2
      clear h1 h2
      replace HB := Aside0.mk (HB.out.below hb)
      clear hb
      have HA4 := Aside0.mk (below_alloc (Below.refl w4.heap.size w4) (.cells #[.int .i64 S.f0.f0, .int .i64 S.f0.f1, .int .i64 S.f0.f2, .int .i64 S.f0.f3, .int .i64 S.f0.f4, .int .i64 S.f0.f5, .int .i64 S.f0.f6, .int .i64 S.f0.f7, .int .i64 S.f0.f8, .int .i64 S.f0.f9, .int .i64 S.f0.f10, .int .i64 S.f0.f11, .slice A1 S.f1.length b1, .slice A2 S.f2.length b2, .bool S.f3] 41))
      replace HB := Aside0.mk (HB.out.below HA4.out)
      go_wp2_with fail
      refine (BR.StatusR HB.out HI.out id S rs HSS.out).mono ?_
      rintro e w5 ⟨A3, b3, A4, b4, rfl, h3, h4, hb⟩
      have HS1 : Aside0 (w5.heap[w4.heap.size]? = some (.cells #[.int .i64 S.f0.f0, .int .i64 S.f0.f1, .int .i64 S.f0.f2, .int .i64 S.f0.f3, .int .i64 S.f0.f4, .int .i64 S.f0.f5, .int .i64 S.f0.f6, .int .i64 S.f0.f7, .int .i64 S.f0.f8, .int .i64 S.f0.f9, .int .i64 S.f0.f10, .int .i64 S.f0.f11, .slice A1 S.f1.length b1, .slice A2 S.f2.length b2, .bool S.f3] 41 (0, 0))) := ⟨blk_below (blk_new w4 _) hb⟩
      have hb2 := below_step HA4.out hb
      have HR1b := Aside0.mk (And.intro HR1.out.1 (Kd.C_below HR1.out.2 hb2))
      have HR2b := Aside0.mk (And.intro HR2.out.1 (Kd.C_below HR2.out.2 hb2))
      have HR3 := Aside0.mk h3
      have HR4 := Aside0.mk h4
      clear h3 h4 hb2 HR1 HR2 HA4
      replace HB := Aside0.mk (HB.out.below hb)
      clear hb
      have s0 : ∀ o, (w5.alloc o).cell? ⟨w4.heap.size, 0, none⟩ = some (.int .i64 S.f0.f0) := fun o => (blk_cell (blk_below HS1.out (below_alloc (Below.refl _ _) o)) 0).trans rfl
      have s1 : ∀ o, (w5.alloc o).cell? ⟨w4.heap.size, 1, none⟩ = some (.int .i64 S.f0.f1) := fun o => (blk_cell (blk_below HS1.out (below_alloc (Below.refl _ _) o)) 1).trans rfl
      have s2 : ∀ o, (w5.alloc o).cell? ⟨w4.heap.size, 2, none⟩ = some (.int .i64 S.f0.f2) := fun o => (blk_cell (blk_below HS1.out (below_alloc (Below.refl _ _) o)) 2).trans rfl
      have s3 : ∀ o, (w5.alloc o).cell? ⟨w4.heap.size, 3, none⟩ = some (.int .i64 S.f0.f3) := fun o => (blk_cell (blk_below HS1.out (below_alloc (Below.refl _ _) o)) 3).trans rfl
      have s4 : ∀ o, (w5.alloc o).cell? ⟨w4.heap.size, 4, none⟩ = some (.int .i64 S.f0.f4) := fun o => (blk_cell (blk_below HS1.out (below_alloc (Below.refl _ _) o)) 4).trans rfl
      have s5 : ∀ o, (w5.alloc o).cell? ⟨w4.heap.size, 5, none⟩ = some (.int .i64 S.f0.f5) := fun o => (blk_cell (blk_below HS1.out (below_alloc (Below.refl _ _) o)) 5).trans rfl
      have s6 : ∀ o, (w5.alloc o).cell? ⟨w4.heap.size, 6, none⟩ = some (.int .i64 S.f0.f6) := fun o => (blk_cell (blk_below HS1.out (below_alloc (Below.refl _ _) o)) 6).trans rfl
      have s7 : ∀ o, (w5.alloc o).cell? ⟨w4.heap.size, 7, none⟩ = some (.int .i64 S.f0.f7) := fun o => (blk_cell (blk_below HS1.out (below_alloc (Below.refl _ _) o)) 7).trans rfl
      have s8 : ∀ o, (w5.alloc o).cell? ⟨w4.heap.size, 8, none⟩ = some (.int .i64 S.f0.f8) := fun o => (blk_cell (blk_below HS1.out (below_alloc (Below.refl _ _) o)) 8).trans rfl
      have s9 : ∀ o, (w5.alloc o).cell? ⟨w4.heap.size, 9, none⟩ = some (.int .i64 S.f0.f9) := fun o => (blk_cell (blk_below HS1.out (below_alloc (Below.refl _ _) o)) 9).trans rfl
      have s10 : ∀ o, (w5.alloc o).cell? ⟨w4.heap.size, 10, none⟩ = some (.int .i64 S.f0.f10) := fun o => (blk_cell (blk_below HS1.out (below_alloc (Below.refl _ _) o)) 10).trans rfl
      have s11 : ∀ o, (w5.alloc o).cell? ⟨w4.heap.size, 11, none⟩ = some (.int .i64 S.f0.f11) := fun o => (blk_cell (blk_below HS1.out (below_alloc (Below.refl _ _) o)) 11).trans rfl
      have s12 : ∀ o, (w5.alloc o).cell? ⟨w4.heap.size, 12, none⟩ = some (.slice A1 S.f1.length b1) := fun o => (blk_cell (blk_below HS1.out (below_alloc (Below.refl _ _) o)) 12).trans rfl
      have s13 : ∀ o, (w5.alloc o).cell? ⟨w4.heap.size, 13, none⟩ = some (.slice A2 S.f2.length b2) := fun o => (blk_cell (blk_below HS1.out (below_alloc (Below.refl _ _) o)) 13).trans rfl
      have s14 : ∀ o, (w5.alloc o).cell? ⟨w4.heap.size, 14, none⟩ = some (.bool S.f3) := fun o => (blk_cell (blk_below HS1.out (below_alloc (Below.refl _ _) o)) 14).trans rfl
      have q := sameOne_calls S S HFW.out (w5.alloc (.cells #[.int .i64 S.f0.f0, .int .i64 S.f0.f1, .int .i64 S.f0.f2, .int .i64 S.f0.f3, .int .i64 S.f0.f4, .int .i64 S.f0.f5, .int .i64 S.f0.f6, .int .i64 S.f0.f7, .int .i64 S.f0.f8, .int .i64 S.f0.f9, .int .i64 S.f0.f10, .int .i64 S.f0.f11, .slice A3 S.f1.length b3, .slice A4 S.f2.length b4, .bool S.f3] 41)) (Kd.C_alloc HR1b.out.2 _) HR1b.out.1 (Kd.C_alloc HR2b.out.2 _) HR2b.out.1 (Kd.C_alloc HR3.out.2 _) HR3.out.1 (Kd.C_alloc HR4.out.2 _) HR4.out.1
      rw [eq41_refl] at q
      have HBA := Aside0.mk (HB.out.below (below_alloc (Below.refl w5.heap.size w5) (.cells #[.int .i64 S.f0.f0, .int .i64 S.f0.f1, .int .i64 S.f0.f2, .int .i64 S.f0.f3, .int .i64 S.f0.f4, .int .i64 S.f0.f5, .int .i64 S.f0.f6, .int .i64 S.f0.f7, .int .i64 S.f0.f8, .int .i64 S.f0.f9, .int .i64 S.f0.f10, .int .i64 S.f0.f11, .slice A3 S.f1.length b3, .slice A4 S.f2.length b4, .bool S.f3] 41)))
      go_wp2_with fail
      refine q.mono ?_
      clear q s0 s1 s2 s3 s4 s5 s6 s7 s8 s9 s10 s11 s12 s13 s14
      rintro e w6 ⟨rfl, hb⟩
      replace HBA := Aside0.mk (HBA.out.below hb)
      clear hb
      go_wp2_with fail
      refine (aw_all _).mono ?_
      rintro e w7 ⟨rfl, hb⟩
      go_wp2
      go_ret
      exact ⟨rfl, below_step HBA.out.b hb⟩
theorem OrderFinds_all_ (A0 : Option Addr) (c0 : Nat) (l0 : List S35) (n id : Int) (w : World) (hr0 : Kd.C k35 w A0 l0.length l0) (hc0 : l0.length ≤ c0) (hwf : wfs l0 = true) (hw : (Lit.int .i64 n).wf = true) :
    Calls Try.prog 4 #[.slice A0 l0.length c0, .int .i64 n, .int .i64 id] w fun e w' => e = .returned (.bool true) ∧ Below w.heap.size w w' := by
  by_cases hN : 120 < l0.length
  · exact OrderFinds_long A0 c0 l0 n id w hr0 hc0 hwf hw hN
  · exact OrderFinds_all A0 c0 l0 n id w hr0 hc0 hwf hw hN
def papermilllaw51_OrderFinds.f (l0 : List S35) (a1 : Int) (a2 : Int) : Option Bool := if wfs l0 = true ∧ (Lit.int .i64 a1).wf = true then some true else none
theorem papermilllaw51_OrderFinds.calls (A0 : Option Addr) (c0 : Nat) (l0 : List S35) (a1 : Int) (a2 : Int) (r : Bool) (w : World) (hr0 : Kd.C k35 w A0 l0.length l0) (hc0 : l0.length ≤ c0) (h : papermilllaw51_OrderFinds.f l0 a1 a2 = some r) :
    Calls Try.prog 4 #[.slice A0 l0.length c0, .int .i64 a1, .int .i64 a2] w fun e w' => e = .returned (.bool r) ∧ Below w.heap.size w w' := by
  unfold papermilllaw51_OrderFinds.f at h
  split at h
  · rename_i hw0
    obtain rfl := Option.some.inj h
    exact OrderFinds_all_ A0 c0 l0 a1 a2 w hr0 hc0 hw0.1 hw0.2
  · cases h
end Go.Proofs.Ythmhehfbepijgaa.Q
