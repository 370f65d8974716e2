import Derived.Test.YthmhehfbepijgaaBQ0
import Derived.Test.YthmhehfbepijgaaBQ2
import Derived.Test.YthmhehfbepijgaaBR12
import Derived.Test.YthmhehfbepijgaaBQ5
import Derived.Test.YthmhehfbepijgaaBQ6
import Derived.Test.YthmhehfbepijgaaBQ7
import Derived.Test.YthmhehfbepijgaaBQ8
import Derived.Test.YthmhehfbepijgaaBQ9
import Derived.Test.YthmhehfbepijgaaBQ11
import Derived.Test.YthmhehfbepijgaaBQ12
import Derived.Test.YthmhehfbepijgaaBQ16
import Derived.Test.YthmhehfbepijgaaBT37
import Derived.Test.YthmhehfbepijgaaBT40
import Derived.Test.YthmhehfbepijgaaBT41
import Derived.Test.YthmhehfbepijgaaBTOrderFinds
namespace Go.Proofs.Ythmhehfbepijgaa.Q
open Go.RowKit Go.Proofs.YthmhehfbepijgaaW.PrintWords Go.Proofs.YthmhehfbepijgaaW.PrintLast Go.Proofs.YthmhehfbepijgaaW.PrintMore
attribute [local go_sem] max2_int min2_int max_two min_two max_three min_three max_four min_four
set_option linter.unusedVariables false
set_option linter.unusedSimpArgs false
set_option maxHeartbeats 16000000 in
open Mono in
set_option maxHeartbeats 16000000 in
set_option maxRecDepth 100000 in
theorem OrderBooks_long (A0 : Option Addr) (c0 : Nat) (l0 : List S35) (w : World) (hr0 : Kd.C k35 w A0 l0.length l0) (hc0 : l0.length ≤ c0) (hwf : wfs l0 = true) (hN : 120 < l0.length) :
    Calls Try.prog 6 #[.slice A0 l0.length c0] w fun e w' => e = .returned (.bool true) ∧ Below w.heap.size w w' := by
  have hu35 := Try.underlying35
  have hu23 := Try.underlying23
  have hu41 := Try.underlying41
  have hlen := hr0.2.1
  have HR0 := Aside0.mk hr0
  have HC0 := Aside0.mk hc0
  have HWF := Aside0.mk hwf
  clear hr0 hc0 hwf
  have c1b : decide ((120 : Int) < (l0.length : Int)) = true := decide_eq_true (by omega)
  have c1n : decide (120 < l0.length) = true := decide_eq_true hN
  have c1m := eq_true hN
  go_enter Try.func6, Try.ntmps6
  go_wp2_with fail
  refine (BR.new w).mono ?_
  rintro e w1 ⟨P, pb, pm, rfl, h⟩
  have H1 := Aside0.mk h
  clear h
  go_wp2_with fail
  refine (BR.newR H1.out).mono ?_
  rintro e w1b ⟨pr, rfl, h⟩
  have HB := Aside0.mk h.b
  clear h
  go_wp2_with fail
  refine (aw_all _).mono ?_
  rintro e w2 ⟨rfl, hb⟩
  go_wp2
  go_ret
  exact ⟨rfl, below_step HB.out hb⟩
def booksS.T7 : Bool × List (List Nat × List Nat) := (true, [([], []), ([], []), ([], []), ([1, 2], [1, 2]), ([3], [3]), ([0, 4], [0, 4]), ([], []), ([], []), ([], []), ([7, 8], [7, 8]), ([9], [9]), ([6, 10, 5], [6, 10]), ([5, 11], [5, 11]), ([12, 11], [12]), ([13], [13]), ([14, 13, 13], [13, 14]), ([13], [13]), ([16, 15, 13], [13, 16]), ([15, 17, 17, 13], [13, 15, 17]), ([18, 13], [13, 18]), ([13, 19], [13, 19]), ([20, 18], [20]), ([21], [21]), ([22, 21, 21], [21, 22]), ([21], [21]), ([24, 23, 21], [21, 24]), ([23, 25, 25, 21], [21, 23, 25]), ([26, 21], [21, 26]), ([21, 27], [21, 27])])
def booksS.B7 : List Nat := [0, 0, 0, 6, 14, 31, 0, 0, 0, 384, 896, 2047, 4095, 8191, 16383, 32767, 16383, 131071, 262143, 524287, 1048575, 2097151, 4194303, 8388607, 4194303, 33554431, 67108863, 134217727, 268435455]
theorem booksS.tab7 : rtab .any (opsOf Try.f6 7) = booksS.T7 := by kernel_rfl
theorem booksS.bits7 : waitsOk booksS.T7.2 booksS.B7 = true := by kernel_rfl
open Mono in
set_option maxHeartbeats 16000000 in
set_option maxRecDepth 100000 in
theorem OrderBooks_all (A0 : Option Addr) (c0 : Nat) (l0 : List S35) (w : World) (hr0 : Kd.C k35 w A0 l0.length l0) (hc0 : l0.length ≤ c0) (hwf : wfs l0 = true) (hN : ¬ 120 < l0.length) :
    Calls Try.prog 6 #[.slice A0 l0.length c0] w fun e w' => e = .returned (.bool true) ∧ Below w.heap.size w w' := by
  have hu35 := Try.underlying35
  have hu23 := Try.underlying23
  have hu41 := Try.underlying41
  have hlen := hr0.2.1
  have HR0 := Aside0.mk hr0
  have HC0 := Aside0.mk hc0
  have HWF := Aside0.mk hwf
  clear hr0 hc0 hwf
  have c1b : decide ((120 : Int) < (l0.length : Int)) = false := decide_eq_false (by omega)
  have c1n : decide (120 < l0.length) = false := decide_eq_false hN
  have c1m := eq_false hN
  go_enter Try.func6, Try.ntmps6
  go_wp2_with fail
  refine (BR.new w).mono ?_
  rintro e w1 ⟨P, pb, pm, rfl, h⟩
  have H0 := Aside0.mk h
  clear h
  go_wp2_with fail
  refine (BR.newR H0.out).mono ?_
  rintro e w1b ⟨pr, rfl, h⟩
  have H1 : Aside0 (BR w pb pm pr w1b (Bk.new.run (l0.take 0)) (Bk.new.run (l0.take 0))) := ⟨h⟩
  clear h H0
  go_wp2_with fail
  go_loopg [5] l0.length (fun gg v5 wr => ∃ kk : Nat, kk ≤ l0.length ∧ l0.length - kk ≤ gg ∧ v5 = .int .i64 kk ∧ Aside0 (BR w pb pm pr wr (Bk.new.run (l0.take kk)) (Bk.new.run (l0.take kk))))
  case atStart => exact ⟨0, Nat.zero_le _, by omega, rfl, H1⟩
  case round =>
    clear H1
    obtain ⟨kk, hkk, hg, rfl, HB⟩ := hrel
    by_cases hlt : kk < l0.length
    · have hltz : (kk : Int) < (l0.length : Int) := by omega
      have HWX := Aside0.mk (wfs_at HWF.out hlt)
      have HI := Aside0.mk (Bk.Inv.taken l0 kk (T := 120) (by omega))
      have HI2 := Aside0.mk (Bk.Inv.taken l0 (kk + 1) (T := 120) (by omega))
      have HTK := Aside0.mk (run_take l0 hlt)
      obtain ⟨ad, e, x0, x1, x2, x3, x4, x5, x6, x7, x8, x9, x10, x11, x12, x13, x14⟩ := at_T35 HR0.out (kk : Int) (by omega) hltz
      subst e
      obtain ⟨x, HX⟩ : ∃ x, Aside0 (x = rd_T35 l0 (kk : Int)) := ⟨_, ⟨rfl⟩⟩
      rw [← HX.out] at HWX HTK x0 x1 x2 x3 x4 x5 x6 x7 x8 x9 x10 x11 x12 x13 x14
      rw [Int.toNat_natCast] at x0 x1 x2 x3 x4 x5 x6 x7 x8 x9 x10 x11 x12 x13 x14
      have HX0 := Aside0.mk x0
      have HX1 := Aside0.mk x1
      have HX2 := Aside0.mk x2
      have HX3 := Aside0.mk x3
      have HX4 := Aside0.mk x4
      have HX5 := Aside0.mk x5
      have HX6 := Aside0.mk x6
      have HX7 := Aside0.mk x7
      have HX8 := Aside0.mk x8
      have HX9 := Aside0.mk x9
      have HX10 := Aside0.mk x10
      have HX11 := Aside0.mk x11
      have HX12 := Aside0.mk x12
      have HX13 := Aside0.mk x13
      have HX14 := Aside0.mk x14
      clear x0 x1 x2 x3 x4 x5 x6 x7 x8 x9 x10 x11 x12 x13 x14
      obtain ⟨B2, HBK⟩ : ∃ B2, Aside0 (B2 = Bk.new.run (l0.take (kk + 1))) := ⟨_, ⟨rfl⟩⟩
      rw [← HBK.out] at HI2 HTK
      have HF := Aside0.mk (HI2.out.few (by omega))
      have HL := Aside0.mk HI2.out.allLen
      have HES := Aside0.mk HI2.out.es
      obtain ⟨rx, hrx⟩ : ∃ rx, rx = ((Bk.new.run (l0.take kk)).do_ x).2 := ⟨_, rfl⟩
      have HRX := Aside0.mk hrx.symm
      clear hrx
      have trx : (rx != rx) = false := bne_self_eq_false rx
      go_wp2_with fail
      refine start_ (n := 29) (S := fun w' => w'.cell? (ad.add (kk * 15)) = some (.int .i64 x.f0) ∧ w'.cell? ⟨(ad.add (kk * 15)).block, (ad.add (kk * 15)).off + 1, none⟩ = some (.int .i64 x.f1.f0) ∧ w'.cell? ⟨(ad.add (kk * 15)).block, (ad.add (kk * 15)).off + 2, none⟩ = some (.int .i64 x.f1.f1) ∧ w'.cell? ⟨(ad.add (kk * 15)).block, (ad.add (kk * 15)).off + 3, none⟩ = some (.int .i64 x.f1.f2) ∧ w'.cell? ⟨(ad.add (kk * 15)).block, (ad.add (kk * 15)).off + 4, none⟩ = some (.int .i64 x.f1.f3) ∧ w'.cell? ⟨(ad.add (kk * 15)).block, (ad.add (kk * 15)).off + 5, none⟩ = some (.int .i64 x.f1.f4) ∧ w'.cell? ⟨(ad.add (kk * 15)).block, (ad.add (kk * 15)).off + 6, none⟩ = some (.int .i64 x.f1.f5) ∧ w'.cell? ⟨(ad.add (kk * 15)).block, (ad.add (kk * 15)).off + 7, none⟩ = some (.int .i64 x.f1.f6) ∧ w'.cell? ⟨(ad.add (kk * 15)).block, (ad.add (kk * 15)).off + 8, none⟩ = some (.int .i64 x.f1.f7) ∧ w'.cell? ⟨(ad.add (kk * 15)).block, (ad.add (kk * 15)).off + 9, none⟩ = some (.int .i64 x.f1.f8) ∧ w'.cell? ⟨(ad.add (kk * 15)).block, (ad.add (kk * 15)).off + 10, none⟩ = some (.int .i64 x.f1.f9) ∧ w'.cell? ⟨(ad.add (kk * 15)).block, (ad.add (kk * 15)).off + 11, none⟩ = some (.int .i64 x.f1.f10) ∧ w'.cell? ⟨(ad.add (kk * 15)).block, (ad.add (kk * 15)).off + 12, none⟩ = some (.int .i64 x.f1.f11) ∧ w'.cell? ⟨(ad.add (kk * 15)).block, (ad.add (kk * 15)).off + 13, none⟩ = some (.int .i64 x.f2) ∧ w'.cell? ⟨(ad.add (kk * 15)).block, (ad.add (kk * 15)).off + 14, none⟩ = some (.int .i64 x.f3)) (ds := [11, 15, 17, 18, 23, 25, 26]) #[false, false, false, false, false, false, false, false, false, false, false, false, false, false, false, false, false, false, false, false, false, false, false, false, false, false, false, false, false] (by kernel_rfl) rfl rfl ⟨pw_cell_below (below_drew1 (Below.refl _ _)) (pw_cell_below HB.out.b HX0.out), pw_cell_below (below_drew1 (Below.refl _ _)) (pw_cell_below HB.out.b HX1.out), pw_cell_below (below_drew1 (Below.refl _ _)) (pw_cell_below HB.out.b HX2.out), pw_cell_below (below_drew1 (Below.refl _ _)) (pw_cell_below HB.out.b HX3.out), pw_cell_below (below_drew1 (Below.refl _ _)) (pw_cell_below HB.out.b HX4.out), pw_cell_below (below_drew1 (Below.refl _ _)) (pw_cell_below HB.out.b HX5.out), pw_cell_below (below_drew1 (Below.refl _ _)) (pw_cell_below HB.out.b HX6.out), pw_cell_below (below_drew1 (Below.refl _ _)) (pw_cell_below HB.out.b HX7.out), pw_cell_below (below_drew1 (Below.refl _ _)) (pw_cell_below HB.out.b HX8.out), pw_cell_below (below_drew1 (Below.refl _ _)) (pw_cell_below HB.out.b HX9.out), pw_cell_below (below_drew1 (Below.refl _ _)) (pw_cell_below HB.out.b HX10.out), pw_cell_below (below_drew1 (Below.refl _ _)) (pw_cell_below HB.out.b HX11.out), pw_cell_below (below_drew1 (Below.refl _ _)) (pw_cell_below HB.out.b HX12.out), pw_cell_below (below_drew1 (Below.refl _ _)) (pw_cell_below HB.out.b HX13.out), pw_cell_below (below_drew1 (Below.refl _ _)) (pw_cell_below HB.out.b HX14.out)⟩ (fun hHeld => ?_); refine with_tabW booksS.tab7 booksS.bits7 (fun HT_ HW_ => ?_)
      have HB1 := Aside0.mk (HB.out.below (below_drew1 (Below.refl _ _))); clear HB; generalize wr.drew = w2 at HB1 hHeld ⊢
      refine pure_ (i := 0) (N := some 22) (v := ?_) (a' := ?_) #[true, false, false, false, false, false, false, false, false, false, false, false, false, false, false, false, false, false, false, false, false, false, false, false, false, false, false, false, false] rfl rfl (any_of HT_.out (by kernel_rfl)) (fun _ _ _ h => h) (Or.inl ⟨by rfl, ?_⟩) ?_ ?_
      rotate_left
      · intro w'
        go_simp
        with_reducible rfl
      rotate_left
      · simp only [Act.put, List.setIfInBounds_toArray, List.set_cons_zero, List.set_cons_succ, i64_w, i32_w]
        rfl
      refine pure_ (i := 1) (N := some 23) (v := ?_) (a' := ?_) #[true, true, false, false, false, false, false, false, false, false, false, false, false, false, false, false, false, false, false, false, false, false, false, false, false, false, false, false, false] rfl rfl (any_of HT_.out (by kernel_rfl)) (fun _ _ _ h => h) (Or.inl ⟨by rfl, ?_⟩) ?_ ?_
      rotate_left
      · intro w'
        go_simp
        with_reducible rfl
      rotate_left
      · simp only [Act.put, List.setIfInBounds_toArray, List.set_cons_zero, List.set_cons_succ, i64_w, i32_w]
        rfl
      refine pure_ (i := 2) (N := some 24) (v := ?_) (a' := ?_) #[true, true, true, false, false, false, false, false, false, false, false, false, false, false, false, false, false, false, false, false, false, false, false, false, false, false, false, false, false] rfl rfl (any_of HT_.out (by kernel_rfl)) (fun _ _ _ h => h) (Or.inl ⟨by rfl, ?_⟩) ?_ ?_
      rotate_left
      · intro w'
        go_simp
        with_reducible rfl
      rotate_left
      · simp only [Act.put, List.setIfInBounds_toArray, List.set_cons_zero, List.set_cons_succ, i64_w, i32_w]
        rfl
      refine pure_ (i := 3) (N := some 25) (v := ?_) (a' := ?_) #[true, true, true, true, false, false, false, false, false, false, false, false, false, false, false, false, false, false, false, false, false, false, false, false, false, false, false, false, false] rfl rfl (any_of HT_.out (by kernel_rfl)) (fun _ _ _ h => h) (Or.inl ⟨by rfl, ?_⟩) ?_ ?_
      rotate_left
      · intro w'
        go_simp
        with_reducible rfl
      rotate_left
      · simp only [Act.put, List.setIfInBounds_toArray, List.set_cons_zero, List.set_cons_succ, i64_w, i32_w]
        rfl
      refine pure_ (i := 6) (N := some 28) (v := ?_) (a' := ?_) #[true, true, true, true, false, false, true, false, false, false, false, false, false, false, false, false, false, false, false, false, false, false, false, false, false, false, false, false, false] rfl rfl (any_of HT_.out (by kernel_rfl)) (fun _ _ _ h => h) (Or.inl ⟨by rfl, ?_⟩) ?_ ?_
      rotate_left
      · intro w'
        go_simp
        with_reducible rfl
      rotate_left
      · simp only [Act.put, List.setIfInBounds_toArray, List.set_cons_zero, List.set_cons_succ, i64_w, i32_w]
        rfl
      refine pure_ (i := 7) (N := some 29) (v := ?_) (a' := ?_) #[true, true, true, true, false, false, true, true, false, false, false, false, false, false, false, false, false, false, false, false, false, false, false, false, false, false, false, false, false] rfl rfl (any_of HT_.out (by kernel_rfl)) (fun _ _ _ h => h) (Or.inl ⟨by rfl, ?_⟩) ?_ ?_
      rotate_left
      · intro w'
        go_simp
        with_reducible rfl
      rotate_left
      · simp only [Act.put, List.setIfInBounds_toArray, List.set_cons_zero, List.set_cons_succ, i64_w, i32_w]
        rfl
      refine pure_ (i := 8) (N := some 30) (v := ?_) (a' := ?_) #[true, true, true, true, false, false, true, true, true, false, false, false, false, false, false, false, false, false, false, false, false, false, false, false, false, false, false, false, false] rfl rfl (any_of HT_.out (by kernel_rfl)) (fun _ _ _ h => h) (Or.inl ⟨by rfl, ?_⟩) ?_ ?_
      rotate_left
      · intro w'
        go_simp
        with_reducible rfl
      rotate_left
      · simp only [Act.put, List.setIfInBounds_toArray, List.set_cons_zero, List.set_cons_succ, i64_w, i32_w]
        rfl
      refine pure_ (i := 9) (N := some 31) (v := ?_) (a' := ?_) #[true, true, true, true, false, false, true, true, true, true, false, false, false, false, false, false, false, false, false, false, false, false, false, false, false, false, false, false, false] rfl rfl (any_of HT_.out (by kernel_rfl)) (fun _ _ _ h => h) (Or.inl ⟨by rfl, ?_⟩) ?_ ?_
      rotate_left
      · intro w'
        go_simp
        with_reducible rfl
      rotate_left
      · simp only [Act.put, List.setIfInBounds_toArray, List.set_cons_zero, List.set_cons_succ, i64_w, i32_w]
        rfl
      refine take_ (i := 4) (N := some 26) (v := ?_) (a' := ?_) #[true, true, true, true, true, false, true, true, true, true, false, false, false, false, false, false, false, false, false, false, false, false, false, false, false, false, false, false, false] rfl rfl (take_ofW HT_.out HW_.out (by kernel_rfl)) (fun _ _ _ h => h) (Or.inl ⟨by rfl, ?_⟩) hHeld ?_ ?_
      rotate_left
      · rintro w' ⟨s0, s1, s2, s3, s4, s5, s6, s7, s8, s9, s10, s11, s12, s13, s14⟩
        go_simp
        with_reducible rfl
      rotate_left
      · simp only [Act.put, List.setIfInBounds_toArray, List.set_cons_zero, List.set_cons_succ, i64_w, i32_w]
        rfl
      refine take_ (i := 10) (N := some 32) (v := ?_) (a' := ?_) #[true, true, true, true, true, false, true, true, true, true, true, false, false, false, false, false, false, false, false, false, false, false, false, false, false, false, false, false, false] rfl rfl (take_ofW HT_.out HW_.out (by kernel_rfl)) (fun _ _ _ h => h) (Or.inl ⟨by rfl, ?_⟩) hHeld ?_ ?_
      rotate_left
      · rintro w' ⟨s0, s1, s2, s3, s4, s5, s6, s7, s8, s9, s10, s11, s12, s13, s14⟩
        go_simp
        with_reducible rfl
      rotate_left
      · simp only [Act.put, List.setIfInBounds_toArray, List.set_cons_zero, List.set_cons_succ, i64_w, i32_w]
        rfl
      refine one_ (i := 5) (N := some 27) #[true, true, true, true, true, true, true, true, true, true, true, false, false, false, false, false, false, false, false, false, false, false, false, false, false, false, false, false, false] rfl rfl (one_of HT_.out (by kernel_rfl)) (by decide) (fun K hK => ?_)
      refine goes_ Try.func16 (by kernel_rfl) rfl #[.pointer (some ⟨pb, 0, none⟩), .agg #[.int .i64 x.f0, .int .i64 x.f1.f0, .int .i64 x.f1.f1, .int .i64 x.f1.f2, .int .i64 x.f1.f3, .int .i64 x.f1.f4, .int .i64 x.f1.f5, .int .i64 x.f1.f6, .int .i64 x.f1.f7, .int .i64 x.f1.f8, .int .i64 x.f1.f9, .int .i64 x.f1.f10, .int .i64 x.f1.f11, .int .i64 x.f2, .int .i64 x.f3]] (by rfl) rfl rfl (by simp only [List.map_toArray, List.map_cons, List.map_nil]; rfl) ?_
      with_reducible refine (BR.do_ HB1.out HI.out (by omega) x HWX.out).mono ?_
      rintro e w3 ⟨rfl, h⟩
      refine ⟨_, rfl, ?_⟩
      rw [HRX.out]
      have HB2 := Aside0.mk h
      clear h HB1
      refine hK.out _ _ ⟨pw_cell_below HB2.out.b HX0.out, pw_cell_below HB2.out.b HX1.out, pw_cell_below HB2.out.b HX2.out, pw_cell_below HB2.out.b HX3.out, pw_cell_below HB2.out.b HX4.out, pw_cell_below HB2.out.b HX5.out, pw_cell_below HB2.out.b HX6.out, pw_cell_below HB2.out.b HX7.out, pw_cell_below HB2.out.b HX8.out, pw_cell_below HB2.out.b HX9.out, pw_cell_below HB2.out.b HX10.out, pw_cell_below HB2.out.b HX11.out, pw_cell_below HB2.out.b HX12.out, pw_cell_below HB2.out.b HX13.out, pw_cell_below HB2.out.b HX14.out⟩ (fun hHeld => ?_)
      clear hK K
      refine norm_ (a' := ?_) ?_ ?_
      rotate_left
      · show Act.put _ (some 27) _ = _
        simp only [Act.put, List.setIfInBounds_toArray, List.set_cons_zero, List.set_cons_succ, i64_w, i32_w]
        rfl
      refine last_ (i := 11) (N := some 33) #[true, true, true, true, true, true, true, true, true, true, true, true, false, false, false, false, false, false, false, false, false, false, false, false, false, false, false, false, false] rfl rfl (one_of HT_.out (by kernel_rfl)) (by decide) (fun K hK => ?_)
      refine goes_ Try.func17 (by kernel_rfl) rfl #[.pointer (some ⟨pr, 0, none⟩), .agg #[.int .i64 x.f0, .int .i64 x.f1.f0, .int .i64 x.f1.f1, .int .i64 x.f1.f2, .int .i64 x.f1.f3, .int .i64 x.f1.f4, .int .i64 x.f1.f5, .int .i64 x.f1.f6, .int .i64 x.f1.f7, .int .i64 x.f1.f8, .int .i64 x.f1.f9, .int .i64 x.f1.f10, .int .i64 x.f1.f11, .int .i64 x.f2, .int .i64 x.f3]] (by rfl) rfl rfl (by simp only [List.map_toArray, List.map_cons, List.map_nil]; rfl) ?_
      with_reducible refine (BR.must HB2.out HI.out (by omega) x).mono ?_
      rintro e w4 ⟨rfl, h⟩
      refine ⟨_, rfl, ?_⟩
      rw [HRX.out]
      rw [← HTK.out] at h
      have HB3 := Aside0.mk h
      clear h HB2
      refine hK.out _ _ ?_
      clear hK K
      refine norm_ (a' := ?_) ?_ ?_
      rotate_left
      · show Act.put _ (some 33) _ = _
        simp only [Act.put, List.setIfInBounds_toArray, List.set_cons_zero, List.set_cons_succ, i64_w, i32_w]
        rfl
      refine pure_ (i := 12) (N := some 34) (v := ?_) (a' := ?_) #[true, true, true, true, true, true, true, true, true, true, true, true, true, false, false, false, false, false, false, false, false, false, false, false, false, false, false, false, false] rfl rfl (any_of HT_.out (by kernel_rfl)) (fun _ _ _ h => h) (Or.inl ⟨by rfl, ?_⟩) ?_ ?_
      rotate_left
      · intro w'
        go_simp
        with_reducible rfl
      rotate_left
      · simp only [Act.put, List.setIfInBounds_toArray, List.set_cons_zero, List.set_cons_succ, i64_w, i32_w]
        rfl
      refine pure_ (i := 13) (N := some 35) (v := ?_) (a' := ?_) #[true, true, true, true, true, true, true, true, true, true, true, true, true, true, false, false, false, false, false, false, false, false, false, false, false, false, false, false, false] rfl rfl (any_of HT_.out (by kernel_rfl)) (fun _ _ _ h => h) (Or.inl ⟨by rfl, ?_⟩) ?_ ?_
      rotate_left
      · intro w'
        go_simp
        with_reducible rfl
      rotate_left
      · simp only [Act.put, List.setIfInBounds_toArray, List.set_cons_zero, List.set_cons_succ, i64_w, i32_w]
        rfl
      refine pure_ (i := 14) (N := some 36) (v := ?_) (a' := ?_) #[true, true, true, true, true, true, true, true, true, true, true, true, true, true, true, false, false, false, false, false, false, false, false, false, false, false, false, false, false] rfl rfl (any_of HT_.out (by kernel_rfl)) (fun _ _ _ h => h) (Or.inl ⟨by rfl, ?_⟩) ?_ ?_
      rotate_left
      · intro w'
        go_simp
        with_reducible rfl
      rotate_left
      · simp only [Act.put, List.setIfInBounds_toArray, List.set_cons_zero, List.set_cons_succ, i64_w, i32_w]
        rfl
      refine pure_ (i := 16) (N := some 38) (v := ?_) (a' := ?_) #[true, true, true, true, true, true, true, true, true, true, true, true, true, true, true, false, true, false, false, false, false, false, false, false, false, false, false, false, false] rfl rfl (any_of HT_.out (by kernel_rfl)) (fun _ _ _ h => h) (Or.inl ⟨by rfl, ?_⟩) ?_ ?_
      rotate_left
      · intro w'
        go_simp
        with_reducible rfl
      rotate_left
      · simp only [Act.put, List.setIfInBounds_toArray, List.set_cons_zero, List.set_cons_succ, i64_w, i32_w]
        rfl
      refine last_ (i := 15) (N := some 37) #[true, true, true, true, true, true, true, true, true, true, true, true, true, true, true, true, true, false, false, false, false, false, false, false, false, false, false, false, false] rfl rfl (one_of HT_.out (by kernel_rfl)) (by decide) (fun K hK => ?_)
      refine goes_ Try.func27 (by kernel_rfl) rfl #[.pointer (some ⟨pb, 0, none⟩)] (by rfl) rfl rfl (by simp only [List.map_toArray, List.map_cons, List.map_nil]; rfl) ?_
      with_reducible refine (BR.All HB3.out (HI2.out.ok (by omega))).mono ?_
      rintro e w5 ⟨A1, b1, rfl, h1, hb⟩
      refine ⟨_, rfl, ?_⟩
      have HR1 := Aside0.mk h1
      clear h1
      have HB4 := Aside0.mk (HB3.out.below hb)
      clear hb
      clear HB3
      refine hK.out _ _ ?_
      clear hK K
      refine norm_ (a' := ?_) ?_ ?_
      rotate_left
      · show Act.put _ (some 37) _ = _
        simp only [Act.put, List.setIfInBounds_toArray, List.set_cons_zero, List.set_cons_succ, i64_w, i32_w]
        rfl
      refine last_ (i := 17) (N := some 39) #[true, true, true, true, true, true, true, true, true, true, true, true, true, true, true, true, true, true, false, false, false, false, false, false, false, false, false, false, false] rfl rfl (one_of HT_.out (by kernel_rfl)) (by decide) (fun K hK => ?_)
      refine goes_ Try.func28 (by kernel_rfl) rfl #[.pointer (some ⟨pr, 0, none⟩)] (by rfl) rfl rfl (by simp only [List.map_toArray, List.map_cons, List.map_nil]; rfl) ?_
      with_reducible refine (BR.AllR HB4.out HI2.out (by omega)).mono ?_
      rintro e w6 ⟨A2, b2, rfl, h2, hb⟩
      refine ⟨_, rfl, ?_⟩
      have HR2 := Aside0.mk h2
      clear h2
      have HR1b := Aside0.mk (And.intro HR1.out.1 (Kd.C_below HR1.out.2 hb))
      have HB5 := Aside0.mk (HB4.out.below hb)
      clear hb
      clear HB4 HR1
      refine hK.out _ _ ?_
      clear hK K
      refine norm_ (a' := ?_) ?_ ?_
      rotate_left
      · show Act.put _ (some 39) _ = _
        simp only [Act.put, List.setIfInBounds_toArray, List.set_cons_zero, List.set_cons_succ, i64_w, i32_w]
        rfl
      refine last_ (i := 18) (N := some 40) #[true, true, true, true, true, true, true, true, true, true, true, true, true, true, true, true, true, true, true, false, false, false, false, false, false, false, false, false, false] rfl rfl (one_of HT_.out (by kernel_rfl)) (by decide) (fun K hK => ?_)
      refine goes_ Try.func26 (by kernel_rfl) rfl #[.slice A1 B2.all.length b1, .slice A2 B2.all.length b2] (by rfl) rfl rfl (by simp only [List.map_toArray, List.map_cons, List.map_nil]; rfl) ?_
      with_reducible refine (same_calls B2.all B2.all HF.out _ HR1b.out.2 HR1b.out.1 HR2.out.2 HR2.out.1 (by have := HL.out; omega)).mono ?_
      rintro e w7 ⟨rfl, hb⟩
      refine ⟨_, rfl, ?_⟩
      rw [eqL41_iff.2 rfl]
      have HB6 := Aside0.mk (HB5.out.below hb)
      clear hb
      clear HB5 HR1b HR2
      refine hK.out _ _ ?_
      clear hK K
      refine norm_ (a' := ?_) ?_ ?_
      rotate_left
      · show Act.put _ (some 40) _ = _
        simp only [Act.put, List.setIfInBounds_toArray, List.set_cons_zero, List.set_cons_succ, i64_w, i32_w]
        rfl
      refine pure_ (i := 19) (N := some 41) (v := ?_) (a' := ?_) #[true, true, true, true, true, true, true, true, true, true, true, true, true, true, true, true, true, true, true, true, false, false, false, false, false, false, false, false, false] rfl rfl (any_of HT_.out (by kernel_rfl)) (fun _ _ _ h => h) (Or.inl ⟨by rfl, ?_⟩) ?_ ?_
      rotate_left
      · intro w'
        go_simp
        with_reducible rfl
      rotate_left
      · simp only [Act.put, List.setIfInBounds_toArray, List.set_cons_zero, List.set_cons_succ, i64_w, i32_w]
        rfl
      refine pure_ (i := 20) (N := some 42) (v := ?_) (a' := ?_) #[true, true, true, true, true, true, true, true, true, true, true, true, true, true, true, true, true, true, true, true, true, false, false, false, false, false, false, false, false] rfl rfl (any_of HT_.out (by kernel_rfl)) (fun _ _ _ h => h) (Or.inl ⟨by rfl, ?_⟩) ?_ ?_
      rotate_left
      · intro w'
        go_simp
        with_reducible rfl
      rotate_left
      · simp only [Act.put, List.setIfInBounds_toArray, List.set_cons_zero, List.set_cons_succ, i64_w, i32_w]
        rfl
      refine pure_ (i := 21) (N := some 43) (v := ?_) (a' := ?_) #[true, true, true, true, true, true, true, true, true, true, true, true, true, true, true, true, true, true, true, true, true, true, false, false, false, false, false, false, false] rfl rfl (any_of HT_.out (by kernel_rfl)) (fun _ _ _ h => h) (Or.inl ⟨by rfl, ?_⟩) ?_ ?_
      rotate_left
      · intro w'
        go_simp
        with_reducible rfl
      rotate_left
      · simp only [Act.put, List.setIfInBounds_toArray, List.set_cons_zero, List.set_cons_succ, i64_w, i32_w]
        rfl
      refine pure_ (i := 22) (N := some 44) (v := ?_) (a' := ?_) #[true, true, true, true, true, true, true, true, true, true, true, true, true, true, true, true, true, true, true, true, true, true, true, false, false, false, false, false, false] rfl rfl (any_of HT_.out (by kernel_rfl)) (fun _ _ _ h => h) (Or.inl ⟨by rfl, ?_⟩) ?_ ?_
      rotate_left
      · intro w'
        go_simp
        with_reducible rfl
      rotate_left
      · simp only [Act.put, List.setIfInBounds_toArray, List.set_cons_zero, List.set_cons_succ, i64_w, i32_w]
        rfl
      refine pure_ (i := 24) (N := some 46) (v := ?_) (a' := ?_) #[true, true, true, true, true, true, true, true, true, true, true, true, true, true, true, true, true, true, true, true, true, true, true, false, true, false, false, false, false] rfl rfl (any_of HT_.out (by kernel_rfl)) (fun _ _ _ h => h) (Or.inl ⟨by rfl, ?_⟩) ?_ ?_
      rotate_left
      · intro w'
        go_simp
        with_reducible rfl
      rotate_left
      · simp only [Act.put, List.setIfInBounds_toArray, List.set_cons_zero, List.set_cons_succ, i64_w, i32_w]
        rfl
      refine last_ (i := 23) (N := some 45) #[true, true, true, true, true, true, true, true, true, true, true, true, true, true, true, true, true, true, true, true, true, true, true, true, true, false, false, false, false] rfl rfl (one_of HT_.out (by kernel_rfl)) (by decide) (fun K hK => ?_)
      refine goes_ Try.func30 (by kernel_rfl) rfl #[.pointer (some ⟨pb, 0, none⟩)] (by rfl) rfl rfl (by simp only [List.map_toArray, List.map_cons, List.map_nil]; rfl) ?_
      with_reducible refine (BR.Open HB6.out (HI2.out.ok (by omega))).mono ?_
      rintro e w8 ⟨A3, b3, rfl, h1, hb⟩
      refine ⟨_, rfl, ?_⟩
      have HR3 := Aside0.mk h1
      clear h1
      have HB7 := Aside0.mk (HB6.out.below hb)
      clear hb
      clear HB6
      refine hK.out _ _ ?_
      clear hK K
      refine norm_ (a' := ?_) ?_ ?_
      rotate_left
      · show Act.put _ (some 45) _ = _
        simp only [Act.put, List.setIfInBounds_toArray, List.set_cons_zero, List.set_cons_succ, i64_w, i32_w]
        rfl
      refine last_ (i := 25) (N := some 47) #[true, true, true, true, true, true, true, true, true, true, true, true, true, true, true, true, true, true, true, true, true, true, true, true, true, true, false, false, false] rfl rfl (one_of HT_.out (by kernel_rfl)) (by decide) (fun K hK => ?_)
      refine goes_ Try.func31 (by kernel_rfl) rfl #[.pointer (some ⟨pr, 0, none⟩)] (by rfl) rfl rfl (by simp only [List.map_toArray, List.map_cons, List.map_nil]; rfl) ?_
      with_reducible refine (BR.OpenR HB7.out HI2.out (by omega)).mono ?_
      rintro e w9 ⟨A4, b4, rfl, h2, hb⟩
      refine ⟨_, rfl, ?_⟩
      have HR4 := Aside0.mk h2
      clear h2
      have HR3b := Aside0.mk (And.intro HR3.out.1 (Kd.C_below HR3.out.2 hb))
      have HB8 := Aside0.mk (HB7.out.below hb)
      clear hb
      clear HB7 HR3
      refine hK.out _ _ ?_
      clear hK K
      refine norm_ (a' := ?_) ?_ ?_
      rotate_left
      · show Act.put _ (some 47) _ = _
        simp only [Act.put, List.setIfInBounds_toArray, List.set_cons_zero, List.set_cons_succ, i64_w, i32_w]
        rfl
      refine last_ (i := 26) (N := some 48) #[true, true, true, true, true, true, true, true, true, true, true, true, true, true, true, true, true, true, true, true, true, true, true, true, true, true, true, false, false] rfl rfl (one_of HT_.out (by kernel_rfl)) (by decide) (fun K hK => ?_)
      refine goes_ Try.func29 (by kernel_rfl) rfl #[.slice A3 (B2.es.map openN).length b3, .slice A4 (B2.es.map openN).length b4] (by rfl) rfl rfl (by simp only [List.map_toArray, List.map_cons, List.map_nil]; rfl) ?_
      with_reducible refine (papermillref51_Ints.calls ((B2.es.map openN).length + 1) A3 b3 (B2.es.map openN) A4 b4 (B2.es.map openN) _ _ HR3b.out.2 HR3b.out.1 HR4.out.2 HR4.out.1 (ints_f _ _ (by rw [List.length_map]; have := HES.out; omega) _ (Nat.lt_succ_self _))).mono ?_
      rintro e w10 ⟨rfl, hb⟩
      refine ⟨_, rfl, ?_⟩
      rw [decide_eq_true rfl]
      replace hb := hb.below
      have HB9 := Aside0.mk (HB8.out.below hb)
      clear hb
      clear HB8 HR3b HR4
      refine hK.out _ _ ?_
      clear hK K
      refine norm_ (a' := ?_) ?_ ?_
      rotate_left
      · show Act.put _ (some 48) _ = _
        simp only [Act.put, List.setIfInBounds_toArray, List.set_cons_zero, List.set_cons_succ, i64_w, i32_w]
        rfl
      refine pure_ (i := 27) (N := some 49) (v := ?_) (a' := ?_) #[true, true, true, true, true, true, true, true, true, true, true, true, true, true, true, true, true, true, true, true, true, true, true, true, true, true, true, true, false] rfl rfl (any_of HT_.out (by kernel_rfl)) (fun _ _ _ h => h) (Or.inl ⟨by rfl, ?_⟩) ?_ ?_
      rotate_left
      · intro w'
        go_simp
        with_reducible rfl
      rotate_left
      · simp only [Act.put, List.setIfInBounds_toArray, List.set_cons_zero, List.set_cons_succ, i64_w, i32_w]
        rfl
      refine pure_ (i := 28) (N := some 50) (v := ?_) (a' := ?_) #[true, true, true, true, true, true, true, true, true, true, true, true, true, true, true, true, true, true, true, true, true, true, true, true, true, true, true, true, true] rfl rfl (any_of HT_.out (by kernel_rfl)) (fun _ _ _ h => h) (Or.inl ⟨by rfl, ?_⟩) ?_ ?_
      rotate_left
      · intro w'
        go_simp
        with_reducible rfl
      rotate_left
      · simp only [Act.put, List.setIfInBounds_toArray, List.set_cons_zero, List.set_cons_succ, i64_w, i32_w]
        rfl
      refine done_ (done_of HT_.out (by kernel_rfl)) ?_
      rw [HBK.out] at HB9
      go_wp2_with fail
      go_roundg (l0.length - (kk + 1))
      case measure => omega
      case rel => exact ⟨kk + 1, by omega, by omega, by go_num, HB9⟩
    · have hltz : ¬ (kk : Int) < (l0.length : Int) := by omega
      have hke : kk = l0.length := by omega
      subst hke
      go_wp2_with fail
      refine (aw_all _).mono ?_
      rintro e w7 ⟨rfl, hb⟩
      go_wp2
      go_ret
      exact ⟨rfl, below_step HB.out.b hb⟩
theorem OrderBooks_all_ (A0 : Option Addr) (c0 : Nat) (l0 : List S35) (w : World) (hr0 : Kd.C k35 w A0 l0.length l0) (hc0 : l0.length ≤ c0) (hwf : wfs l0 = true) :
    Calls Try.prog 6 #[.slice A0 l0.length c0] w fun e w' => e = .returned (.bool true) ∧ Below w.heap.size w w' := by
  by_cases hN : 120 < l0.length
  · exact OrderBooks_long A0 c0 l0 w hr0 hc0 hwf hN
  · exact OrderBooks_all A0 c0 l0 w hr0 hc0 hwf hN
def papermilllaw51_OrderBooks.f (l0 : List S35) : Option Bool := if wfs l0 = true then some true else none
theorem papermilllaw51_OrderBooks.calls (A0 : Option Addr) (c0 : Nat) (l0 : List S35) (r : Bool) (w : World) (hr0 : Kd.C k35 w A0 l0.length l0) (hc0 : l0.length ≤ c0) (h : papermilllaw51_OrderBooks.f l0  = some r) :
    Calls Try.prog 6 #[.slice A0 l0.length c0] w fun e w' => e = .returned (.bool r) ∧ Below w.heap.size w w' := by
  unfold papermilllaw51_OrderBooks.f at h
  split at h
  · rename_i hw0
    obtain rfl := Option.some.inj h
    exact OrderBooks_all_ A0 c0 l0 w hr0 hc0 hw0
  · cases h
end Go.Proofs.Ythmhehfbepijgaa.Q
