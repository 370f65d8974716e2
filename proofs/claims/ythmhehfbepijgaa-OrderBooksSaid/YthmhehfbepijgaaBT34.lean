import Derived.Test.YthmhehfbepijgaaBQ0
import Derived.Test.YthmhehfbepijgaaBR12
import Derived.Test.YthmhehfbepijgaaBQ5
import Derived.Test.YthmhehfbepijgaaBQ6
import Derived.Test.YthmhehfbepijgaaBQ7
import Derived.Test.YthmhehfbepijgaaBQ8
import Derived.Test.YthmhehfbepijgaaBQ9
import Derived.Test.YthmhehfbepijgaaBQ11
import Derived.Test.YthmhehfbepijgaaBQ12
import Derived.Test.YthmhehfbepijgaaBT26
import Derived.Test.YthmhehfbepijgaaBT27
import Derived.Test.YthmhehfbepijgaaBT29
import Derived.Test.YthmhehfbepijgaaBT31
namespace Go.Proofs.Ythmhehfbepijgaa.Q
open Go.RowKit Go.Proofs.YthmhehfbepijgaaW.PrintWords Go.Proofs.YthmhehfbepijgaaW.PrintLast Go.Proofs.YthmhehfbepijgaaW.PrintMore
attribute [local go_sem] max2_int min2_int max_two min_two max_three min_three max_four min_four
set_option linter.unusedVariables false
set_option linter.unusedSimpArgs false
set_option maxHeartbeats 16000000 in
def assignR.T13 : Bool × List (List Nat × List Nat) := (true, [([], []), ([0], [0]), ([], []), ([], []), ([3], [3]), ([], []), ([4, 5], [4, 5]), ([6], [6]), ([7], [7]), ([], []), ([9], [9]), ([8, 10], [8, 10]), ([1, 2, 0, 1, 2, 3, 4, 5, 6, 7, 8, 9, 10, 11], [1, 2]), ([12, 0, 1, 2, 3, 4, 5, 6, 7, 8, 9, 10, 11], [12]), ([13, 11, 11, 0, 1, 2, 3, 4, 5, 6, 7, 8, 9, 10, 11], [11, 13])])
def assignR.B13 : List Nat := [0, 1, 0, 0, 8, 0, 56, 120, 248, 0, 512, 2040, 4095, 8191, 16383]
theorem assignR.tab13 : rtab .any (opsOf Try.f57 13) = assignR.T13 := by kernel_rfl
theorem assignR.bits13 : waitsOk assignR.T13.2 assignR.B13 = true := by kernel_rfl
set_option maxHeartbeats 16000000 in
set_option maxRecDepth 100000 in
theorem assignR_calls {B : Bk} {T : Nat} (hi : B.Inv T) (hT : T ≤ 900) {A : Option Addr} {c : Nat} (id n : Int) {P : Nat → Prop} (w : World) (hs : Kd.V k41 41 w w.heap.size P (.slice A B.all.length c) B.all) :
    Calls Try.prog 57 #[.agg #[.slice A B.all.length c], .int .i64 id, .int .i64 n] w fun e w' => ∃ v0, e = .returned (.tuple #[.agg #[v0], .int .i64 (B.Assign id n).2]) ∧ Kd.V k41 41 w' w.heap.size (fun k => P k ∨ w.heap.size ≤ k) v0 (B.Assign id n).1.all ∧ Below w.heap.size w w' := by
  have hu63 := Try.underlying63
  have hu41 := Try.underlying41
  have hu23 := Try.underlying23
  have HS := Aside0.mk hs
  have HI := Aside0.mk hi
  have HTT := Aside0.mk hT
  have HC : Aside0 (Kd.C k41 w A B.all.length B.all) := ⟨(Kd.V_reads' hs).2.2⟩
  have HCC : Aside0 (B.all.length ≤ c) := ⟨(Kd.V_reads' hs).2.1⟩
  have hal := hi.allLen
  have HB := Aside0.mk (Below.refl w.heap.size w)
  rcases assign_ways hi id n with ⟨c0, hop⟩ | ⟨i, x, hfe, hx, hw⟩
  · rw [hop]
    dsimp only
    have c0b : decide (B.find id < 0) = true := decide_eq_true c0
    clear c0 hop hs hi hT
    go_enter Try.func57, Try.ntmps57
    go_wp2_with (first | ((with_reducible refine gate_dst (N := 3) rfl ?_); refine box_event ?hg (N := 3) ?hd (cs := #[.slice A B.all.length c]) (t := 63) ?hr ?_; (case hd => rfl); (case hg => rfl); (case hr => first | (go_simp; done) | (go_simp; rfl)); intro Mg1 hg_ Mw2 hbox_ hb_; have MB3 := Aside0.mk hbox_; have MG4 : Aside0 (w.heap.size ≤ Mg1) := ⟨by rw [hg_]; exact below_size HB.out⟩; have MH5 := Aside0.mk (below_step HB.out hb_); clear hbox_ hb_ hg_; have Mx6 : Mw2.cell? ⟨Mg1, 0, none⟩ = some (.slice A B.all.length c) := (blk_cell MB3.out 0).trans rfl; have Mz7 := blk_frozen MB3.out 0) | ((with_reducible refine gate_dst (N := 6) rfl ?_); refine box_event ?hg (N := 6) ?hd (cs := #[.slice none 0 0]) (t := 63) ?hr ?_; (case hd => rfl); (case hg => rfl); (case hr => first | (go_simp; done) | (go_simp; rfl)); intro Mg8 hg_ Mw9 hbox_ hb_; have MB10 := Aside0.mk hbox_; have MG11 : Aside0 (w.heap.size ≤ Mg8) := ⟨by rw [hg_]; exact below_size MH5.out⟩; have MN12 : Aside0 (Mg1 ≠ Mg8) := ⟨by rw [hg_]; exact Nat.ne_of_lt (blk_lt MB3.out)⟩; have MB13 := Aside0.mk (blk_below MB3.out hb_); have MH14 := Aside0.mk (below_step MH5.out hb_); clear hbox_ hb_ hg_; clear Mx6 Mz7; have Mx15 : Mw9.cell? ⟨Mg1, 0, none⟩ = some (.slice A B.all.length c) := (blk_cell MB13.out 0).trans rfl; have Mz16 := blk_frozen MB13.out 0; have Mx17 : Mw9.cell? ⟨Mg8, 0, none⟩ = some (.slice none 0 0) := (blk_cell MB10.out 0).trans rfl; have Mz18 := blk_frozen MB10.out 0) | (go_at_call 64; refine (placeR_calls HI.out id _ (Kd.C_below HC.out MH14.out) HCC.out).mono ?_; rintro e Mw19 ⟨rfl, hb_⟩; have MB20 := Aside0.mk (blk_below MB13.out hb_); have MB21 := Aside0.mk (blk_below MB10.out hb_); have MH22 := Aside0.mk (below_step MH14.out hb_); clear hb_; clear Mx15 Mz16 Mx17 Mz18; have Mx23 : Mw19.cell? ⟨Mg1, 0, none⟩ = some (.slice A B.all.length c) := (blk_cell MB20.out 0).trans rfl; have Mz24 := blk_frozen MB20.out 0; have Mx25 : Mw19.cell? ⟨Mg8, 0, none⟩ = some (.slice none 0 0) := (blk_cell MB21.out 0).trans rfl; have Mz26 := blk_frozen MB21.out 0))
    have q := blk_full MB21.out [.slice A B.all.length c] rfl
    (try simp only [Exit.inBlock, Exit.then])
    refine bodyPost_ret (results_ct rfl _ _ Mg8 63 #[.slice A B.all.length c] (0, 0) _ rfl q.1 Try.underlying63 rfl (by kernel_rfl)) rfl ?_
    exact ⟨_, rfl, Kd.V_mono (Kd.V_grown (Kd.V_below (Kd.V_bound HS.out) MH22.out) q.2 (fun k hk e => by injection e with e; have h1_ := hk.2; have h2_ := MG11.out; omega)) (fun k hk => .inl hk.1), MH22.out.grown q.2 (below_size MH22.out) (fun k hk => by cases hk; exact MG11.out)⟩
  have HX := Aside0.mk hx
  have HFE := Aside0.mk hfe
  have hlt := (List.getElem?_eq_some_iff.1 hx).1
  have hil : i < B.all.length := by rw [all_len]; exact hlt
  obtain ⟨y, HY⟩ : ∃ y, Aside0 (y = B.stat x) := ⟨_, ⟨rfl⟩⟩
  have hx0 : x.f0 = y.f0 := by rw [HY.out]; rfl
  have hx1 : x.f1 = y.f1 := by rw [HY.out]; rfl
  have hx2 : x.f2 = y.f3 := by rw [HY.out]; rfl
  have HRD : Aside0 (rd_T41 B.all (i : Int) = y) := ⟨by rw [all_atR hx, HY.out]⟩
  obtain ⟨ad, A12, c12, A13, c13, ea, e0, e1, e2, e3, e4, e5, e6, e7, e8, e9, e10, e11, e12, e13, e14, l1, C1, l2, C2⟩ := at_T41 HC.out (i : Int) (by omega) (by omega)
  rw [HRD.out] at e0 e1 e2 e3 e4 e5 e6 e7 e8 e9 e10 e11 e12 e13 e14 l1 C1 l2 C2
  rw [Int.toNat_natCast] at e0 e1 e2 e3 e4 e5 e6 e7 e8 e9 e10 e11 e12 e13 e14
  subst ea
  have HE6 := Aside0.mk e6
  have HE7 := Aside0.mk e7
  have HE12 := Aside0.mk e12
  have HE14 := Aside0.mk e14
  have HR1 := Aside0.mk (And.intro l1 C1)
  have HR2 := Aside0.mk (And.intro l2 C2)
  have hfew := (hi.allFew hT).2 y (by rw [← HRD.out]; exact rd41_mem hil)
  have HFW := Aside0.mk hfew
  have hilz : (i : Int) < (B.all.length : Int) := by omega
  have pi0 : (0 ≤ (i : Int)) = True := eq_true (by omega)
  have pi1 : ((i : Int) < (B.all.length : Int)) = True := eq_true hilz
  have pi2 : (i < B.all.length) = True := eq_true hil
  have c0b : decide ((i : Int) < 0) = false := decide_eq_false (by omega)
  have c0g : decide (0 ≤ (i : Int)) = true := decide_eq_true (by omega)
  clear hs hi hT hx hfe hlt l1 C1 l2 C2 hfew e0 e1 e2 e3 e4 e5 e6 e7 e8 e9 e10 e11 e12 e13 e14
  rw [hx2] at hw
  rcases hw with ⟨c1, hop⟩ | ⟨c1, hw⟩
  · rw [hop]
    dsimp only
    rw [c1] at HE14
    clear c1 hop
    go_enter Try.func57, Try.ntmps57
    go_wp2_with (first | ((with_reducible refine gate_dst (N := 3) rfl ?_); refine box_event ?hg (N := 3) ?hd (cs := #[.slice (some ad) B.all.length c]) (t := 63) ?hr ?_; (case hd => rfl); (case hg => rfl); (case hr => first | (go_simp; done) | (go_simp; rfl)); intro Mg1 hg_ Mw2 hbox_ hb_; have MB3 := Aside0.mk hbox_; have MG4 : Aside0 (w.heap.size ≤ Mg1) := ⟨by rw [hg_]; exact below_size HB.out⟩; have MH5 := Aside0.mk (below_step HB.out hb_); clear hbox_ hb_ hg_; have Mx6 : Mw2.cell? ⟨Mg1, 0, none⟩ = some (.slice (some ad) B.all.length c) := (blk_cell MB3.out 0).trans rfl; have Mz7 := blk_frozen MB3.out 0) | ((with_reducible refine gate_dst (N := 6) rfl ?_); refine box_event ?hg (N := 6) ?hd (cs := #[.slice none 0 0]) (t := 63) ?hr ?_; (case hd => rfl); (case hg => rfl); (case hr => first | (go_simp; done) | (go_simp; rfl)); intro Mg8 hg_ Mw9 hbox_ hb_; have MB10 := Aside0.mk hbox_; have MG11 : Aside0 (w.heap.size ≤ Mg8) := ⟨by rw [hg_]; exact below_size MH5.out⟩; have MN12 : Aside0 (Mg1 ≠ Mg8) := ⟨by rw [hg_]; exact Nat.ne_of_lt (blk_lt MB3.out)⟩; have MB13 := Aside0.mk (blk_below MB3.out hb_); have MH14 := Aside0.mk (below_step MH5.out hb_); clear hbox_ hb_ hg_; clear Mx6 Mz7; have Mx15 : Mw9.cell? ⟨Mg1, 0, none⟩ = some (.slice (some ad) B.all.length c) := (blk_cell MB13.out 0).trans rfl; have Mz16 := blk_frozen MB13.out 0; have Mx17 : Mw9.cell? ⟨Mg8, 0, none⟩ = some (.slice none 0 0) := (blk_cell MB10.out 0).trans rfl; have Mz18 := blk_frozen MB10.out 0; have f6 := pw_cell_below MH14.out HE6.out; have f7 := pw_cell_below MH14.out HE7.out; have f12 := pw_cell_below MH14.out HE12.out; have f14 := pw_cell_below MH14.out HE14.out) | (go_at_call 64; refine (placeR_calls HI.out id _ (Kd.C_below HC.out MH14.out) HCC.out).mono ?_; rw [HFE.out]; rintro e Mw19 ⟨rfl, hb_⟩; have MB20 := Aside0.mk (blk_below MB13.out hb_); have MB21 := Aside0.mk (blk_below MB10.out hb_); have MH22 := Aside0.mk (below_step MH14.out hb_); clear hb_; clear Mx15 Mz16 Mx17 Mz18; have Mx23 : Mw19.cell? ⟨Mg1, 0, none⟩ = some (.slice (some ad) B.all.length c) := (blk_cell MB20.out 0).trans rfl; have Mz24 := blk_frozen MB20.out 0; have Mx25 : Mw19.cell? ⟨Mg8, 0, none⟩ = some (.slice none 0 0) := (blk_cell MB21.out 0).trans rfl; have Mz26 := blk_frozen MB21.out 0; clear f6 f7 f12 f14; have f6 := pw_cell_below MH22.out HE6.out; have f7 := pw_cell_below MH22.out HE7.out; have f12 := pw_cell_below MH22.out HE12.out; have f14 := pw_cell_below MH22.out HE14.out))
    have q := blk_full MB21.out [.slice (some ad) B.all.length c] rfl
    (try simp only [Exit.inBlock, Exit.then])
    refine bodyPost_ret (results_ct rfl _ _ Mg8 63 #[.slice (some ad) B.all.length c] (0, 0) _ rfl q.1 Try.underlying63 rfl (by kernel_rfl)) rfl ?_
    exact ⟨_, rfl, Kd.V_mono (Kd.V_grown (Kd.V_below (Kd.V_bound HS.out) MH22.out) q.2 (fun k hk e => by injection e with e; have h1_ := hk.2; have h2_ := MG11.out; omega)) (fun k hk => .inl hk.1), MH22.out.grown q.2 (below_size MH22.out) (fun k hk => by cases hk; exact MG11.out)⟩
  rw [c1] at HE14
  clear c1
  rcases hw with ⟨c2, hop⟩ | ⟨c2, hw⟩
  · rw [hop]
    dsimp only
    have c2b : decide (n < 1) = true := decide_eq_true c2
    clear c2 hop
    go_enter Try.func57, Try.ntmps57
    go_wp2_with (first | ((with_reducible refine gate_dst (N := 3) rfl ?_); refine box_event ?hg (N := 3) ?hd (cs := #[.slice (some ad) B.all.length c]) (t := 63) ?hr ?_; (case hd => rfl); (case hg => rfl); (case hr => first | (go_simp; done) | (go_simp; rfl)); intro Mg1 hg_ Mw2 hbox_ hb_; have MB3 := Aside0.mk hbox_; have MG4 : Aside0 (w.heap.size ≤ Mg1) := ⟨by rw [hg_]; exact below_size HB.out⟩; have MH5 := Aside0.mk (below_step HB.out hb_); clear hbox_ hb_ hg_; have Mx6 : Mw2.cell? ⟨Mg1, 0, none⟩ = some (.slice (some ad) B.all.length c) := (blk_cell MB3.out 0).trans rfl; have Mz7 := blk_frozen MB3.out 0) | ((with_reducible refine gate_dst (N := 6) rfl ?_); refine box_event ?hg (N := 6) ?hd (cs := #[.slice none 0 0]) (t := 63) ?hr ?_; (case hd => rfl); (case hg => rfl); (case hr => first | (go_simp; done) | (go_simp; rfl)); intro Mg8 hg_ Mw9 hbox_ hb_; have MB10 := Aside0.mk hbox_; have MG11 : Aside0 (w.heap.size ≤ Mg8) := ⟨by rw [hg_]; exact below_size MH5.out⟩; have MN12 : Aside0 (Mg1 ≠ Mg8) := ⟨by rw [hg_]; exact Nat.ne_of_lt (blk_lt MB3.out)⟩; have MB13 := Aside0.mk (blk_below MB3.out hb_); have MH14 := Aside0.mk (below_step MH5.out hb_); clear hbox_ hb_ hg_; clear Mx6 Mz7; have Mx15 : Mw9.cell? ⟨Mg1, 0, none⟩ = some (.slice (some ad) B.all.length c) := (blk_cell MB13.out 0).trans rfl; have Mz16 := blk_frozen MB13.out 0; have Mx17 : Mw9.cell? ⟨Mg8, 0, none⟩ = some (.slice none 0 0) := (blk_cell MB10.out 0).trans rfl; have Mz18 := blk_frozen MB10.out 0; have f6 := pw_cell_below MH14.out HE6.out; have f7 := pw_cell_below MH14.out HE7.out; have f12 := pw_cell_below MH14.out HE12.out; have f14 := pw_cell_below MH14.out HE14.out) | (go_at_call 64; refine (placeR_calls HI.out id _ (Kd.C_below HC.out MH14.out) HCC.out).mono ?_; rw [HFE.out]; rintro e Mw19 ⟨rfl, hb_⟩; have MB20 := Aside0.mk (blk_below MB13.out hb_); have MB21 := Aside0.mk (blk_below MB10.out hb_); have MH22 := Aside0.mk (below_step MH14.out hb_); clear hb_; clear Mx15 Mz16 Mx17 Mz18; have Mx23 : Mw19.cell? ⟨Mg1, 0, none⟩ = some (.slice (some ad) B.all.length c) := (blk_cell MB20.out 0).trans rfl; have Mz24 := blk_frozen MB20.out 0; have Mx25 : Mw19.cell? ⟨Mg8, 0, none⟩ = some (.slice none 0 0) := (blk_cell MB21.out 0).trans rfl; have Mz26 := blk_frozen MB21.out 0; clear f6 f7 f12 f14; have f6 := pw_cell_below MH22.out HE6.out; have f7 := pw_cell_below MH22.out HE7.out; have f12 := pw_cell_below MH22.out HE12.out; have f14 := pw_cell_below MH22.out HE14.out))
    have q := blk_full MB21.out [.slice (some ad) B.all.length c] rfl
    (try simp only [Exit.inBlock, Exit.then])
    refine bodyPost_ret (results_ct rfl _ _ Mg8 63 #[.slice (some ad) B.all.length c] (0, 0) _ rfl q.1 Try.underlying63 rfl (by kernel_rfl)) rfl ?_
    exact ⟨_, rfl, Kd.V_mono (Kd.V_grown (Kd.V_below (Kd.V_bound HS.out) MH22.out) q.2 (fun k hk e => by injection e with e; have h1_ := hk.2; have h2_ := MG11.out; omega)) (fun k hk => .inl hk.1), MH22.out.grown q.2 (below_size MH22.out) (fun k hk => by cases hk; exact MG11.out)⟩
  have c2b : decide (n < 1) = false := decide_eq_false c2
  clear c2
  rcases hw with ⟨c3, hop⟩ | ⟨c3, hw⟩
  · rw [hop]
    dsimp only
    have c3b : decide (1000000 < n) = true := decide_eq_true c3
    clear c3 hop
    go_enter Try.func57, Try.ntmps57
    go_wp2_with (first | ((with_reducible refine gate_dst (N := 3) rfl ?_); refine box_event ?hg (N := 3) ?hd (cs := #[.slice (some ad) B.all.length c]) (t := 63) ?hr ?_; (case hd => rfl); (case hg => rfl); (case hr => first | (go_simp; done) | (go_simp; rfl)); intro Mg1 hg_ Mw2 hbox_ hb_; have MB3 := Aside0.mk hbox_; have MG4 : Aside0 (w.heap.size ≤ Mg1) := ⟨by rw [hg_]; exact below_size HB.out⟩; have MH5 := Aside0.mk (below_step HB.out hb_); clear hbox_ hb_ hg_; have Mx6 : Mw2.cell? ⟨Mg1, 0, none⟩ = some (.slice (some ad) B.all.length c) := (blk_cell MB3.out 0).trans rfl; have Mz7 := blk_frozen MB3.out 0) | ((with_reducible refine gate_dst (N := 6) rfl ?_); refine box_event ?hg (N := 6) ?hd (cs := #[.slice none 0 0]) (t := 63) ?hr ?_; (case hd => rfl); (case hg => rfl); (case hr => first | (go_simp; done) | (go_simp; rfl)); intro Mg8 hg_ Mw9 hbox_ hb_; have MB10 := Aside0.mk hbox_; have MG11 : Aside0 (w.heap.size ≤ Mg8) := ⟨by rw [hg_]; exact below_size MH5.out⟩; have MN12 : Aside0 (Mg1 ≠ Mg8) := ⟨by rw [hg_]; exact Nat.ne_of_lt (blk_lt MB3.out)⟩; have MB13 := Aside0.mk (blk_below MB3.out hb_); have MH14 := Aside0.mk (below_step MH5.out hb_); clear hbox_ hb_ hg_; clear Mx6 Mz7; have Mx15 : Mw9.cell? ⟨Mg1, 0, none⟩ = some (.slice (some ad) B.all.length c) := (blk_cell MB13.out 0).trans rfl; have Mz16 := blk_frozen MB13.out 0; have Mx17 : Mw9.cell? ⟨Mg8, 0, none⟩ = some (.slice none 0 0) := (blk_cell MB10.out 0).trans rfl; have Mz18 := blk_frozen MB10.out 0; have f6 := pw_cell_below MH14.out HE6.out; have f7 := pw_cell_below MH14.out HE7.out; have f12 := pw_cell_below MH14.out HE12.out; have f14 := pw_cell_below MH14.out HE14.out) | (go_at_call 64; refine (placeR_calls HI.out id _ (Kd.C_below HC.out MH14.out) HCC.out).mono ?_; rw [HFE.out]; rintro e Mw19 ⟨rfl, hb_⟩; have MB20 := Aside0.mk (blk_below MB13.out hb_); have MB21 := Aside0.mk (blk_below MB10.out hb_); have MH22 := Aside0.mk (below_step MH14.out hb_); clear hb_; clear Mx15 Mz16 Mx17 Mz18; have Mx23 : Mw19.cell? ⟨Mg1, 0, none⟩ = some (.slice (some ad) B.all.length c) := (blk_cell MB20.out 0).trans rfl; have Mz24 := blk_frozen MB20.out 0; have Mx25 : Mw19.cell? ⟨Mg8, 0, none⟩ = some (.slice none 0 0) := (blk_cell MB21.out 0).trans rfl; have Mz26 := blk_frozen MB21.out 0; clear f6 f7 f12 f14; have f6 := pw_cell_below MH22.out HE6.out; have f7 := pw_cell_below MH22.out HE7.out; have f12 := pw_cell_below MH22.out HE12.out; have f14 := pw_cell_below MH22.out HE14.out))
    have q := blk_full MB21.out [.slice (some ad) B.all.length c] rfl
    (try simp only [Exit.inBlock, Exit.then])
    refine bodyPost_ret (results_ct rfl _ _ Mg8 63 #[.slice (some ad) B.all.length c] (0, 0) _ rfl q.1 Try.underlying63 rfl (by kernel_rfl)) rfl ?_
    exact ⟨_, rfl, Kd.V_mono (Kd.V_grown (Kd.V_below (Kd.V_bound HS.out) MH22.out) q.2 (fun k hk e => by injection e with e; have h1_ := hk.2; have h2_ := MG11.out; omega)) (fun k hk => .inl hk.1), MH22.out.grown q.2 (below_size MH22.out) (fun k hk => by cases hk; exact MG11.out)⟩
  have c3b : decide (1000000 < n) = false := decide_eq_false c3
  clear c3
  rcases hw with ⟨c5, hop⟩ | ⟨c5, hw⟩
  · rw [hop]
    dsimp only
    have c5b : decide (0 ≤ B.of n) = true := decide_eq_true c5
    clear c5 hop
    go_enter Try.func57, Try.ntmps57
    go_wp2_with (first | ((with_reducible refine gate_dst (N := 3) rfl ?_); refine box_event ?hg (N := 3) ?hd (cs := #[.slice (some ad) B.all.length c]) (t := 63) ?hr ?_; (case hd => rfl); (case hg => rfl); (case hr => first | (go_simp; done) | (go_simp; rfl)); intro Mg1 hg_ Mw2 hbox_ hb_; have MB3 := Aside0.mk hbox_; have MG4 : Aside0 (w.heap.size ≤ Mg1) := ⟨by rw [hg_]; exact below_size HB.out⟩; have MH5 := Aside0.mk (below_step HB.out hb_); clear hbox_ hb_ hg_; have Mx6 : Mw2.cell? ⟨Mg1, 0, none⟩ = some (.slice (some ad) B.all.length c) := (blk_cell MB3.out 0).trans rfl; have Mz7 := blk_frozen MB3.out 0) | ((with_reducible refine gate_dst (N := 6) rfl ?_); refine box_event ?hg (N := 6) ?hd (cs := #[.slice none 0 0]) (t := 63) ?hr ?_; (case hd => rfl); (case hg => rfl); (case hr => first | (go_simp; done) | (go_simp; rfl)); intro Mg8 hg_ Mw9 hbox_ hb_; have MB10 := Aside0.mk hbox_; have MG11 : Aside0 (w.heap.size ≤ Mg8) := ⟨by rw [hg_]; exact below_size MH5.out⟩; have MN12 : Aside0 (Mg1 ≠ Mg8) := ⟨by rw [hg_]; exact Nat.ne_of_lt (blk_lt MB3.out)⟩; have MB13 := Aside0.mk (blk_below MB3.out hb_); have MH14 := Aside0.mk (below_step MH5.out hb_); clear hbox_ hb_ hg_; clear Mx6 Mz7; have Mx15 : Mw9.cell? ⟨Mg1, 0, none⟩ = some (.slice (some ad) B.all.length c) := (blk_cell MB13.out 0).trans rfl; have Mz16 := blk_frozen MB13.out 0; have Mx17 : Mw9.cell? ⟨Mg8, 0, none⟩ = some (.slice none 0 0) := (blk_cell MB10.out 0).trans rfl; have Mz18 := blk_frozen MB10.out 0; have f6 := pw_cell_below MH14.out HE6.out; have f7 := pw_cell_below MH14.out HE7.out; have f12 := pw_cell_below MH14.out HE12.out; have f14 := pw_cell_below MH14.out HE14.out) | (go_at_call 64; refine (placeR_calls HI.out id _ (Kd.C_below HC.out MH14.out) HCC.out).mono ?_; rw [HFE.out]; rintro e Mw19 ⟨rfl, hb_⟩; have MB20 := Aside0.mk (blk_below MB13.out hb_); have MB21 := Aside0.mk (blk_below MB10.out hb_); have MH22 := Aside0.mk (below_step MH14.out hb_); clear hb_; clear Mx15 Mz16 Mx17 Mz18; have Mx23 : Mw19.cell? ⟨Mg1, 0, none⟩ = some (.slice (some ad) B.all.length c) := (blk_cell MB20.out 0).trans rfl; have Mz24 := blk_frozen MB20.out 0; have Mx25 : Mw19.cell? ⟨Mg8, 0, none⟩ = some (.slice none 0 0) := (blk_cell MB21.out 0).trans rfl; have Mz26 := blk_frozen MB21.out 0; clear f6 f7 f12 f14; have f6 := pw_cell_below MH22.out HE6.out; have f7 := pw_cell_below MH22.out HE7.out; have f12 := pw_cell_below MH22.out HE12.out; have f14 := pw_cell_below MH22.out HE14.out) | (go_at_call 61; refine (ofR_calls HI.out HTT.out n _ (Kd.C_below HC.out MH22.out) HCC.out).mono ?_; rintro e Mw27 ⟨rfl, hb_⟩; have MB28 := Aside0.mk (blk_below MB20.out hb_); have MB29 := Aside0.mk (blk_below MB21.out hb_); have MH30 := Aside0.mk (below_step MH22.out hb_); clear hb_; clear Mx23 Mz24 Mx25 Mz26; have Mx31 : Mw27.cell? ⟨Mg1, 0, none⟩ = some (.slice (some ad) B.all.length c) := (blk_cell MB28.out 0).trans rfl; have Mz32 := blk_frozen MB28.out 0; have Mx33 : Mw27.cell? ⟨Mg8, 0, none⟩ = some (.slice none 0 0) := (blk_cell MB29.out 0).trans rfl; have Mz34 := blk_frozen MB29.out 0; clear f6 f7 f12 f14; have f6 := pw_cell_below MH30.out HE6.out; have f7 := pw_cell_below MH30.out HE7.out; have f12 := pw_cell_below MH30.out HE12.out; have f14 := pw_cell_below MH30.out HE14.out))
    have q := blk_full MB29.out [.slice (some ad) B.all.length c] rfl
    (try simp only [Exit.inBlock, Exit.then])
    refine bodyPost_ret (results_ct rfl _ _ Mg8 63 #[.slice (some ad) B.all.length c] (0, 0) _ rfl q.1 Try.underlying63 rfl (by kernel_rfl)) rfl ?_
    exact ⟨_, rfl, Kd.V_mono (Kd.V_grown (Kd.V_below (Kd.V_bound HS.out) MH30.out) q.2 (fun k hk e => by injection e with e; have h1_ := hk.2; have h2_ := MG11.out; omega)) (fun k hk => .inl hk.1), MH30.out.grown q.2 (below_size MH30.out) (fun k hk => by cases hk; exact MG11.out)⟩
  have c5b : decide (0 ≤ B.of n) = false := decide_eq_false c5
  clear c5
  rw [hx0, hx1] at hw
  rcases hw with ⟨c4, hop⟩ | ⟨c4, hop1, hop2⟩
  · rw [hop]
    dsimp only
    have c4b : decide (wrap64 (y.f0.f6 + y.f0.f7) ≤ (y.f1.length : Int)) = true := decide_eq_true c4
    have c4w : decide (IntKind.i64.wrap (y.f0.f6 + y.f0.f7) ≤ (y.f1.length : Int)) = true := by rw [i64_w]; exact c4b
    clear c4 hop
    go_enter Try.func57, Try.ntmps57
    go_wp2_with (first | ((with_reducible refine gate_dst (N := 3) rfl ?_); refine box_event ?hg (N := 3) ?hd (cs := #[.slice (some ad) B.all.length c]) (t := 63) ?hr ?_; (case hd => rfl); (case hg => rfl); (case hr => first | (go_simp; done) | (go_simp; rfl)); intro Mg1 hg_ Mw2 hbox_ hb_; have MB3 := Aside0.mk hbox_; have MG4 : Aside0 (w.heap.size ≤ Mg1) := ⟨by rw [hg_]; exact below_size HB.out⟩; have MH5 := Aside0.mk (below_step HB.out hb_); clear hbox_ hb_ hg_; have Mx6 : Mw2.cell? ⟨Mg1, 0, none⟩ = some (.slice (some ad) B.all.length c) := (blk_cell MB3.out 0).trans rfl; have Mz7 := blk_frozen MB3.out 0) | ((with_reducible refine gate_dst (N := 6) rfl ?_); refine box_event ?hg (N := 6) ?hd (cs := #[.slice none 0 0]) (t := 63) ?hr ?_; (case hd => rfl); (case hg => rfl); (case hr => first | (go_simp; done) | (go_simp; rfl)); intro Mg8 hg_ Mw9 hbox_ hb_; have MB10 := Aside0.mk hbox_; have MG11 : Aside0 (w.heap.size ≤ Mg8) := ⟨by rw [hg_]; exact below_size MH5.out⟩; have MN12 : Aside0 (Mg1 ≠ Mg8) := ⟨by rw [hg_]; exact Nat.ne_of_lt (blk_lt MB3.out)⟩; have MB13 := Aside0.mk (blk_below MB3.out hb_); have MH14 := Aside0.mk (below_step MH5.out hb_); clear hbox_ hb_ hg_; clear Mx6 Mz7; have Mx15 : Mw9.cell? ⟨Mg1, 0, none⟩ = some (.slice (some ad) B.all.length c) := (blk_cell MB13.out 0).trans rfl; have Mz16 := blk_frozen MB13.out 0; have Mx17 : Mw9.cell? ⟨Mg8, 0, none⟩ = some (.slice none 0 0) := (blk_cell MB10.out 0).trans rfl; have Mz18 := blk_frozen MB10.out 0; have f6 := pw_cell_below MH14.out HE6.out; have f7 := pw_cell_below MH14.out HE7.out; have f12 := pw_cell_below MH14.out HE12.out; have f14 := pw_cell_below MH14.out HE14.out) | (go_at_call 64; refine (placeR_calls HI.out id _ (Kd.C_below HC.out MH14.out) HCC.out).mono ?_; rw [HFE.out]; rintro e Mw19 ⟨rfl, hb_⟩; have MB20 := Aside0.mk (blk_below MB13.out hb_); have MB21 := Aside0.mk (blk_below MB10.out hb_); have MH22 := Aside0.mk (below_step MH14.out hb_); clear hb_; clear Mx15 Mz16 Mx17 Mz18; have Mx23 : Mw19.cell? ⟨Mg1, 0, none⟩ = some (.slice (some ad) B.all.length c) := (blk_cell MB20.out 0).trans rfl; have Mz24 := blk_frozen MB20.out 0; have Mx25 : Mw19.cell? ⟨Mg8, 0, none⟩ = some (.slice none 0 0) := (blk_cell MB21.out 0).trans rfl; have Mz26 := blk_frozen MB21.out 0; clear f6 f7 f12 f14; have f6 := pw_cell_below MH22.out HE6.out; have f7 := pw_cell_below MH22.out HE7.out; have f12 := pw_cell_below MH22.out HE12.out; have f14 := pw_cell_below MH22.out HE14.out) | (go_at_call 61; refine (ofR_calls HI.out HTT.out n _ (Kd.C_below HC.out MH22.out) HCC.out).mono ?_; rintro e Mw27 ⟨rfl, hb_⟩; have MB28 := Aside0.mk (blk_below MB20.out hb_); have MB29 := Aside0.mk (blk_below MB21.out hb_); have MH30 := Aside0.mk (below_step MH22.out hb_); clear hb_; clear Mx23 Mz24 Mx25 Mz26; have Mx31 : Mw27.cell? ⟨Mg1, 0, none⟩ = some (.slice (some ad) B.all.length c) := (blk_cell MB28.out 0).trans rfl; have Mz32 := blk_frozen MB28.out 0; have Mx33 : Mw27.cell? ⟨Mg8, 0, none⟩ = some (.slice none 0 0) := (blk_cell MB29.out 0).trans rfl; have Mz34 := blk_frozen MB29.out 0; clear f6 f7 f12 f14; have f6 := pw_cell_below MH30.out HE6.out; have f7 := pw_cell_below MH30.out HE7.out; have f12 := pw_cell_below MH30.out HE12.out; have f14 := pw_cell_below MH30.out HE14.out))
    go_quiet (fail)
    have hbq_ : Below Mw27.heap.size Mw27 (Mw27.drewN nq) := pw_below_drewN (Below.refl _ _) nq
    have MB36 := Aside0.mk (blk_below MB28.out hbq_)
    have MB37 := Aside0.mk (blk_below MB29.out hbq_)
    have MH38 := Aside0.mk (below_step MH30.out hbq_)
    clear hbq_
    clear Mx31 Mz32 Mx33 Mz34 f6 f7 f12 f14
    generalize Mw27.drewN nq = Mw35 at MB36 MB37 MH38 ⊢
    have Mx39 : Mw35.cell? ⟨Mg1, 0, none⟩ = some (.slice (some ad) B.all.length c) := (blk_cell MB36.out 0).trans rfl
    have Mz40 := blk_frozen MB36.out 0
    have Mx41 : Mw35.cell? ⟨Mg8, 0, none⟩ = some (.slice none 0 0) := (blk_cell MB37.out 0).trans rfl
    have Mz42 := blk_frozen MB37.out 0
    have f6 := pw_cell_below MH38.out HE6.out
    have f7 := pw_cell_below MH38.out HE7.out
    have f12 := pw_cell_below MH38.out HE12.out
    have f14 := pw_cell_below MH38.out HE14.out
    go_wp2_with fail
    have q := blk_full MB37.out [.slice (some ad) B.all.length c] rfl
    (try simp only [Exit.inBlock, Exit.then])
    refine bodyPost_ret (results_ct rfl _ _ Mg8 63 #[.slice (some ad) B.all.length c] (0, 0) _ rfl q.1 Try.underlying63 rfl (by kernel_rfl)) rfl ?_
    exact ⟨_, rfl, Kd.V_mono (Kd.V_grown (Kd.V_below (Kd.V_bound HS.out) MH38.out) q.2 (fun k hk e => by injection e with e; have h1_ := hk.2; have h2_ := MG11.out; omega)) (fun k hk => .inl hk.1), MH38.out.grown q.2 (below_size MH38.out) (fun k hk => by cases hk; exact MG11.out)⟩
  have c4b : decide (wrap64 (y.f0.f6 + y.f0.f7) ≤ (y.f1.length : Int)) = false := decide_eq_false c4
  have c4w : decide (IntKind.i64.wrap (y.f0.f6 + y.f0.f7) ≤ (y.f1.length : Int)) = false := by rw [i64_w]; exact c4b
  rw [hop1, hop2]
  clear c4 hop1 hop2
  go_enter Try.func57, Try.ntmps57
  go_wp2_with (first | ((with_reducible refine gate_dst (N := 3) rfl ?_); refine box_event ?hg (N := 3) ?hd (cs := #[.slice (some ad) B.all.length c]) (t := 63) ?hr ?_; (case hd => rfl); (case hg => rfl); (case hr => first | (go_simp; done) | (go_simp; rfl)); intro Mg1 hg_ Mw2 hbox_ hb_; have MB3 := Aside0.mk hbox_; have MG4 : Aside0 (w.heap.size ≤ Mg1) := ⟨by rw [hg_]; exact below_size HB.out⟩; have MH5 := Aside0.mk (below_step HB.out hb_); clear hbox_ hb_ hg_; have Mx6 : Mw2.cell? ⟨Mg1, 0, none⟩ = some (.slice (some ad) B.all.length c) := (blk_cell MB3.out 0).trans rfl; have Mz7 := blk_frozen MB3.out 0) | ((with_reducible refine gate_dst (N := 6) rfl ?_); refine box_event ?hg (N := 6) ?hd (cs := #[.slice none 0 0]) (t := 63) ?hr ?_; (case hd => rfl); (case hg => rfl); (case hr => first | (go_simp; done) | (go_simp; rfl)); intro Mg8 hg_ Mw9 hbox_ hb_; have MB10 := Aside0.mk hbox_; have MG11 : Aside0 (w.heap.size ≤ Mg8) := ⟨by rw [hg_]; exact below_size MH5.out⟩; have MN12 : Aside0 (Mg1 ≠ Mg8) := ⟨by rw [hg_]; exact Nat.ne_of_lt (blk_lt MB3.out)⟩; have MB13 := Aside0.mk (blk_below MB3.out hb_); have MH14 := Aside0.mk (below_step MH5.out hb_); clear hbox_ hb_ hg_; clear Mx6 Mz7; have Mx15 : Mw9.cell? ⟨Mg1, 0, none⟩ = some (.slice (some ad) B.all.length c) := (blk_cell MB13.out 0).trans rfl; have Mz16 := blk_frozen MB13.out 0; have Mx17 : Mw9.cell? ⟨Mg8, 0, none⟩ = some (.slice none 0 0) := (blk_cell MB10.out 0).trans rfl; have Mz18 := blk_frozen MB10.out 0; have f6 := pw_cell_below MH14.out HE6.out; have f7 := pw_cell_below MH14.out HE7.out; have f12 := pw_cell_below MH14.out HE12.out; have f14 := pw_cell_below MH14.out HE14.out) | (go_at_call 64; refine (placeR_calls HI.out id _ (Kd.C_below HC.out MH14.out) HCC.out).mono ?_; rw [HFE.out]; rintro e Mw19 ⟨rfl, hb_⟩; have MB20 := Aside0.mk (blk_below MB13.out hb_); have MB21 := Aside0.mk (blk_below MB10.out hb_); have MH22 := Aside0.mk (below_step MH14.out hb_); clear hb_; clear Mx15 Mz16 Mx17 Mz18; have Mx23 : Mw19.cell? ⟨Mg1, 0, none⟩ = some (.slice (some ad) B.all.length c) := (blk_cell MB20.out 0).trans rfl; have Mz24 := blk_frozen MB20.out 0; have Mx25 : Mw19.cell? ⟨Mg8, 0, none⟩ = some (.slice none 0 0) := (blk_cell MB21.out 0).trans rfl; have Mz26 := blk_frozen MB21.out 0; clear f6 f7 f12 f14; have f6 := pw_cell_below MH22.out HE6.out; have f7 := pw_cell_below MH22.out HE7.out; have f12 := pw_cell_below MH22.out HE12.out; have f14 := pw_cell_below MH22.out HE14.out) | (go_at_call 61; refine (ofR_calls HI.out HTT.out n _ (Kd.C_below HC.out MH22.out) HCC.out).mono ?_; rintro e Mw27 ⟨rfl, hb_⟩; have MB28 := Aside0.mk (blk_below MB20.out hb_); have MB29 := Aside0.mk (blk_below MB21.out hb_); have MH30 := Aside0.mk (below_step MH22.out hb_); clear hb_; clear Mx23 Mz24 Mx25 Mz26; have Mx31 : Mw27.cell? ⟨Mg1, 0, none⟩ = some (.slice (some ad) B.all.length c) := (blk_cell MB28.out 0).trans rfl; have Mz32 := blk_frozen MB28.out 0; have Mx33 : Mw27.cell? ⟨Mg8, 0, none⟩ = some (.slice none 0 0) := (blk_cell MB29.out 0).trans rfl; have Mz34 := blk_frozen MB29.out 0; clear f6 f7 f12 f14; have f6 := pw_cell_below MH30.out HE6.out; have f7 := pw_cell_below MH30.out HE7.out; have f12 := pw_cell_below MH30.out HE12.out; have f14 := pw_cell_below MH30.out HE14.out))
  go_quiet (fail)
  have hbq_ : Below Mw27.heap.size Mw27 (Mw27.drewN nq) := pw_below_drewN (Below.refl _ _) nq
  have MB36 := Aside0.mk (blk_below MB28.out hbq_)
  have MB37 := Aside0.mk (blk_below MB29.out hbq_)
  have MH38 := Aside0.mk (below_step MH30.out hbq_)
  clear hbq_
  clear Mx31 Mz32 Mx33 Mz34 f6 f7 f12 f14
  generalize Mw27.drewN nq = Mw35 at MB36 MB37 MH38 ⊢
  have Mx39 : Mw35.cell? ⟨Mg1, 0, none⟩ = some (.slice (some ad) B.all.length c) := (blk_cell MB36.out 0).trans rfl
  have Mz40 := blk_frozen MB36.out 0
  have Mx41 : Mw35.cell? ⟨Mg8, 0, none⟩ = some (.slice none 0 0) := (blk_cell MB37.out 0).trans rfl
  have Mz42 := blk_frozen MB37.out 0
  have f6 := pw_cell_below MH38.out HE6.out
  have f7 := pw_cell_below MH38.out HE7.out
  have f12 := pw_cell_below MH38.out HE12.out
  have f14 := pw_cell_below MH38.out HE14.out
  go_wp2_with (first | (go_at_call 52; refine (wholeR_calls HI.out HTT.out _ (Kd.C_below HC.out MH38.out) HCC.out).mono ?_; have hol_ := blk_lt MB37.out; have hbs_ := below_size MH38.out; rintro e Mw43 ⟨A0_, c0, rfl, hs_, hb_⟩; have MB44 := Aside0.mk (blk_below MB36.out hb_); have MB45 := Aside0.mk (blk_below MB37.out hb_); have MH46 := Aside0.mk (below_step MH38.out hb_); obtain ⟨g, A2_, c2_, A3_, c3_, eg_, hg_⟩ := SA_elem hs_ i (by rw [all_len]; exact (List.getElem?_eq_some_iff.1 HX.out).1); subst eg_; obtain ⟨n0, hn0_⟩ : ∃ n0, n0 = Mw35.heap.size := ⟨_, rfl⟩; rw [← hn0_] at hs_ hol_ hbs_; have HOG : Aside0 (¬ (n0 ≤ Mg8)) := ⟨by omega⟩; have HSA0 := Aside0.mk (Kd.S_lower hs_ hbs_); have HGN : Aside0 (n0 ≤ g) := ⟨((Kd.S_R hs_).1 g rfl).1⟩; have HGE : Aside0 (w.heap.size ≤ g) := ⟨Nat.le_trans hbs_ HGN.out⟩; clear hn0_; clear hs_ hg_ hol_ hbs_; clear hb_; clear Mx39 Mz40 Mx41 Mz42; have Mx47 : Mw43.cell? ⟨Mg1, 0, none⟩ = some (.slice (some ad) B.all.length c) := (blk_cell MB44.out 0).trans rfl; have Mz48 := blk_frozen MB44.out 0; have Mx49 : Mw43.cell? ⟨Mg8, 0, none⟩ = some (.slice none 0 0) := (blk_cell MB45.out 0).trans rfl; have Mz50 := blk_frozen MB45.out 0; clear f6 f7 f12 f14; have f6 := pw_cell_below MH46.out HE6.out; have f7 := pw_cell_below MH46.out HE7.out; have f12 := pw_cell_below MH46.out HE12.out; have f14 := pw_cell_below MH46.out HE14.out) | ((with_reducible refine gate_dst (N := 9) rfl ?_); refine box_event ?hg (N := 9) ?hd (cs := #[.slice none 0 0]) (t := 63) ?hr ?_; (case hd => rfl); (case hg => rfl); (case hr => first | (go_simp; done) | (go_simp; rfl)); intro Mg51 hg_ Mw52 hbox_ hb_; have MB53 := Aside0.mk hbox_; have MG54 : Aside0 (w.heap.size ≤ Mg51) := ⟨by rw [hg_]; exact below_size MH46.out⟩; have MN55 : Aside0 (Mg1 ≠ Mg51) := ⟨by rw [hg_]; exact Nat.ne_of_lt (blk_lt MB44.out)⟩; have MN56 : Aside0 (Mg8 ≠ Mg51) := ⟨by rw [hg_]; exact Nat.ne_of_lt (blk_lt MB45.out)⟩; have MB57 := Aside0.mk (blk_below MB44.out hb_); have MB58 := Aside0.mk (blk_below MB45.out hb_); have MH59 := Aside0.mk (below_step MH46.out hb_); have HSA1 := Aside0.mk (Kd.S_below HSA0.out hb_); have HUG : Aside0 (Mw43.heap.size ≤ Mg51) := ⟨by rw [hg_]; exact Nat.le_refl _⟩; clear hbox_ hb_ hg_; clear Mx47 Mz48 Mx49 Mz50; have Mx60 : Mw52.cell? ⟨Mg1, 0, none⟩ = some (.slice (some ad) B.all.length c) := (blk_cell MB57.out 0).trans rfl; have Mz61 := blk_frozen MB57.out 0; have Mx62 : Mw52.cell? ⟨Mg8, 0, none⟩ = some (.slice none 0 0) := (blk_cell MB58.out 0).trans rfl; have Mz63 := blk_frozen MB58.out 0; have Mx64 : Mw52.cell? ⟨Mg51, 0, none⟩ = some (.slice none 0 0) := (blk_cell MB53.out 0).trans rfl; have Mz65 := blk_frozen MB53.out 0; clear f6 f7 f12 f14; have f6 := pw_cell_below MH59.out HE6.out; have f7 := pw_cell_below MH59.out HE7.out; have f12 := pw_cell_below MH59.out HE12.out; have f14 := pw_cell_below MH59.out HE14.out) | ((with_reducible refine gate_store (t := 63) (p := 9) rfl ?_); refine store_event (t := 63) (p := 9) (v := ?vo_Mw66) (w1 := (Mw52.setCell ⟨Mg51, 0, none⟩ (.slice (some ⟨g, 0, none⟩) B.all.length c0))) ?hg ?ho ?hn ?hr ?_; (case ho => rfl); (case hg => rfl); (case hn => rfl); (case hr => first | (go_simp; done) | (go_simp; rfl)); intro Mw66 hw_; have MB67 : Aside0 (Mw66.heap[Mg1]? = some (.cells #[.slice (some ad) B.all.length c] 63 (0, 0))) := ⟨by rw [hw_]; exact blk_far MB57.out MN55.out _⟩; have MB68 : Aside0 (Mw66.heap[Mg8]? = some (.cells #[.slice none 0 0] 63 (0, 0))) := ⟨by rw [hw_]; exact blk_far MB58.out MN56.out _⟩; have MB69 : Aside0 (Mw66.heap[Mg51]? = some (.cells #[.slice (some ⟨g, 0, none⟩) B.all.length c0] 63 (0, 0))) := ⟨by rw [hw_]; exact blk_put (cs := #[.slice none 0 0]) MB53.out 0 _ rfl⟩; have MH70 : Aside0 (Below w.heap.size w Mw66) := ⟨by rw [hw_]; exact below_set MH59.out MG54.out⟩; have HSA2 : Aside0 (Kd.S k41a 41 Mw66 w.heap.size _ (.slice (some ⟨g, 0, none⟩) B.all.length c0) B.all) := ⟨by rw [hw_]; exact Kd.S_far (p := ⟨Mg51, 0, none⟩) HSA1.out (fun k hk e_ => by have e2_ : k = Mg51 := e_; have h1_ := hk.2; have h2_ := HUG.out; omega) _⟩; clear hw_; clear Mx60 Mz61 Mx62 Mz63 Mx64 Mz65; have Mx71 : Mw66.cell? ⟨Mg1, 0, none⟩ = some (.slice (some ad) B.all.length c) := (blk_cell MB67.out 0).trans rfl; have Mz72 := blk_frozen MB67.out 0; have Mx73 : Mw66.cell? ⟨Mg8, 0, none⟩ = some (.slice none 0 0) := (blk_cell MB68.out 0).trans rfl; have Mz74 := blk_frozen MB68.out 0; have Mx75 : Mw66.cell? ⟨Mg51, 0, none⟩ = some (.slice (some ⟨g, 0, none⟩) B.all.length c0) := (blk_cell MB69.out 0).trans rfl; have Mz76 := blk_frozen MB69.out 0; clear f6 f7 f12 f14; have f6 := pw_cell_below MH70.out HE6.out; have f7 := pw_cell_below MH70.out HE7.out; have f12 := pw_cell_below MH70.out HE12.out; have f14 := pw_cell_below MH70.out HE14.out))
  have HLI : Aside0 (i < B.all.length) := ⟨hil⟩
  have HRD2 : Aside0 (rd_T41 B.all (i : Int) = y) := HRD
  have HRL : Aside0 (y.f1.length < 1000) := ⟨HFW.out.1⟩
  have HSA3 : Aside0 (Kd.S k41a 41 _ w.heap.size (fun k => n0 ≤ k) _ _) := ⟨Kd.S_mono HSA2.out (fun k hk => hk.1)⟩
  clear Mx71 Mz72 Mx73 Mz74 Mx75 Mz76 f6 f7 f12 f14
  obtain ⟨_, AR, cR, hR_, hcell_, _, _⟩ := SA_row1 HSA3.out i HLI.out
  rw [HRD2.out] at hR_ hcell_
  have HRC : Aside0 (Mw66.drew.cell? ⟨g, i * 15 + 12, none⟩ = some (.slice AR y.f1.length cR)) := ⟨hcell_⟩
  clear hR_ hcell_
  refine start_ (n := 15) (S := fun w' => w'.cell? ⟨Mg51, 0, none⟩ = some (.slice (some ⟨g, 0, none⟩) B.all.length c0) ∧ w'.cell? ⟨g, i * 15 + 12, none⟩ = some (.slice AR y.f1.length cR)) (ds := [14]) #[false, false, false, false, false, false, false, false, false, false, false, false, false, false, false] (by kernel_rfl) rfl rfl ⟨(blk_cell (blk_drew MB69.out) 0).trans rfl, HRC.out⟩ (fun hHeld => ?_); refine with_tabW assignR.tab13 assignR.bits13 (fun HT_ HW_ => ?_)
  have MB79 := Aside0.mk (blk_drew MB67.out); have MB80 := Aside0.mk (blk_drew MB68.out); have MB81 := Aside0.mk (blk_drew MB69.out); have MH82 := Aside0.mk (below_drew1 MH70.out); have HSA4 := Aside0.mk (Kd.S_drew HSA3.out); generalize Mw66.drew = Mw77 at MB79 MB80 MB81 MH82 HSA4 hHeld ⊢; obtain ⟨oki, AR_, cR_, hR_, hcell_, hoki_, hback_⟩ := SA_row1 HSA4.out i HLI.out; rw [HRD2.out] at hR_ hcell_ hback_; obtain ⟨e1_, e2_⟩ : AR = AR_ ∧ cR = cR_ := (by have h_ := hcell_.symm.trans hHeld.2; injection h_ with h_; injection h_ with a_ _ b_; exact ⟨a_.symm, b_.symm⟩); subst e1_ e2_; have HRW4 := Aside0.mk hR_; have HOKI := Aside0.mk hoki_; have HBACK : Aside0 (∀ {w3 : World} {v' : Value} {xs' : List Int}, Mw77.grownBy w3 (.slice AR y.f1.length cR : Value).ownBlock → Kd.R (Kd.int .i64) 3 w3 w.heap.size (fun q => oki q ∨ Mw77.heap.size ≤ q) v' xs' → Kd.S k41a 41 (w3.setCell ⟨g, i * 15 + 12, none⟩ v') w.heap.size _ (.slice (some ⟨g, 0, none⟩) B.all.length c0) (B.all.set i { y with f1 := xs' })) := ⟨hback_⟩; clear hR_ hcell_ hoki_ hback_; obtain ⟨cl_, hcl_⟩ := Kd.S_typed HSA4.out g rfl; have HCL := Aside0.mk hcl_; clear hcl_; have hcell4 := hHeld.2
  refine pure_ (i := 0) (N := some 61) (v := ?_) (a' := ?_) #[true, false, false, false, false, false, false, false, false, false, false, false, false, false, false] rfl rfl (any_of HT_.out (by kernel_rfl)) (fun _ _ _ h => h) (Or.inl ⟨by rfl, ?_⟩) ?_ ?_
  rotate_left
  · intro w'
    go_simp
    with_reducible rfl
  rotate_left
  · simp only [Act.put, List.setIfInBounds_toArray, List.set_cons_zero, List.set_cons_succ, i64_w, i32_w]
    rfl
  refine pure_ (i := 2) (N := some 63) (v := ?_) (a' := ?_) #[true, false, true, false, false, false, false, false, false, false, false, false, false, false, false] rfl rfl (any_of HT_.out (by kernel_rfl)) (fun _ _ _ h => h) (Or.inl ⟨by rfl, ?_⟩) ?_ ?_
  rotate_left
  · intro w'
    go_simp
    with_reducible rfl
  rotate_left
  · simp only [Act.put, List.setIfInBounds_toArray, List.set_cons_zero, List.set_cons_succ, i64_w, i32_w]
    rfl
  refine pure_ (i := 3) (N := some 64) (v := ?_) (a' := ?_) #[true, false, true, true, false, false, false, false, false, false, false, false, false, false, false] rfl rfl (any_of HT_.out (by kernel_rfl)) (fun _ _ _ h => h) (Or.inl ⟨by rfl, ?_⟩) ?_ ?_
  rotate_left
  · intro w'
    go_simp
    with_reducible rfl
  rotate_left
  · simp only [Act.put, List.setIfInBounds_toArray, List.set_cons_zero, List.set_cons_succ, i64_w, i32_w]
    rfl
  refine pure_ (i := 5) (N := some 66) (v := ?_) (a' := ?_) #[true, false, true, true, false, true, false, false, false, false, false, false, false, false, false] rfl rfl (any_of HT_.out (by kernel_rfl)) (fun _ _ _ h => h) (Or.inl ⟨by rfl, ?_⟩) ?_ ?_
  rotate_left
  · intro w'
    go_simp
    with_reducible rfl
  rotate_left
  · simp only [Act.put, List.setIfInBounds_toArray, List.set_cons_zero, List.set_cons_succ, i64_w, i32_w]
    rfl
  refine pure_ (i := 9) (N := some 70) (v := ?_) (a' := ?_) #[true, false, true, true, false, true, false, false, false, true, false, false, false, false, false] rfl rfl (any_of HT_.out (by kernel_rfl)) (fun _ _ _ h => h) (Or.inl ⟨by rfl, ?_⟩) ?_ ?_
  rotate_left
  · intro w'
    go_simp
    with_reducible rfl
  rotate_left
  · simp only [Act.put, List.setIfInBounds_toArray, List.set_cons_zero, List.set_cons_succ, i64_w, i32_w]
    rfl
  refine take_ (i := 1) (N := some 62) (v := ?_) (a' := ?_) #[true, true, true, true, false, true, false, false, false, true, false, false, false, false, false] rfl rfl (take_ofW HT_.out HW_.out (by kernel_rfl)) (fun _ _ _ h => h) (Or.inl ⟨by rfl, ?_⟩) hHeld ?_ ?_
  rotate_left
  · rintro w' ⟨s0, s1⟩
    go_simp
    with_reducible rfl
  rotate_left
  · simp only [Act.put, List.setIfInBounds_toArray, List.set_cons_zero, List.set_cons_succ, i64_w, i32_w]
    rfl
  refine take_ (i := 4) (N := some 65) (v := ?_) (a' := ?_) #[true, true, true, true, true, true, false, false, false, true, false, false, false, false, false] rfl rfl (take_ofW HT_.out HW_.out (by kernel_rfl)) (fun _ _ _ h => h) (Or.inl ⟨by rfl, ?_⟩) hHeld ?_ ?_
  rotate_left
  · rintro w' ⟨s0, s1⟩
    go_simp
    with_reducible rfl
  rotate_left
  · simp only [Act.put, List.setIfInBounds_toArray, List.set_cons_zero, List.set_cons_succ, i64_w, i32_w]
    rfl
  refine pure_ (i := 6) (N := some 67) (v := ?_) (a' := ?_) #[true, true, true, true, true, true, true, false, false, true, false, false, false, false, false] rfl rfl (any_of HT_.out (by kernel_rfl)) (fun _ _ _ h => h) (Or.inl ⟨by rfl, ?_⟩) ?_ ?_
  rotate_left
  · intro w'
    go_simp
    with_reducible rfl
  rotate_left
  · simp only [Act.put, List.setIfInBounds_toArray, List.set_cons_zero, List.set_cons_succ, i64_w, i32_w]
    rfl
  refine pure_ (i := 7) (N := some 68) (v := ?_) (a' := ?_) #[true, true, true, true, true, true, true, true, false, true, false, false, false, false, false] rfl rfl (any_of HT_.out (by kernel_rfl)) (fun _ _ _ h => h) (Or.inl ⟨by rfl, ?_⟩) ?_ ?_
  rotate_left
  · intro w'
    go_simp
    with_reducible rfl
  rotate_left
  · simp only [Act.put, List.setIfInBounds_toArray, List.set_cons_zero, List.set_cons_succ, i64_w, i32_w]
    rfl
  refine take_ (i := 8) (N := some 69) (v := ?_) (a' := ?_) #[true, true, true, true, true, true, true, true, true, true, false, false, false, false, false] rfl rfl (take_ofW HT_.out HW_.out (by kernel_rfl)) (fun _ _ _ h => h) (Or.inl ⟨by rfl, ?_⟩) hHeld ?_ ?_
  rotate_left
  · rintro w' ⟨s0, s1⟩
    go_simp
    with_reducible rfl
  rotate_left
  · simp only [Act.put, List.setIfInBounds_toArray, List.set_cons_zero, List.set_cons_succ, i64_w, i32_w]
    rfl
  refine one_ (i := 10) (N := some 71) #[true, true, true, true, true, true, true, true, true, true, true, false, false, false, false] rfl rfl (one_of HT_.out (by kernel_rfl)) (by decide) (fun K hK => ?_)
  refine value_ (w1 := ?_) (v := ?_) (by rfl) rfl ?_ ?_
  rotate_left 2
  · go_simp
    constructor
    · rfl
    · rfl
  refine hK.out _ _ ⟨(World.cell?_alloc_lt _ _ _ (World.block_lt_of_cell? _ _ (hHeld.1))).trans (hHeld.1), (World.cell?_alloc_lt _ _ _ (World.block_lt_of_cell? _ _ (hHeld.2))).trans (hHeld.2)⟩ (fun hHeld => ?_)
  clear hK K
  refine norm_ (a' := ?_) ?_ ?_
  rotate_left
  · show Act.put _ (some 71) _ = _
    simp only [Act.put, List.setIfInBounds_toArray, List.set_cons_zero, List.set_cons_succ, i64_w, i32_w]
    rfl
  refine one_ (i := 11) (N := some 72) #[true, true, true, true, true, true, true, true, true, true, true, true, false, false, false] rfl rfl (one_of HT_.out (by kernel_rfl)) (by decide) (fun K hK => ?_)
  refine Kd.R_append_step (Kd.int .i64) (w0 := Mw77) w.heap.size (by rfl) (.tmp 69) (.tmp 71) 39 3 (.int .i64 0) 8 rfl Try.underlying39 info3 rfl (by decide) (by omega) (.slice AR y.f1.length cR) y.f1 n [.int .i64 n] (fun q => oki q ∨ Mw77.heap.size ≤ q) (fun _ => False) rfl (by first | (go_simp; done) | (go_simp; rfl)) ?aP (fun _ hk => hk.elim) (fun _ hk => .inr hk) (Kd.R_mono HRW4.out (fun _ hk => .inl hk)) (Below.refl _ _) (below_size MH82.out) ?aL ?_
  (case aP => exact rfl)
  (case aL => have h1_ := HFW.out; have h2_ := HRL.out; omega)
  intro va w9 ho hb hg hat
  have HO9 := Aside0.mk ho
  have HG9 := Aside0.mk hg
  obtain ⟨A9, c9, e9⟩ := Kd.R_slice ho
  rw [List.length_append, List.length_singleton] at e9
  subst e9
  have hgn_ : some g ≠ (.slice AR y.f1.length cR : Value).ownBlock := fun e_ => ((HOKI.out g (HRW4.out.1 g e_.symm)).2 rfl)
  skip
  have hxf : w9.cell? ⟨g, i * 15 + 12, none⟩ = some (.slice AR y.f1.length cR) := (blk_cell (blk_grown HCL.out hg hgn_) _).trans ((blk_cell HCL.out _).symm.trans hcell4)
  have hff := blk_frozen (blk_grown HCL.out hg hgn_) (i * 15 + 12)
  refine hK.out _ _ ⟨(blk_cell (blk_grown MB81.out hg (fun e_ => by have h1_ := HRW4.out; obtain ⟨cl2_, h2_⟩ := Kd.R_typed h1_ _ e_.symm; have h3_ := MB81.out; rw [h2_] at h3_; simp at h3_)) 0).trans rfl, hxf⟩ (fun hHeld => ?_)
  clear hK K
  refine norm_ (a' := ?_) ?_ ?_
  rotate_left
  · show Act.put _ (some 72) _ = _
    simp only [Act.put, List.setIfInBounds_toArray, List.set_cons_zero, List.set_cons_succ, i64_w, i32_w]
    rfl
  refine pure_ (i := 12) (N := some 73) (v := ?_) (a' := ?_) #[true, true, true, true, true, true, true, true, true, true, true, true, true, false, false] rfl rfl (any_of HT_.out (by kernel_rfl)) (fun _ _ _ h => h) (Or.inl ⟨by rfl, ?_⟩) ?_ ?_
  rotate_left
  · intro w'
    go_simp
    with_reducible rfl
  rotate_left
  · simp only [Act.put, List.setIfInBounds_toArray, List.set_cons_zero, List.set_cons_succ, i64_w, i32_w]
    rfl
  refine pure_ (i := 13) (N := some 74) (v := ?_) (a' := ?_) #[true, true, true, true, true, true, true, true, true, true, true, true, true, true, false] rfl rfl (any_of HT_.out (by kernel_rfl)) (fun _ _ _ h => h) (Or.inl ⟨by rfl, ?_⟩) ?_ ?_
  rotate_left
  · intro w'
    go_simp
    with_reducible rfl
  rotate_left
  · simp only [Act.put, List.setIfInBounds_toArray, List.set_cons_zero, List.set_cons_succ, i64_w, i32_w]
    rfl
  refine last_ (i := 14) (N := none) #[true, true, true, true, true, true, true, true, true, true, true, true, true, true, true] rfl rfl (one_of HT_.out (by kernel_rfl)) (by decide) (fun K hK => ?_)
  refine skip_ (w1 := ?_) (by rfl) rfl ?_ ?_
  rotate_left
  · go_simp
    rfl
  refine hK.out _ _ ?_
  clear hK K
  refine done_ (done_of HT_.out (by kernel_rfl)) ?_
  have hty_ := hcell4
  clear hty_
  have MB83 := Aside0.mk (blk_far (p := ⟨g, i * 15 + 12, none⟩) (blk_grown MB80.out HG9.out (fun e_ => by have h1_ := HRW4.out; obtain ⟨cl2_, h2_⟩ := Kd.R_typed h1_ _ e_.symm; have h3_ := MB80.out; rw [h2_] at h3_; simp at h3_)) (show Mg8 ≠ g from fun e_ => by have h1_ := HCL.out; have h2_ := MB80.out; rw [e_] at h2_; rw [h1_] at h2_; simp at h2_) (.slice A9 (y.f1.length + 1) c9))
  have MB84 := Aside0.mk (blk_far (p := ⟨g, i * 15 + 12, none⟩) (blk_grown MB81.out HG9.out (fun e_ => by have h1_ := HRW4.out; obtain ⟨cl2_, h2_⟩ := Kd.R_typed h1_ _ e_.symm; have h3_ := MB81.out; rw [h2_] at h3_; simp at h3_)) (show Mg51 ≠ g from fun e_ => by have h1_ := HCL.out; have h2_ := MB81.out; rw [e_] at h2_; rw [h1_] at h2_; simp at h2_) (.slice A9 (y.f1.length + 1) c9))
  have MB85 := Aside0.mk (blk_far (p := ⟨g, i * 15 + 12, none⟩) (blk_grown MB79.out HG9.out (fun e_ => by have h1_ := HRW4.out; obtain ⟨cl2_, h2_⟩ := Kd.R_typed h1_ _ e_.symm; have h3_ := MB79.out; rw [h2_] at h3_; simp at h3_)) (show Mg1 ≠ g from fun e_ => by have h1_ := HCL.out; have h2_ := MB79.out; rw [e_] at h2_; rw [h1_] at h2_; simp at h2_) (.slice A9 (y.f1.length + 1) c9))
  have HSA6 := Aside0.mk (Kd.S_mono (ok' := fun k => n0 ≤ k) (HBACK.out HG9.out HO9.out) (fun k hk => hk.elim (fun q => q) (fun q => by have h1_ := HGN.out; have h2_ := blk_lt HCL.out; omega)))
  have MH86 : Aside0 (Below w.heap.size w (w9.setCell ⟨g, i * 15 + 12, none⟩ (.slice A9 (y.f1.length + 1) c9))) := ⟨below_set (MH82.out.grown HG9.out (below_size MH82.out) (fun k hk => Kd.R_base HRW4.out k hk)) HGE.out⟩
  clear MB79 MB80 MB81 MH82 HSA4 HBACK HCL HG9 HO9 HRW4 HOKI HRC hxf hff hgn_ hcell4 hHeld
  generalize (w9.setCell ⟨g, i * 15 + 12, none⟩ (.slice A9 (y.f1.length + 1) c9)) = Mw78 at MB83 MB84 MB85 HSA6 MH86 ⊢
  have Mx87 : Mw78.cell? ⟨Mg1, 0, none⟩ = some (.slice (some ad) B.all.length c) := (blk_cell MB85.out 0).trans rfl
  have Mz88 := blk_frozen MB85.out 0
  have Mx89 : Mw78.cell? ⟨Mg8, 0, none⟩ = some (.slice none 0 0) := (blk_cell MB83.out 0).trans rfl
  have Mz90 := blk_frozen MB83.out 0
  have Mx91 : Mw78.cell? ⟨Mg51, 0, none⟩ = some (.slice (some ⟨g, 0, none⟩) B.all.length c0) := (blk_cell MB84.out 0).trans rfl
  have Mz92 := blk_frozen MB84.out 0
  have f6 := pw_cell_below MH86.out HE6.out
  have f7 := pw_cell_below MH86.out HE7.out
  have f12 := pw_cell_below MH86.out HE12.out
  have f14 := pw_cell_below MH86.out HE14.out
  go_wp2_with fail
  have q := blk_full MB83.out [.slice (some ⟨g, 0, none⟩) B.all.length c0] rfl
  (try simp only [Exit.inBlock, Exit.then])
  refine bodyPost_ret (results_ct rfl _ _ Mg8 63 #[.slice (some ⟨g, 0, none⟩) B.all.length c0] (0, 0) _ rfl q.1 Try.underlying63 rfl (by kernel_rfl)) rfl ?_
  exact ⟨_, rfl, (by have h_ := Kd.V_mono (ok' := fun k => P k ∨ w.heap.size ≤ k) (Kd.V_grown (VA.1 (Kd.S_V (base' := w.heap.size) (Kd.S_bound HSA6.out))) q.2 (fun k hk e => by injection e with e; exact HOG.out (e ▸ hk.1))) (fun k hk => .inr hk.2.1); rw [← HY.out]; exact h_), MH86.out.grown q.2 (below_size MH86.out) (fun k hk => by cases hk; exact MG11.out)⟩
end Go.Proofs.Ythmhehfbepijgaa.Q
