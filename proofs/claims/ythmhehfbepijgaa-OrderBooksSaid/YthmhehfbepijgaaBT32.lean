import Derived.Test.YthmhehfbepijgaaBQ0
import Derived.Test.YthmhehfbepijgaaBR12
import Derived.Test.YthmhehfbepijgaaBQ5
import Derived.Test.YthmhehfbepijgaaBQ6
import Derived.Test.YthmhehfbepijgaaBQ7
import Derived.Test.YthmhehfbepijgaaBQ8
import Derived.Test.YthmhehfbepijgaaBQ9
import Derived.Test.YthmhehfbepijgaaBQ11
import Derived.Test.YthmhehfbepijgaaBQ12
import Derived.Test.YthmhehfbepijgaaBT26
import Derived.Test.YthmhehfbepijgaaBT27
import Derived.Test.YthmhehfbepijgaaBT29
import Derived.Test.YthmhehfbepijgaaBT31
namespace Go.Proofs.Ythmhehfbepijgaa.Q
open Go.RowKit Go.Proofs.YthmhehfbepijgaaW.PrintWords Go.Proofs.YthmhehfbepijgaaW.PrintLast Go.Proofs.YthmhehfbepijgaaW.PrintMore
attribute [local go_sem] max2_int min2_int max_two min_two max_three min_three max_four min_four
set_option linter.unusedVariables false
set_option linter.unusedSimpArgs false
set_option maxHeartbeats 16000000 in
set_option maxHeartbeats 16000000 in
set_option maxRecDepth 100000 in
theorem amendR_calls {B : Bk} {T : Nat} (hi : B.Inv T) (hT : T ≤ 900) {A : Option Addr} {c : Nat} (id n : Int) {P : Nat → Prop} (w : World) (hs : Kd.V k41 41 w w.heap.size P (.slice A B.all.length c) B.all) :
    Calls Try.prog 56 #[.agg #[.slice A B.all.length c], .int .i64 id, .int .i64 n] w fun e w' => ∃ v0, e = .returned (.tuple #[.agg #[v0], .int .i64 (B.Amend id n).2]) ∧ Kd.V k41 41 w' w.heap.size (fun k => P k ∨ w.heap.size ≤ k) v0 (B.Amend id n).1.all ∧ Below w.heap.size w w' := by
  have hu63 := Try.underlying63
  have hu41 := Try.underlying41
  have hu23 := Try.underlying23
  have HS := Aside0.mk hs
  have HI := Aside0.mk hi
  have HTT := Aside0.mk hT
  have HC : Aside0 (Kd.C k41 w A B.all.length B.all) := ⟨(Kd.V_reads' hs).2.2⟩
  have HCC : Aside0 (B.all.length ≤ c) := ⟨(Kd.V_reads' hs).2.1⟩
  have hal := hi.allLen
  have HB := Aside0.mk (Below.refl w.heap.size w)
  rcases amend_ways B id n with ⟨c0, hop⟩ | ⟨i, x, hfe, hx, hw⟩
  · rw [hop]
    dsimp only
    have c0b : decide (B.find id < 0) = true := decide_eq_true c0
    clear c0 hop hs hi hT
    go_enter Try.func56, Try.ntmps56
    go_wp2_with (first | ((with_reducible refine gate_dst (N := 3) rfl ?_); refine box_event ?hg (N := 3) ?hd (cs := #[.slice A B.all.length c]) (t := 63) ?hr ?_; (case hd => rfl); (case hg => rfl); (case hr => first | (go_simp; done) | (go_simp; rfl)); intro Mg1 hg_ Mw2 hbox_ hb_; have MB3 := Aside0.mk hbox_; have MG4 : Aside0 (w.heap.size ≤ Mg1) := ⟨by rw [hg_]; exact below_size HB.out⟩; have MH5 := Aside0.mk (below_step HB.out hb_); clear hbox_ hb_ hg_; have Mx6 : Mw2.cell? ⟨Mg1, 0, none⟩ = some (.slice A B.all.length c) := (blk_cell MB3.out 0).trans rfl; have Mz7 := blk_frozen MB3.out 0) | ((with_reducible refine gate_dst (N := 6) rfl ?_); refine box_event ?hg (N := 6) ?hd (cs := #[.slice none 0 0]) (t := 63) ?hr ?_; (case hd => rfl); (case hg => rfl); (case hr => first | (go_simp; done) | (go_simp; rfl)); intro Mg8 hg_ Mw9 hbox_ hb_; have MB10 := Aside0.mk hbox_; have MG11 : Aside0 (w.heap.size ≤ Mg8) := ⟨by rw [hg_]; exact below_size MH5.out⟩; have MN12 : Aside0 (Mg1 ≠ Mg8) := ⟨by rw [hg_]; exact Nat.ne_of_lt (blk_lt MB3.out)⟩; have MB13 := Aside0.mk (blk_below MB3.out hb_); have MH14 := Aside0.mk (below_step MH5.out hb_); clear hbox_ hb_ hg_; clear Mx6 Mz7; have Mx15 : Mw9.cell? ⟨Mg1, 0, none⟩ = some (.slice A B.all.length c) := (blk_cell MB13.out 0).trans rfl; have Mz16 := blk_frozen MB13.out 0; have Mx17 : Mw9.cell? ⟨Mg8, 0, none⟩ = some (.slice none 0 0) := (blk_cell MB10.out 0).trans rfl; have Mz18 := blk_frozen MB10.out 0) | (go_at_call 64; refine (placeR_calls HI.out id _ (Kd.C_below HC.out MH14.out) HCC.out).mono ?_; rintro e Mw19 ⟨rfl, hb_⟩; have MB20 := Aside0.mk (blk_below MB13.out hb_); have MB21 := Aside0.mk (blk_below MB10.out hb_); have MH22 := Aside0.mk (below_step MH14.out hb_); clear hb_; clear Mx15 Mz16 Mx17 Mz18; have Mx23 : Mw19.cell? ⟨Mg1, 0, none⟩ = some (.slice A B.all.length c) := (blk_cell MB20.out 0).trans rfl; have Mz24 := blk_frozen MB20.out 0; have Mx25 : Mw19.cell? ⟨Mg8, 0, none⟩ = some (.slice none 0 0) := (blk_cell MB21.out 0).trans rfl; have Mz26 := blk_frozen MB21.out 0))
    have q := blk_full MB21.out [.slice A B.all.length c] rfl
    (try simp only [Exit.inBlock, Exit.then])
    refine bodyPost_ret (results_ct rfl _ _ Mg8 63 #[.slice A B.all.length c] (0, 0) _ rfl q.1 Try.underlying63 rfl (by kernel_rfl)) rfl ?_
    exact ⟨_, rfl, Kd.V_mono (Kd.V_grown (Kd.V_below (Kd.V_bound HS.out) MH22.out) q.2 (fun k hk e => by injection e with e; have h1_ := hk.2; have h2_ := MG11.out; omega)) (fun k hk => .inl hk.1), MH22.out.grown q.2 (below_size MH22.out) (fun k hk => by cases hk; exact MG11.out)⟩
  have HX := Aside0.mk hx
  have HFE := Aside0.mk hfe
  have hlt := (List.getElem?_eq_some_iff.1 hx).1
  have hil : i < B.all.length := by rw [all_len]; exact hlt
  obtain ⟨y, HY⟩ : ∃ y, Aside0 (y = B.stat x) := ⟨_, ⟨rfl⟩⟩
  have hx0 : x.f0 = y.f0 := by rw [HY.out]; rfl
  have hx1 : x.f1 = y.f1 := by rw [HY.out]; rfl
  have hx2 : x.f2 = y.f3 := by rw [HY.out]; rfl
  have HRD : Aside0 (rd_T41 B.all (i : Int) = y) := ⟨by rw [all_atR hx, HY.out]⟩
  obtain ⟨ad, A12, c12, A13, c13, ea, e0, e1, e2, e3, e4, e5, e6, e7, e8, e9, e10, e11, e12, e13, e14, l1, C1, l2, C2⟩ := at_T41 HC.out (i : Int) (by omega) (by omega)
  rw [HRD.out] at e0 e1 e2 e3 e4 e5 e6 e7 e8 e9 e10 e11 e12 e13 e14 l1 C1 l2 C2
  rw [Int.toNat_natCast] at e0 e1 e2 e3 e4 e5 e6 e7 e8 e9 e10 e11 e12 e13 e14
  subst ea
  have HE6 := Aside0.mk e6
  have HE7 := Aside0.mk e7
  have HE12 := Aside0.mk e12
  have HE14 := Aside0.mk e14
  have HR1 := Aside0.mk (And.intro l1 C1)
  have HR2 := Aside0.mk (And.intro l2 C2)
  have hfew := (hi.allFew hT).2 y (by rw [← HRD.out]; exact rd41_mem hil)
  have HFW := Aside0.mk hfew
  have hilz : (i : Int) < (B.all.length : Int) := by omega
  have pi0 : (0 ≤ (i : Int)) = True := eq_true (by omega)
  have pi1 : ((i : Int) < (B.all.length : Int)) = True := eq_true hilz
  have pi2 : (i < B.all.length) = True := eq_true hil
  have c0b : decide ((i : Int) < 0) = false := decide_eq_false (by omega)
  have c0g : decide (0 ≤ (i : Int)) = true := decide_eq_true (by omega)
  clear hs hi hT hx hfe hlt l1 C1 l2 C2 hfew e0 e1 e2 e3 e4 e5 e6 e7 e8 e9 e10 e11 e12 e13 e14
  rw [hx2] at hw
  rcases hw with ⟨c1, hop⟩ | ⟨c1, hw⟩
  · rw [hop]
    dsimp only
    rw [c1] at HE14
    clear c1 hop
    go_enter Try.func56, Try.ntmps56
    go_wp2_with (first | ((with_reducible refine gate_dst (N := 3) rfl ?_); refine box_event ?hg (N := 3) ?hd (cs := #[.slice (some ad) B.all.length c]) (t := 63) ?hr ?_; (case hd => rfl); (case hg => rfl); (case hr => first | (go_simp; done) | (go_simp; rfl)); intro Mg1 hg_ Mw2 hbox_ hb_; have MB3 := Aside0.mk hbox_; have MG4 : Aside0 (w.heap.size ≤ Mg1) := ⟨by rw [hg_]; exact below_size HB.out⟩; have MH5 := Aside0.mk (below_step HB.out hb_); clear hbox_ hb_ hg_; have Mx6 : Mw2.cell? ⟨Mg1, 0, none⟩ = some (.slice (some ad) B.all.length c) := (blk_cell MB3.out 0).trans rfl; have Mz7 := blk_frozen MB3.out 0) | ((with_reducible refine gate_dst (N := 6) rfl ?_); refine box_event ?hg (N := 6) ?hd (cs := #[.slice none 0 0]) (t := 63) ?hr ?_; (case hd => rfl); (case hg => rfl); (case hr => first | (go_simp; done) | (go_simp; rfl)); intro Mg8 hg_ Mw9 hbox_ hb_; have MB10 := Aside0.mk hbox_; have MG11 : Aside0 (w.heap.size ≤ Mg8) := ⟨by rw [hg_]; exact below_size MH5.out⟩; have MN12 : Aside0 (Mg1 ≠ Mg8) := ⟨by rw [hg_]; exact Nat.ne_of_lt (blk_lt MB3.out)⟩; have MB13 := Aside0.mk (blk_below MB3.out hb_); have MH14 := Aside0.mk (below_step MH5.out hb_); clear hbox_ hb_ hg_; clear Mx6 Mz7; have Mx15 : Mw9.cell? ⟨Mg1, 0, none⟩ = some (.slice (some ad) B.all.length c) := (blk_cell MB13.out 0).trans rfl; have Mz16 := blk_frozen MB13.out 0; have Mx17 : Mw9.cell? ⟨Mg8, 0, none⟩ = some (.slice none 0 0) := (blk_cell MB10.out 0).trans rfl; have Mz18 := blk_frozen MB10.out 0; have f6 := pw_cell_below MH14.out HE6.out; have f7 := pw_cell_below MH14.out HE7.out; have f12 := pw_cell_below MH14.out HE12.out; have f14 := pw_cell_below MH14.out HE14.out) | (go_at_call 64; refine (placeR_calls HI.out id _ (Kd.C_below HC.out MH14.out) HCC.out).mono ?_; rw [HFE.out]; rintro e Mw19 ⟨rfl, hb_⟩; have MB20 := Aside0.mk (blk_below MB13.out hb_); have MB21 := Aside0.mk (blk_below MB10.out hb_); have MH22 := Aside0.mk (below_step MH14.out hb_); clear hb_; clear Mx15 Mz16 Mx17 Mz18; have Mx23 : Mw19.cell? ⟨Mg1, 0, none⟩ = some (.slice (some ad) B.all.length c) := (blk_cell MB20.out 0).trans rfl; have Mz24 := blk_frozen MB20.out 0; have Mx25 : Mw19.cell? ⟨Mg8, 0, none⟩ = some (.slice none 0 0) := (blk_cell MB21.out 0).trans rfl; have Mz26 := blk_frozen MB21.out 0; clear f6 f7 f12 f14; have f6 := pw_cell_below MH22.out HE6.out; have f7 := pw_cell_below MH22.out HE7.out; have f12 := pw_cell_below MH22.out HE12.out; have f14 := pw_cell_below MH22.out HE14.out))
    have q := blk_full MB21.out [.slice (some ad) B.all.length c] rfl
    (try simp only [Exit.inBlock, Exit.then])
    refine bodyPost_ret (results_ct rfl _ _ Mg8 63 #[.slice (some ad) B.all.length c] (0, 0) _ rfl q.1 Try.underlying63 rfl (by kernel_rfl)) rfl ?_
    exact ⟨_, rfl, Kd.V_mono (Kd.V_grown (Kd.V_below (Kd.V_bound HS.out) MH22.out) q.2 (fun k hk e => by injection e with e; have h1_ := hk.2; have h2_ := MG11.out; omega)) (fun k hk => .inl hk.1), MH22.out.grown q.2 (below_size MH22.out) (fun k hk => by cases hk; exact MG11.out)⟩
  rw [c1] at HE14
  clear c1
  rcases hw with ⟨c2, hop⟩ | ⟨c2, hw⟩
  · rw [hop]
    dsimp only
    have c2b : decide (n < 1) = true := decide_eq_true c2
    clear c2 hop
    go_enter Try.func56, Try.ntmps56
    go_wp2_with (first | ((with_reducible refine gate_dst (N := 3) rfl ?_); refine box_event ?hg (N := 3) ?hd (cs := #[.slice (some ad) B.all.length c]) (t := 63) ?hr ?_; (case hd => rfl); (case hg => rfl); (case hr => first | (go_simp; done) | (go_simp; rfl)); intro Mg1 hg_ Mw2 hbox_ hb_; have MB3 := Aside0.mk hbox_; have MG4 : Aside0 (w.heap.size ≤ Mg1) := ⟨by rw [hg_]; exact below_size HB.out⟩; have MH5 := Aside0.mk (below_step HB.out hb_); clear hbox_ hb_ hg_; have Mx6 : Mw2.cell? ⟨Mg1, 0, none⟩ = some (.slice (some ad) B.all.length c) := (blk_cell MB3.out 0).trans rfl; have Mz7 := blk_frozen MB3.out 0) | ((with_reducible refine gate_dst (N := 6) rfl ?_); refine box_event ?hg (N := 6) ?hd (cs := #[.slice none 0 0]) (t := 63) ?hr ?_; (case hd => rfl); (case hg => rfl); (case hr => first | (go_simp; done) | (go_simp; rfl)); intro Mg8 hg_ Mw9 hbox_ hb_; have MB10 := Aside0.mk hbox_; have MG11 : Aside0 (w.heap.size ≤ Mg8) := ⟨by rw [hg_]; exact below_size MH5.out⟩; have MN12 : Aside0 (Mg1 ≠ Mg8) := ⟨by rw [hg_]; exact Nat.ne_of_lt (blk_lt MB3.out)⟩; have MB13 := Aside0.mk (blk_below MB3.out hb_); have MH14 := Aside0.mk (below_step MH5.out hb_); clear hbox_ hb_ hg_; clear Mx6 Mz7; have Mx15 : Mw9.cell? ⟨Mg1, 0, none⟩ = some (.slice (some ad) B.all.length c) := (blk_cell MB13.out 0).trans rfl; have Mz16 := blk_frozen MB13.out 0; have Mx17 : Mw9.cell? ⟨Mg8, 0, none⟩ = some (.slice none 0 0) := (blk_cell MB10.out 0).trans rfl; have Mz18 := blk_frozen MB10.out 0; have f6 := pw_cell_below MH14.out HE6.out; have f7 := pw_cell_below MH14.out HE7.out; have f12 := pw_cell_below MH14.out HE12.out; have f14 := pw_cell_below MH14.out HE14.out) | (go_at_call 64; refine (placeR_calls HI.out id _ (Kd.C_below HC.out MH14.out) HCC.out).mono ?_; rw [HFE.out]; rintro e Mw19 ⟨rfl, hb_⟩; have MB20 := Aside0.mk (blk_below MB13.out hb_); have MB21 := Aside0.mk (blk_below MB10.out hb_); have MH22 := Aside0.mk (below_step MH14.out hb_); clear hb_; clear Mx15 Mz16 Mx17 Mz18; have Mx23 : Mw19.cell? ⟨Mg1, 0, none⟩ = some (.slice (some ad) B.all.length c) := (blk_cell MB20.out 0).trans rfl; have Mz24 := blk_frozen MB20.out 0; have Mx25 : Mw19.cell? ⟨Mg8, 0, none⟩ = some (.slice none 0 0) := (blk_cell MB21.out 0).trans rfl; have Mz26 := blk_frozen MB21.out 0; clear f6 f7 f12 f14; have f6 := pw_cell_below MH22.out HE6.out; have f7 := pw_cell_below MH22.out HE7.out; have f12 := pw_cell_below MH22.out HE12.out; have f14 := pw_cell_below MH22.out HE14.out))
    have q := blk_full MB21.out [.slice (some ad) B.all.length c] rfl
    (try simp only [Exit.inBlock, Exit.then])
    refine bodyPost_ret (results_ct rfl _ _ Mg8 63 #[.slice (some ad) B.all.length c] (0, 0) _ rfl q.1 Try.underlying63 rfl (by kernel_rfl)) rfl ?_
    exact ⟨_, rfl, Kd.V_mono (Kd.V_grown (Kd.V_below (Kd.V_bound HS.out) MH22.out) q.2 (fun k hk e => by injection e with e; have h1_ := hk.2; have h2_ := MG11.out; omega)) (fun k hk => .inl hk.1), MH22.out.grown q.2 (below_size MH22.out) (fun k hk => by cases hk; exact MG11.out)⟩
  have c2b : decide (n < 1) = false := decide_eq_false c2
  clear c2
  rcases hw with ⟨c3, hop⟩ | ⟨c3, hw⟩
  · rw [hop]
    dsimp only
    have c3b : decide (1000 < n) = true := decide_eq_true c3
    clear c3 hop
    go_enter Try.func56, Try.ntmps56
    go_wp2_with (first | ((with_reducible refine gate_dst (N := 3) rfl ?_); refine box_event ?hg (N := 3) ?hd (cs := #[.slice (some ad) B.all.length c]) (t := 63) ?hr ?_; (case hd => rfl); (case hg => rfl); (case hr => first | (go_simp; done) | (go_simp; rfl)); intro Mg1 hg_ Mw2 hbox_ hb_; have MB3 := Aside0.mk hbox_; have MG4 : Aside0 (w.heap.size ≤ Mg1) := ⟨by rw [hg_]; exact below_size HB.out⟩; have MH5 := Aside0.mk (below_step HB.out hb_); clear hbox_ hb_ hg_; have Mx6 : Mw2.cell? ⟨Mg1, 0, none⟩ = some (.slice (some ad) B.all.length c) := (blk_cell MB3.out 0).trans rfl; have Mz7 := blk_frozen MB3.out 0) | ((with_reducible refine gate_dst (N := 6) rfl ?_); refine box_event ?hg (N := 6) ?hd (cs := #[.slice none 0 0]) (t := 63) ?hr ?_; (case hd => rfl); (case hg => rfl); (case hr => first | (go_simp; done) | (go_simp; rfl)); intro Mg8 hg_ Mw9 hbox_ hb_; have MB10 := Aside0.mk hbox_; have MG11 : Aside0 (w.heap.size ≤ Mg8) := ⟨by rw [hg_]; exact below_size MH5.out⟩; have MN12 : Aside0 (Mg1 ≠ Mg8) := ⟨by rw [hg_]; exact Nat.ne_of_lt (blk_lt MB3.out)⟩; have MB13 := Aside0.mk (blk_below MB3.out hb_); have MH14 := Aside0.mk (below_step MH5.out hb_); clear hbox_ hb_ hg_; clear Mx6 Mz7; have Mx15 : Mw9.cell? ⟨Mg1, 0, none⟩ = some (.slice (some ad) B.all.length c) := (blk_cell MB13.out 0).trans rfl; have Mz16 := blk_frozen MB13.out 0; have Mx17 : Mw9.cell? ⟨Mg8, 0, none⟩ = some (.slice none 0 0) := (blk_cell MB10.out 0).trans rfl; have Mz18 := blk_frozen MB10.out 0; have f6 := pw_cell_below MH14.out HE6.out; have f7 := pw_cell_below MH14.out HE7.out; have f12 := pw_cell_below MH14.out HE12.out; have f14 := pw_cell_below MH14.out HE14.out) | (go_at_call 64; refine (placeR_calls HI.out id _ (Kd.C_below HC.out MH14.out) HCC.out).mono ?_; rw [HFE.out]; rintro e Mw19 ⟨rfl, hb_⟩; have MB20 := Aside0.mk (blk_below MB13.out hb_); have MB21 := Aside0.mk (blk_below MB10.out hb_); have MH22 := Aside0.mk (below_step MH14.out hb_); clear hb_; clear Mx15 Mz16 Mx17 Mz18; have Mx23 : Mw19.cell? ⟨Mg1, 0, none⟩ = some (.slice (some ad) B.all.length c) := (blk_cell MB20.out 0).trans rfl; have Mz24 := blk_frozen MB20.out 0; have Mx25 : Mw19.cell? ⟨Mg8, 0, none⟩ = some (.slice none 0 0) := (blk_cell MB21.out 0).trans rfl; have Mz26 := blk_frozen MB21.out 0; clear f6 f7 f12 f14; have f6 := pw_cell_below MH22.out HE6.out; have f7 := pw_cell_below MH22.out HE7.out; have f12 := pw_cell_below MH22.out HE12.out; have f14 := pw_cell_below MH22.out HE14.out))
    have q := blk_full MB21.out [.slice (some ad) B.all.length c] rfl
    (try simp only [Exit.inBlock, Exit.then])
    refine bodyPost_ret (results_ct rfl _ _ Mg8 63 #[.slice (some ad) B.all.length c] (0, 0) _ rfl q.1 Try.underlying63 rfl (by kernel_rfl)) rfl ?_
    exact ⟨_, rfl, Kd.V_mono (Kd.V_grown (Kd.V_below (Kd.V_bound HS.out) MH22.out) q.2 (fun k hk e => by injection e with e; have h1_ := hk.2; have h2_ := MG11.out; omega)) (fun k hk => .inl hk.1), MH22.out.grown q.2 (below_size MH22.out) (fun k hk => by cases hk; exact MG11.out)⟩
  have c3b : decide (1000 < n) = false := decide_eq_false c3
  clear c3
  rw [hx0, hx1] at hw
  rcases hw with ⟨c4, hop⟩ | ⟨c4, hop1, hop2⟩
  · rw [hop]
    dsimp only
    have c4b : decide (wrap64 (n + y.f0.f7) < (y.f1.length : Int)) = true := decide_eq_true c4
    have c4w : decide (IntKind.i64.wrap (n + y.f0.f7) < (y.f1.length : Int)) = true := by rw [i64_w]; exact c4b
    clear c4 hop
    go_enter Try.func56, Try.ntmps56
    go_wp2_with (first | ((with_reducible refine gate_dst (N := 3) rfl ?_); refine box_event ?hg (N := 3) ?hd (cs := #[.slice (some ad) B.all.length c]) (t := 63) ?hr ?_; (case hd => rfl); (case hg => rfl); (case hr => first | (go_simp; done) | (go_simp; rfl)); intro Mg1 hg_ Mw2 hbox_ hb_; have MB3 := Aside0.mk hbox_; have MG4 : Aside0 (w.heap.size ≤ Mg1) := ⟨by rw [hg_]; exact below_size HB.out⟩; have MH5 := Aside0.mk (below_step HB.out hb_); clear hbox_ hb_ hg_; have Mx6 : Mw2.cell? ⟨Mg1, 0, none⟩ = some (.slice (some ad) B.all.length c) := (blk_cell MB3.out 0).trans rfl; have Mz7 := blk_frozen MB3.out 0) | ((with_reducible refine gate_dst (N := 6) rfl ?_); refine box_event ?hg (N := 6) ?hd (cs := #[.slice none 0 0]) (t := 63) ?hr ?_; (case hd => rfl); (case hg => rfl); (case hr => first | (go_simp; done) | (go_simp; rfl)); intro Mg8 hg_ Mw9 hbox_ hb_; have MB10 := Aside0.mk hbox_; have MG11 : Aside0 (w.heap.size ≤ Mg8) := ⟨by rw [hg_]; exact below_size MH5.out⟩; have MN12 : Aside0 (Mg1 ≠ Mg8) := ⟨by rw [hg_]; exact Nat.ne_of_lt (blk_lt MB3.out)⟩; have MB13 := Aside0.mk (blk_below MB3.out hb_); have MH14 := Aside0.mk (below_step MH5.out hb_); clear hbox_ hb_ hg_; clear Mx6 Mz7; have Mx15 : Mw9.cell? ⟨Mg1, 0, none⟩ = some (.slice (some ad) B.all.length c) := (blk_cell MB13.out 0).trans rfl; have Mz16 := blk_frozen MB13.out 0; have Mx17 : Mw9.cell? ⟨Mg8, 0, none⟩ = some (.slice none 0 0) := (blk_cell MB10.out 0).trans rfl; have Mz18 := blk_frozen MB10.out 0; have f6 := pw_cell_below MH14.out HE6.out; have f7 := pw_cell_below MH14.out HE7.out; have f12 := pw_cell_below MH14.out HE12.out; have f14 := pw_cell_below MH14.out HE14.out) | (go_at_call 64; refine (placeR_calls HI.out id _ (Kd.C_below HC.out MH14.out) HCC.out).mono ?_; rw [HFE.out]; rintro e Mw19 ⟨rfl, hb_⟩; have MB20 := Aside0.mk (blk_below MB13.out hb_); have MB21 := Aside0.mk (blk_below MB10.out hb_); have MH22 := Aside0.mk (below_step MH14.out hb_); clear hb_; clear Mx15 Mz16 Mx17 Mz18; have Mx23 : Mw19.cell? ⟨Mg1, 0, none⟩ = some (.slice (some ad) B.all.length c) := (blk_cell MB20.out 0).trans rfl; have Mz24 := blk_frozen MB20.out 0; have Mx25 : Mw19.cell? ⟨Mg8, 0, none⟩ = some (.slice none 0 0) := (blk_cell MB21.out 0).trans rfl; have Mz26 := blk_frozen MB21.out 0; clear f6 f7 f12 f14; have f6 := pw_cell_below MH22.out HE6.out; have f7 := pw_cell_below MH22.out HE7.out; have f12 := pw_cell_below MH22.out HE12.out; have f14 := pw_cell_below MH22.out HE14.out))
    go_quiet (fail)
    have hbq_ : Below Mw19.heap.size Mw19 (Mw19.drewN nq) := pw_below_drewN (Below.refl _ _) nq
    have MB28 := Aside0.mk (blk_below MB20.out hbq_)
    have MB29 := Aside0.mk (blk_below MB21.out hbq_)
    have MH30 := Aside0.mk (below_step MH22.out hbq_)
    clear hbq_
    clear Mx23 Mz24 Mx25 Mz26 f6 f7 f12 f14
    generalize Mw19.drewN nq = Mw27 at MB28 MB29 MH30 ⊢
    have Mx31 : Mw27.cell? ⟨Mg1, 0, none⟩ = some (.slice (some ad) B.all.length c) := (blk_cell MB28.out 0).trans rfl
    have Mz32 := blk_frozen MB28.out 0
    have Mx33 : Mw27.cell? ⟨Mg8, 0, none⟩ = some (.slice none 0 0) := (blk_cell MB29.out 0).trans rfl
    have Mz34 := blk_frozen MB29.out 0
    have f6 := pw_cell_below MH30.out HE6.out
    have f7 := pw_cell_below MH30.out HE7.out
    have f12 := pw_cell_below MH30.out HE12.out
    have f14 := pw_cell_below MH30.out HE14.out
    go_wp2_with fail
    have q := blk_full MB29.out [.slice (some ad) B.all.length c] rfl
    (try simp only [Exit.inBlock, Exit.then])
    refine bodyPost_ret (results_ct rfl _ _ Mg8 63 #[.slice (some ad) B.all.length c] (0, 0) _ rfl q.1 Try.underlying63 rfl (by kernel_rfl)) rfl ?_
    exact ⟨_, rfl, Kd.V_mono (Kd.V_grown (Kd.V_below (Kd.V_bound HS.out) MH30.out) q.2 (fun k hk e => by injection e with e; have h1_ := hk.2; have h2_ := MG11.out; omega)) (fun k hk => .inl hk.1), MH30.out.grown q.2 (below_size MH30.out) (fun k hk => by cases hk; exact MG11.out)⟩
  have c4b : decide (wrap64 (n + y.f0.f7) < (y.f1.length : Int)) = false := decide_eq_false c4
  have c4w : decide (IntKind.i64.wrap (n + y.f0.f7) < (y.f1.length : Int)) = false := by rw [i64_w]; exact c4b
  rw [hop1, hop2]
  clear c4 hop1 hop2
  go_enter Try.func56, Try.ntmps56
  go_wp2_with (first | ((with_reducible refine gate_dst (N := 3) rfl ?_); refine box_event ?hg (N := 3) ?hd (cs := #[.slice (some ad) B.all.length c]) (t := 63) ?hr ?_; (case hd => rfl); (case hg => rfl); (case hr => first | (go_simp; done) | (go_simp; rfl)); intro Mg1 hg_ Mw2 hbox_ hb_; have MB3 := Aside0.mk hbox_; have MG4 : Aside0 (w.heap.size ≤ Mg1) := ⟨by rw [hg_]; exact below_size HB.out⟩; have MH5 := Aside0.mk (below_step HB.out hb_); clear hbox_ hb_ hg_; have Mx6 : Mw2.cell? ⟨Mg1, 0, none⟩ = some (.slice (some ad) B.all.length c) := (blk_cell MB3.out 0).trans rfl; have Mz7 := blk_frozen MB3.out 0) | ((with_reducible refine gate_dst (N := 6) rfl ?_); refine box_event ?hg (N := 6) ?hd (cs := #[.slice none 0 0]) (t := 63) ?hr ?_; (case hd => rfl); (case hg => rfl); (case hr => first | (go_simp; done) | (go_simp; rfl)); intro Mg8 hg_ Mw9 hbox_ hb_; have MB10 := Aside0.mk hbox_; have MG11 : Aside0 (w.heap.size ≤ Mg8) := ⟨by rw [hg_]; exact below_size MH5.out⟩; have MN12 : Aside0 (Mg1 ≠ Mg8) := ⟨by rw [hg_]; exact Nat.ne_of_lt (blk_lt MB3.out)⟩; have MB13 := Aside0.mk (blk_below MB3.out hb_); have MH14 := Aside0.mk (below_step MH5.out hb_); clear hbox_ hb_ hg_; clear Mx6 Mz7; have Mx15 : Mw9.cell? ⟨Mg1, 0, none⟩ = some (.slice (some ad) B.all.length c) := (blk_cell MB13.out 0).trans rfl; have Mz16 := blk_frozen MB13.out 0; have Mx17 : Mw9.cell? ⟨Mg8, 0, none⟩ = some (.slice none 0 0) := (blk_cell MB10.out 0).trans rfl; have Mz18 := blk_frozen MB10.out 0; have f6 := pw_cell_below MH14.out HE6.out; have f7 := pw_cell_below MH14.out HE7.out; have f12 := pw_cell_below MH14.out HE12.out; have f14 := pw_cell_below MH14.out HE14.out) | (go_at_call 64; refine (placeR_calls HI.out id _ (Kd.C_below HC.out MH14.out) HCC.out).mono ?_; rw [HFE.out]; rintro e Mw19 ⟨rfl, hb_⟩; have MB20 := Aside0.mk (blk_below MB13.out hb_); have MB21 := Aside0.mk (blk_below MB10.out hb_); have MH22 := Aside0.mk (below_step MH14.out hb_); clear hb_; clear Mx15 Mz16 Mx17 Mz18; have Mx23 : Mw19.cell? ⟨Mg1, 0, none⟩ = some (.slice (some ad) B.all.length c) := (blk_cell MB20.out 0).trans rfl; have Mz24 := blk_frozen MB20.out 0; have Mx25 : Mw19.cell? ⟨Mg8, 0, none⟩ = some (.slice none 0 0) := (blk_cell MB21.out 0).trans rfl; have Mz26 := blk_frozen MB21.out 0; clear f6 f7 f12 f14; have f6 := pw_cell_below MH22.out HE6.out; have f7 := pw_cell_below MH22.out HE7.out; have f12 := pw_cell_below MH22.out HE12.out; have f14 := pw_cell_below MH22.out HE14.out))
  go_quiet (fail)
  have hbq_ : Below Mw19.heap.size Mw19 (Mw19.drewN nq) := pw_below_drewN (Below.refl _ _) nq
  have MB28 := Aside0.mk (blk_below MB20.out hbq_)
  have MB29 := Aside0.mk (blk_below MB21.out hbq_)
  have MH30 := Aside0.mk (below_step MH22.out hbq_)
  clear hbq_
  clear Mx23 Mz24 Mx25 Mz26 f6 f7 f12 f14
  generalize Mw19.drewN nq = Mw27 at MB28 MB29 MH30 ⊢
  have Mx31 : Mw27.cell? ⟨Mg1, 0, none⟩ = some (.slice (some ad) B.all.length c) := (blk_cell MB28.out 0).trans rfl
  have Mz32 := blk_frozen MB28.out 0
  have Mx33 : Mw27.cell? ⟨Mg8, 0, none⟩ = some (.slice none 0 0) := (blk_cell MB29.out 0).trans rfl
  have Mz34 := blk_frozen MB29.out 0
  have f6 := pw_cell_below MH30.out HE6.out
  have f7 := pw_cell_below MH30.out HE7.out
  have f12 := pw_cell_below MH30.out HE12.out
  have f14 := pw_cell_below MH30.out HE14.out
  go_wp2_with (first | (go_at_call 52; refine (wholeR_calls HI.out HTT.out _ (Kd.C_below HC.out MH30.out) HCC.out).mono ?_; have hol_ := blk_lt MB29.out; have hbs_ := below_size MH30.out; rintro e Mw35 ⟨A0_, c0, rfl, hs_, hb_⟩; have MB36 := Aside0.mk (blk_below MB28.out hb_); have MB37 := Aside0.mk (blk_below MB29.out hb_); have MH38 := Aside0.mk (below_step MH30.out hb_); obtain ⟨g, A2_, c2_, A3_, c3_, eg_, hg_⟩ := SA_elem hs_ i (by rw [all_len]; exact (List.getElem?_eq_some_iff.1 HX.out).1); subst eg_; obtain ⟨n0, hn0_⟩ : ∃ n0, n0 = Mw27.heap.size := ⟨_, rfl⟩; rw [← hn0_] at hs_ hol_ hbs_; have HOG : Aside0 (¬ (n0 ≤ Mg8)) := ⟨by omega⟩; have HSA0 := Aside0.mk (Kd.S_lower hs_ hbs_); have HGN : Aside0 (n0 ≤ g) := ⟨((Kd.S_R hs_).1 g rfl).1⟩; have HGE : Aside0 (w.heap.size ≤ g) := ⟨Nat.le_trans hbs_ HGN.out⟩; clear hn0_; clear hs_ hg_ hol_ hbs_; clear hb_; clear Mx31 Mz32 Mx33 Mz34; have Mx39 : Mw35.cell? ⟨Mg1, 0, none⟩ = some (.slice (some ad) B.all.length c) := (blk_cell MB36.out 0).trans rfl; have Mz40 := blk_frozen MB36.out 0; have Mx41 : Mw35.cell? ⟨Mg8, 0, none⟩ = some (.slice none 0 0) := (blk_cell MB37.out 0).trans rfl; have Mz42 := blk_frozen MB37.out 0; clear f6 f7 f12 f14; have f6 := pw_cell_below MH38.out HE6.out; have f7 := pw_cell_below MH38.out HE7.out; have f12 := pw_cell_below MH38.out HE12.out; have f14 := pw_cell_below MH38.out HE14.out) | ((with_reducible refine gate_dst (N := 9) rfl ?_); refine box_event ?hg (N := 9) ?hd (cs := #[.slice none 0 0]) (t := 63) ?hr ?_; (case hd => rfl); (case hg => rfl); (case hr => first | (go_simp; done) | (go_simp; rfl)); intro Mg43 hg_ Mw44 hbox_ hb_; have MB45 := Aside0.mk hbox_; have MG46 : Aside0 (w.heap.size ≤ Mg43) := ⟨by rw [hg_]; exact below_size MH38.out⟩; have MN47 : Aside0 (Mg1 ≠ Mg43) := ⟨by rw [hg_]; exact Nat.ne_of_lt (blk_lt MB36.out)⟩; have MN48 : Aside0 (Mg8 ≠ Mg43) := ⟨by rw [hg_]; exact Nat.ne_of_lt (blk_lt MB37.out)⟩; have MB49 := Aside0.mk (blk_below MB36.out hb_); have MB50 := Aside0.mk (blk_below MB37.out hb_); have MH51 := Aside0.mk (below_step MH38.out hb_); have HSA1 := Aside0.mk (Kd.S_below HSA0.out hb_); have HUG : Aside0 (Mw35.heap.size ≤ Mg43) := ⟨by rw [hg_]; exact Nat.le_refl _⟩; clear hbox_ hb_ hg_; clear Mx39 Mz40 Mx41 Mz42; have Mx52 : Mw44.cell? ⟨Mg1, 0, none⟩ = some (.slice (some ad) B.all.length c) := (blk_cell MB49.out 0).trans rfl; have Mz53 := blk_frozen MB49.out 0; have Mx54 : Mw44.cell? ⟨Mg8, 0, none⟩ = some (.slice none 0 0) := (blk_cell MB50.out 0).trans rfl; have Mz55 := blk_frozen MB50.out 0; have Mx56 : Mw44.cell? ⟨Mg43, 0, none⟩ = some (.slice none 0 0) := (blk_cell MB45.out 0).trans rfl; have Mz57 := blk_frozen MB45.out 0; clear f6 f7 f12 f14; have f6 := pw_cell_below MH51.out HE6.out; have f7 := pw_cell_below MH51.out HE7.out; have f12 := pw_cell_below MH51.out HE12.out; have f14 := pw_cell_below MH51.out HE14.out) | ((with_reducible refine gate_store (t := 63) (p := 9) rfl ?_); refine store_event (t := 63) (p := 9) (v := ?vo_Mw58) (w1 := (Mw44.setCell ⟨Mg43, 0, none⟩ (.slice (some ⟨g, 0, none⟩) B.all.length c0))) ?hg ?ho ?hn ?hr ?_; (case ho => rfl); (case hg => rfl); (case hn => rfl); (case hr => first | (go_simp; done) | (go_simp; rfl)); intro Mw58 hw_; have MB59 : Aside0 (Mw58.heap[Mg1]? = some (.cells #[.slice (some ad) B.all.length c] 63 (0, 0))) := ⟨by rw [hw_]; exact blk_far MB49.out MN47.out _⟩; have MB60 : Aside0 (Mw58.heap[Mg8]? = some (.cells #[.slice none 0 0] 63 (0, 0))) := ⟨by rw [hw_]; exact blk_far MB50.out MN48.out _⟩; have MB61 : Aside0 (Mw58.heap[Mg43]? = some (.cells #[.slice (some ⟨g, 0, none⟩) B.all.length c0] 63 (0, 0))) := ⟨by rw [hw_]; exact blk_put (cs := #[.slice none 0 0]) MB45.out 0 _ rfl⟩; have MH62 : Aside0 (Below w.heap.size w Mw58) := ⟨by rw [hw_]; exact below_set MH51.out MG46.out⟩; have HSA2 : Aside0 (Kd.S k41a 41 Mw58 w.heap.size _ (.slice (some ⟨g, 0, none⟩) B.all.length c0) B.all) := ⟨by rw [hw_]; exact Kd.S_far (p := ⟨Mg43, 0, none⟩) HSA1.out (fun k hk e_ => by have e2_ : k = Mg43 := e_; have h1_ := hk.2; have h2_ := HUG.out; omega) _⟩; clear hw_; clear Mx52 Mz53 Mx54 Mz55 Mx56 Mz57; have Mx63 : Mw58.cell? ⟨Mg1, 0, none⟩ = some (.slice (some ad) B.all.length c) := (blk_cell MB59.out 0).trans rfl; have Mz64 := blk_frozen MB59.out 0; have Mx65 : Mw58.cell? ⟨Mg8, 0, none⟩ = some (.slice none 0 0) := (blk_cell MB60.out 0).trans rfl; have Mz66 := blk_frozen MB60.out 0; have Mx67 : Mw58.cell? ⟨Mg43, 0, none⟩ = some (.slice (some ⟨g, 0, none⟩) B.all.length c0) := (blk_cell MB61.out 0).trans rfl; have Mz68 := blk_frozen MB61.out 0; clear f6 f7 f12 f14; have f6 := pw_cell_below MH62.out HE6.out; have f7 := pw_cell_below MH62.out HE7.out; have f12 := pw_cell_below MH62.out HE12.out; have f14 := pw_cell_below MH62.out HE14.out; obtain ⟨g_, A2_, c2_, A3_, c3_, eg_, k0, k1, k2, k3, k4, k5, k6, k7, k8, k9, k10, k11, k12, k13, k14, hfz, hgo, hgb⟩ := SA_elem HSA2.out i (by rw [all_len]; exact (List.getElem?_eq_some_iff.1 HX.out).1); cases eg_; rw [HRD.out] at k0 k1 k2 k3 k4 k5 k6 k7 k8 k9 k10 k11 k12 k13 k14; clear hgo hgb k0 k1 k2 k3 k4 k5 k7 k8 k9 k10 k11 k12 k13 k14; have z6 := hfz 6; clear hfz) | ((with_reducible refine gate_store (t := 3) (p := 56) rfl ?_); refine store_event (t := 3) (p := 56) (v := ?vo_Mw69) (w1 := (Mw58.setCell ⟨g, i * 15 + 6, none⟩ (.int .i64 n))) ?hg ?ho ?hn ?hr ?_; (case ho => rfl); (case hg => rfl); (case hn => rfl); (case hr => first | (go_simp; done) | (go_simp; rfl)); intro Mw69 hw_; obtain ⟨cl_, hcl_⟩ := Kd.S_typed HSA2.out g rfl; have MB70 : Aside0 (Mw69.heap[Mg1]? = some (.cells #[.slice (some ad) B.all.length c] 63 (0, 0))) := ⟨by rw [hw_]; exact blk_far MB59.out (show Mg1 ≠ g from fun e_ => by have h1_ := hcl_; have h2_ := MB59.out; rw [e_] at h2_; rw [h1_] at h2_; simp at h2_) _⟩; have MB71 : Aside0 (Mw69.heap[Mg8]? = some (.cells #[.slice none 0 0] 63 (0, 0))) := ⟨by rw [hw_]; exact blk_far MB60.out (show Mg8 ≠ g from fun e_ => by have h1_ := hcl_; have h2_ := MB60.out; rw [e_] at h2_; rw [h1_] at h2_; simp at h2_) _⟩; have MB72 : Aside0 (Mw69.heap[Mg43]? = some (.cells #[.slice (some ⟨g, 0, none⟩) B.all.length c0] 63 (0, 0))) := ⟨by rw [hw_]; exact blk_far MB61.out (show Mg43 ≠ g from fun e_ => by have h1_ := hcl_; have h2_ := MB61.out; rw [e_] at h2_; rw [h1_] at h2_; simp at h2_) _⟩; have MH73 : Aside0 (Below w.heap.size w Mw69) := ⟨by rw [hw_]; exact below_set MH62.out HGE.out⟩; have HSA3 := Aside0.mk ((HRD.out ▸ SA_put HSA2.out i (by rw [all_len]; exact (List.getElem?_eq_some_iff.1 HX.out).1) 6 (.int .i64 n) (by decide) { (rd_T41 B.all (i : Int)) with f0 := { (rd_T41 B.all (i : Int)).f0 with f6 := n } } (fun ok_ c_ h_ => k41a_count n h_) : Kd.S k41a 41 _ w.heap.size _ _ (B.all.set i { y with f0 := { y.f0 with f6 := n } }))); rw [← hw_] at HSA3; clear hw_ hcl_; clear Mx63 Mz64 Mx65 Mz66 Mx67 Mz68; have Mx74 : Mw69.cell? ⟨Mg1, 0, none⟩ = some (.slice (some ad) B.all.length c) := (blk_cell MB70.out 0).trans rfl; have Mz75 := blk_frozen MB70.out 0; have Mx76 : Mw69.cell? ⟨Mg8, 0, none⟩ = some (.slice none 0 0) := (blk_cell MB71.out 0).trans rfl; have Mz77 := blk_frozen MB71.out 0; have Mx78 : Mw69.cell? ⟨Mg43, 0, none⟩ = some (.slice (some ⟨g, 0, none⟩) B.all.length c0) := (blk_cell MB72.out 0).trans rfl; have Mz79 := blk_frozen MB72.out 0; clear f6 f7 f12 f14; have f6 := pw_cell_below MH73.out HE6.out; have f7 := pw_cell_below MH73.out HE7.out; have f12 := pw_cell_below MH73.out HE12.out; have f14 := pw_cell_below MH73.out HE14.out; clear k6 z6))
  have HSA5 : Aside0 (Kd.S k41a 41 _ w.heap.size (fun k => n0 ≤ k) _ _) := ⟨Kd.S_mono HSA3.out (fun k hk => hk.1)⟩
  have q := blk_full MB71.out [.slice (some ⟨g, 0, none⟩) B.all.length c0] rfl
  (try simp only [Exit.inBlock, Exit.then])
  refine bodyPost_ret (results_ct rfl _ _ Mg8 63 #[.slice (some ⟨g, 0, none⟩) B.all.length c0] (0, 0) _ rfl q.1 Try.underlying63 rfl (by kernel_rfl)) rfl ?_
  exact ⟨_, rfl, (by have h_ := Kd.V_mono (ok' := fun k => P k ∨ w.heap.size ≤ k) (Kd.V_grown (VA.1 (Kd.S_V (base' := w.heap.size) (Kd.S_bound HSA5.out))) q.2 (fun k hk e => by injection e with e; exact HOG.out (e ▸ hk.1))) (fun k hk => .inr hk.2.1); rw [← HY.out]; exact h_), MH73.out.grown q.2 (below_size MH73.out) (fun k hk => by cases hk; exact MG11.out)⟩
end Go.Proofs.Ythmhehfbepijgaa.Q
