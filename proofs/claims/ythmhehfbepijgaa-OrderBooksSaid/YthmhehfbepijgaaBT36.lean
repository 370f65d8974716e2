import Derived.Test.YthmhehfbepijgaaBQ0
import Derived.Test.YthmhehfbepijgaaBR12
import Derived.Test.YthmhehfbepijgaaBQ5
import Derived.Test.YthmhehfbepijgaaBQ6
import Derived.Test.YthmhehfbepijgaaBQ7
import Derived.Test.YthmhehfbepijgaaBQ8
import Derived.Test.YthmhehfbepijgaaBQ9
import Derived.Test.YthmhehfbepijgaaBQ11
import Derived.Test.YthmhehfbepijgaaBQ12
import Derived.Test.YthmhehfbepijgaaBT26
import Derived.Test.YthmhehfbepijgaaBT27
import Derived.Test.YthmhehfbepijgaaBT29
import Derived.Test.YthmhehfbepijgaaBT31
import Derived.Test.YthmhehfbepijgaaBT34
namespace Go.Proofs.Ythmhehfbepijgaa.Q
open Go.RowKit Go.Proofs.YthmhehfbepijgaaW.PrintWords Go.Proofs.YthmhehfbepijgaaW.PrintLast Go.Proofs.YthmhehfbepijgaaW.PrintMore
attribute [local go_sem] max2_int min2_int max_two min_two max_three min_three max_four min_four
set_option linter.unusedVariables false
set_option linter.unusedSimpArgs false
set_option maxHeartbeats 16000000 in
def shipR.T13 : Bool × List (List Nat × List Nat) := (true, [([], []), ([0], [0]), ([], []), ([], []), ([3], [3]), ([], []), ([4, 5], [4, 5]), ([6], [6]), ([7], [7]), ([], []), ([9], [9]), ([8, 10], [8, 10]), ([1, 2, 0, 1, 2, 3, 4, 5, 6, 7, 8, 9, 10, 11], [1, 2]), ([12, 0, 1, 2, 3, 4, 5, 6, 7, 8, 9, 10, 11], [12]), ([13, 11, 11, 0, 1, 2, 3, 4, 5, 6, 7, 8, 9, 10, 11], [11, 13])])
def shipR.B13 : List Nat := [0, 1, 0, 0, 8, 0, 56, 120, 248, 0, 512, 2040, 4095, 8191, 16383]
theorem shipR.tab13 : rtab .any (opsOf Try.f59 13) = shipR.T13 := by kernel_rfl
theorem shipR.bits13 : waitsOk shipR.T13.2 shipR.B13 = true := by kernel_rfl
set_option maxHeartbeats 16000000 in
set_option maxRecDepth 100000 in
theorem shipR_calls {B : Bk} {T : Nat} (hi : B.Inv T) (hT : T ≤ 900) {A : Option Addr} {c : Nat} (n : Int) {P : Nat → Prop} (w : World) (hs : Kd.V k41 41 w w.heap.size P (.slice A B.all.length c) B.all) :
    Calls Try.prog 59 #[.agg #[.slice A B.all.length c], .int .i64 n] w fun e w' => ∃ v0, e = .returned (.tuple #[.agg #[v0], .int .i64 (B.Ship n).2]) ∧ Kd.V k41 41 w' w.heap.size (fun k => P k ∨ w.heap.size ≤ k) v0 (B.Ship n).1.all ∧ Below w.heap.size w w' := by
  have hu63 := Try.underlying63
  have hu41 := Try.underlying41
  have hu23 := Try.underlying23
  have HS := Aside0.mk hs
  have HI := Aside0.mk hi
  have HTT := Aside0.mk hT
  have HC : Aside0 (Kd.C k41 w A B.all.length B.all) := ⟨(Kd.V_reads' hs).2.2⟩
  have HCC : Aside0 (B.all.length ≤ c) := ⟨(Kd.V_reads' hs).2.1⟩
  have hal := hi.allLen
  have HB := Aside0.mk (Below.refl w.heap.size w)
  rcases ship_ways hi n with ⟨c0, hop⟩ | ⟨i, x, hfe, hx, hw⟩
  · rw [hop]
    dsimp only
    have c0b : decide (B.of n < 0) = true := decide_eq_true c0
    clear c0 hop hs hi hT
    go_enter Try.func59, Try.ntmps59
    go_wp2_with (first | ((with_reducible refine gate_dst (N := 2) rfl ?_); refine box_event ?hg (N := 2) ?hd (cs := #[.slice A B.all.length c]) (t := 63) ?hr ?_; (case hd => rfl); (case hg => rfl); (case hr => first | (go_simp; done) | (go_simp; rfl)); intro Mg1 hg_ Mw2 hbox_ hb_; have MB3 := Aside0.mk hbox_; have MG4 : Aside0 (w.heap.size ≤ Mg1) := ⟨by rw [hg_]; exact below_size HB.out⟩; have MH5 := Aside0.mk (below_step HB.out hb_); clear hbox_ hb_ hg_; have Mx6 : Mw2.cell? ⟨Mg1, 0, none⟩ = some (.slice A B.all.length c) := (blk_cell MB3.out 0).trans rfl; have Mz7 := blk_frozen MB3.out 0) | ((with_reducible refine gate_dst (N := 4) rfl ?_); refine box_event ?hg (N := 4) ?hd (cs := #[.slice none 0 0]) (t := 63) ?hr ?_; (case hd => rfl); (case hg => rfl); (case hr => first | (go_simp; done) | (go_simp; rfl)); intro Mg8 hg_ Mw9 hbox_ hb_; have MB10 := Aside0.mk hbox_; have MG11 : Aside0 (w.heap.size ≤ Mg8) := ⟨by rw [hg_]; exact below_size MH5.out⟩; have MN12 : Aside0 (Mg1 ≠ Mg8) := ⟨by rw [hg_]; exact Nat.ne_of_lt (blk_lt MB3.out)⟩; have MB13 := Aside0.mk (blk_below MB3.out hb_); have MH14 := Aside0.mk (below_step MH5.out hb_); clear hbox_ hb_ hg_; clear Mx6 Mz7; have Mx15 : Mw9.cell? ⟨Mg1, 0, none⟩ = some (.slice A B.all.length c) := (blk_cell MB13.out 0).trans rfl; have Mz16 := blk_frozen MB13.out 0; have Mx17 : Mw9.cell? ⟨Mg8, 0, none⟩ = some (.slice none 0 0) := (blk_cell MB10.out 0).trans rfl; have Mz18 := blk_frozen MB10.out 0) | (go_at_call 61; refine (ofR_calls HI.out HTT.out n _ (Kd.C_below HC.out MH14.out) HCC.out).mono ?_; rintro e Mw19 ⟨rfl, hb_⟩; have MB20 := Aside0.mk (blk_below MB13.out hb_); have MB21 := Aside0.mk (blk_below MB10.out hb_); have MH22 := Aside0.mk (below_step MH14.out hb_); clear hb_; clear Mx15 Mz16 Mx17 Mz18; have Mx23 : Mw19.cell? ⟨Mg1, 0, none⟩ = some (.slice A B.all.length c) := (blk_cell MB20.out 0).trans rfl; have Mz24 := blk_frozen MB20.out 0; have Mx25 : Mw19.cell? ⟨Mg8, 0, none⟩ = some (.slice none 0 0) := (blk_cell MB21.out 0).trans rfl; have Mz26 := blk_frozen MB21.out 0))
    have q := blk_full MB21.out [.slice A B.all.length c] rfl
    (try simp only [Exit.inBlock, Exit.then])
    refine bodyPost_ret (results_ct rfl _ _ Mg8 63 #[.slice A B.all.length c] (0, 0) _ rfl q.1 Try.underlying63 rfl (by kernel_rfl)) rfl ?_
    exact ⟨_, rfl, Kd.V_mono (Kd.V_grown (Kd.V_below (Kd.V_bound HS.out) MH22.out) q.2 (fun k hk e => by injection e with e; have h1_ := hk.2; have h2_ := MG11.out; omega)) (fun k hk => .inl hk.1), MH22.out.grown q.2 (below_size MH22.out) (fun k hk => by cases hk; exact MG11.out)⟩
  have HX := Aside0.mk hx
  have HFE := Aside0.mk hfe
  have hlt := (List.getElem?_eq_some_iff.1 hx).1
  have hil : i < B.all.length := by rw [all_len]; exact hlt
  obtain ⟨y, HY⟩ : ∃ y, Aside0 (y = B.stat x) := ⟨_, ⟨rfl⟩⟩
  have hx0 : x.f0 = y.f0 := by rw [HY.out]; rfl
  have hx1 : x.f1 = y.f1 := by rw [HY.out]; rfl
  have hx2 : x.f2 = y.f3 := by rw [HY.out]; rfl
  have HRD : Aside0 (rd_T41 B.all (i : Int) = y) := ⟨by rw [all_atR hx, HY.out]⟩
  obtain ⟨ad, A12, c12, A13, c13, ea, e0, e1, e2, e3, e4, e5, e6, e7, e8, e9, e10, e11, e12, e13, e14, l1, C1, l2, C2⟩ := at_T41 HC.out (i : Int) (by omega) (by omega)
  rw [HRD.out] at e0 e1 e2 e3 e4 e5 e6 e7 e8 e9 e10 e11 e12 e13 e14 l1 C1 l2 C2
  rw [Int.toNat_natCast] at e0 e1 e2 e3 e4 e5 e6 e7 e8 e9 e10 e11 e12 e13 e14
  subst ea
  have HE12 := Aside0.mk e12
  have HE13 := Aside0.mk e13
  have HR1 := Aside0.mk (And.intro l1 C1)
  have HR2 := Aside0.mk (And.intro l2 C2)
  have hfew := (hi.allFew hT).2 y (by rw [← HRD.out]; exact rd41_mem hil)
  have HFW := Aside0.mk hfew
  have hilz : (i : Int) < (B.all.length : Int) := by omega
  have pi0 : (0 ≤ (i : Int)) = True := eq_true (by omega)
  have pi1 : ((i : Int) < (B.all.length : Int)) = True := eq_true hilz
  have pi2 : (i < B.all.length) = True := eq_true hil
  have c0b : decide ((i : Int) < 0) = false := decide_eq_false (by omega)
  have c0g : decide (0 ≤ (i : Int)) = true := decide_eq_true (by omega)
  clear hs hi hT hx hfe hlt l1 C1 l2 C2 hfew e0 e1 e2 e3 e4 e5 e6 e7 e8 e9 e10 e11 e12 e13 e14
  rw [hx1, ← HY.out] at hw
  rcases hw with ⟨c1, hop⟩ | ⟨c1, hop1, hop2⟩
  · rw [hop]
    dsimp only
    have HHAS : Aside0 (decide (n ∈ y.f2) = true) := ⟨decide_eq_true c1⟩
    clear c1 hop
    go_enter Try.func59, Try.ntmps59
    go_wp2_with (first | ((with_reducible refine gate_dst (N := 2) rfl ?_); refine box_event ?hg (N := 2) ?hd (cs := #[.slice (some ad) B.all.length c]) (t := 63) ?hr ?_; (case hd => rfl); (case hg => rfl); (case hr => first | (go_simp; done) | (go_simp; rfl)); intro Mg1 hg_ Mw2 hbox_ hb_; have MB3 := Aside0.mk hbox_; have MG4 : Aside0 (w.heap.size ≤ Mg1) := ⟨by rw [hg_]; exact below_size HB.out⟩; have MH5 := Aside0.mk (below_step HB.out hb_); clear hbox_ hb_ hg_; have Mx6 : Mw2.cell? ⟨Mg1, 0, none⟩ = some (.slice (some ad) B.all.length c) := (blk_cell MB3.out 0).trans rfl; have Mz7 := blk_frozen MB3.out 0) | ((with_reducible refine gate_dst (N := 4) rfl ?_); refine box_event ?hg (N := 4) ?hd (cs := #[.slice none 0 0]) (t := 63) ?hr ?_; (case hd => rfl); (case hg => rfl); (case hr => first | (go_simp; done) | (go_simp; rfl)); intro Mg8 hg_ Mw9 hbox_ hb_; have MB10 := Aside0.mk hbox_; have MG11 : Aside0 (w.heap.size ≤ Mg8) := ⟨by rw [hg_]; exact below_size MH5.out⟩; have MN12 : Aside0 (Mg1 ≠ Mg8) := ⟨by rw [hg_]; exact Nat.ne_of_lt (blk_lt MB3.out)⟩; have MB13 := Aside0.mk (blk_below MB3.out hb_); have MH14 := Aside0.mk (below_step MH5.out hb_); clear hbox_ hb_ hg_; clear Mx6 Mz7; have Mx15 : Mw9.cell? ⟨Mg1, 0, none⟩ = some (.slice (some ad) B.all.length c) := (blk_cell MB13.out 0).trans rfl; have Mz16 := blk_frozen MB13.out 0; have Mx17 : Mw9.cell? ⟨Mg8, 0, none⟩ = some (.slice none 0 0) := (blk_cell MB10.out 0).trans rfl; have Mz18 := blk_frozen MB10.out 0; have f12 := pw_cell_below MH14.out HE12.out; have f13 := pw_cell_below MH14.out HE13.out) | (go_at_call 61; refine (ofR_calls HI.out HTT.out n _ (Kd.C_below HC.out MH14.out) HCC.out).mono ?_; rw [HFE.out]; rintro e Mw19 ⟨rfl, hb_⟩; have MB20 := Aside0.mk (blk_below MB13.out hb_); have MB21 := Aside0.mk (blk_below MB10.out hb_); have MH22 := Aside0.mk (below_step MH14.out hb_); clear hb_; clear Mx15 Mz16 Mx17 Mz18; have Mx23 : Mw19.cell? ⟨Mg1, 0, none⟩ = some (.slice (some ad) B.all.length c) := (blk_cell MB20.out 0).trans rfl; have Mz24 := blk_frozen MB20.out 0; have Mx25 : Mw19.cell? ⟨Mg8, 0, none⟩ = some (.slice none 0 0) := (blk_cell MB21.out 0).trans rfl; have Mz26 := blk_frozen MB21.out 0; clear f12 f13; have f12 := pw_cell_below MH22.out HE12.out; have f13 := pw_cell_below MH22.out HE13.out) | (go_at_call 67; refine (hasR_calls y.f2 HFW.out.2 n _ (Kd.C_below HR2.out.2 MH22.out) HR2.out.1).mono ?_; rw [HHAS.out]; rintro e Mw27 ⟨rfl, hb_⟩; have MB28 := Aside0.mk (blk_below MB20.out hb_); have MB29 := Aside0.mk (blk_below MB21.out hb_); have MH30 := Aside0.mk (below_step MH22.out hb_); clear hb_; clear Mx23 Mz24 Mx25 Mz26; have Mx31 : Mw27.cell? ⟨Mg1, 0, none⟩ = some (.slice (some ad) B.all.length c) := (blk_cell MB28.out 0).trans rfl; have Mz32 := blk_frozen MB28.out 0; have Mx33 : Mw27.cell? ⟨Mg8, 0, none⟩ = some (.slice none 0 0) := (blk_cell MB29.out 0).trans rfl; have Mz34 := blk_frozen MB29.out 0; clear f12 f13; have f12 := pw_cell_below MH30.out HE12.out; have f13 := pw_cell_below MH30.out HE13.out))
    have q := blk_full MB29.out [.slice (some ad) B.all.length c] rfl
    (try simp only [Exit.inBlock, Exit.then])
    refine bodyPost_ret (results_ct rfl _ _ Mg8 63 #[.slice (some ad) B.all.length c] (0, 0) _ rfl q.1 Try.underlying63 rfl (by kernel_rfl)) rfl ?_
    exact ⟨_, rfl, Kd.V_mono (Kd.V_grown (Kd.V_below (Kd.V_bound HS.out) MH30.out) q.2 (fun k hk e => by injection e with e; have h1_ := hk.2; have h2_ := MG11.out; omega)) (fun k hk => .inl hk.1), MH30.out.grown q.2 (below_size MH30.out) (fun k hk => by cases hk; exact MG11.out)⟩
  have HHAS : Aside0 (decide (n ∈ y.f2) = false) := ⟨decide_eq_false c1⟩
  rw [hop1, hop2]
  clear c1 hop1 hop2
  go_enter Try.func59, Try.ntmps59
  go_wp2_with (first | ((with_reducible refine gate_dst (N := 2) rfl ?_); refine box_event ?hg (N := 2) ?hd (cs := #[.slice (some ad) B.all.length c]) (t := 63) ?hr ?_; (case hd => rfl); (case hg => rfl); (case hr => first | (go_simp; done) | (go_simp; rfl)); intro Mg1 hg_ Mw2 hbox_ hb_; have MB3 := Aside0.mk hbox_; have MG4 : Aside0 (w.heap.size ≤ Mg1) := ⟨by rw [hg_]; exact below_size HB.out⟩; have MH5 := Aside0.mk (below_step HB.out hb_); clear hbox_ hb_ hg_; have Mx6 : Mw2.cell? ⟨Mg1, 0, none⟩ = some (.slice (some ad) B.all.length c) := (blk_cell MB3.out 0).trans rfl; have Mz7 := blk_frozen MB3.out 0) | ((with_reducible refine gate_dst (N := 4) rfl ?_); refine box_event ?hg (N := 4) ?hd (cs := #[.slice none 0 0]) (t := 63) ?hr ?_; (case hd => rfl); (case hg => rfl); (case hr => first | (go_simp; done) | (go_simp; rfl)); intro Mg8 hg_ Mw9 hbox_ hb_; have MB10 := Aside0.mk hbox_; have MG11 : Aside0 (w.heap.size ≤ Mg8) := ⟨by rw [hg_]; exact below_size MH5.out⟩; have MN12 : Aside0 (Mg1 ≠ Mg8) := ⟨by rw [hg_]; exact Nat.ne_of_lt (blk_lt MB3.out)⟩; have MB13 := Aside0.mk (blk_below MB3.out hb_); have MH14 := Aside0.mk (below_step MH5.out hb_); clear hbox_ hb_ hg_; clear Mx6 Mz7; have Mx15 : Mw9.cell? ⟨Mg1, 0, none⟩ = some (.slice (some ad) B.all.length c) := (blk_cell MB13.out 0).trans rfl; have Mz16 := blk_frozen MB13.out 0; have Mx17 : Mw9.cell? ⟨Mg8, 0, none⟩ = some (.slice none 0 0) := (blk_cell MB10.out 0).trans rfl; have Mz18 := blk_frozen MB10.out 0; have f12 := pw_cell_below MH14.out HE12.out; have f13 := pw_cell_below MH14.out HE13.out) | (go_at_call 61; refine (ofR_calls HI.out HTT.out n _ (Kd.C_below HC.out MH14.out) HCC.out).mono ?_; rw [HFE.out]; rintro e Mw19 ⟨rfl, hb_⟩; have MB20 := Aside0.mk (blk_below MB13.out hb_); have MB21 := Aside0.mk (blk_below MB10.out hb_); have MH22 := Aside0.mk (below_step MH14.out hb_); clear hb_; clear Mx15 Mz16 Mx17 Mz18; have Mx23 : Mw19.cell? ⟨Mg1, 0, none⟩ = some (.slice (some ad) B.all.length c) := (blk_cell MB20.out 0).trans rfl; have Mz24 := blk_frozen MB20.out 0; have Mx25 : Mw19.cell? ⟨Mg8, 0, none⟩ = some (.slice none 0 0) := (blk_cell MB21.out 0).trans rfl; have Mz26 := blk_frozen MB21.out 0; clear f12 f13; have f12 := pw_cell_below MH22.out HE12.out; have f13 := pw_cell_below MH22.out HE13.out) | (go_at_call 67; refine (hasR_calls y.f2 HFW.out.2 n _ (Kd.C_below HR2.out.2 MH22.out) HR2.out.1).mono ?_; rw [HHAS.out]; rintro e Mw27 ⟨rfl, hb_⟩; have MB28 := Aside0.mk (blk_below MB20.out hb_); have MB29 := Aside0.mk (blk_below MB21.out hb_); have MH30 := Aside0.mk (below_step MH22.out hb_); clear hb_; clear Mx23 Mz24 Mx25 Mz26; have Mx31 : Mw27.cell? ⟨Mg1, 0, none⟩ = some (.slice (some ad) B.all.length c) := (blk_cell MB28.out 0).trans rfl; have Mz32 := blk_frozen MB28.out 0; have Mx33 : Mw27.cell? ⟨Mg8, 0, none⟩ = some (.slice none 0 0) := (blk_cell MB29.out 0).trans rfl; have Mz34 := blk_frozen MB29.out 0; clear f12 f13; have f12 := pw_cell_below MH30.out HE12.out; have f13 := pw_cell_below MH30.out HE13.out) | (go_at_call 52; refine (wholeR_calls HI.out HTT.out _ (Kd.C_below HC.out MH30.out) HCC.out).mono ?_; have hol_ := blk_lt MB29.out; have hbs_ := below_size MH30.out; rintro e Mw35 ⟨A0_, c0, rfl, hs_, hb_⟩; have MB36 := Aside0.mk (blk_below MB28.out hb_); have MB37 := Aside0.mk (blk_below MB29.out hb_); have MH38 := Aside0.mk (below_step MH30.out hb_); obtain ⟨g, A2_, c2_, A3_, c3_, eg_, hg_⟩ := SA_elem hs_ i (by rw [all_len]; exact (List.getElem?_eq_some_iff.1 HX.out).1); subst eg_; obtain ⟨n0, hn0_⟩ : ∃ n0, n0 = Mw27.heap.size := ⟨_, rfl⟩; rw [← hn0_] at hs_ hol_ hbs_; have HOG : Aside0 (¬ (n0 ≤ Mg8)) := ⟨by omega⟩; have HSA0 := Aside0.mk (Kd.S_lower hs_ hbs_); have HGN : Aside0 (n0 ≤ g) := ⟨((Kd.S_R hs_).1 g rfl).1⟩; have HGE : Aside0 (w.heap.size ≤ g) := ⟨Nat.le_trans hbs_ HGN.out⟩; clear hn0_; clear hs_ hg_ hol_ hbs_; clear hb_; clear Mx31 Mz32 Mx33 Mz34; have Mx39 : Mw35.cell? ⟨Mg1, 0, none⟩ = some (.slice (some ad) B.all.length c) := (blk_cell MB36.out 0).trans rfl; have Mz40 := blk_frozen MB36.out 0; have Mx41 : Mw35.cell? ⟨Mg8, 0, none⟩ = some (.slice none 0 0) := (blk_cell MB37.out 0).trans rfl; have Mz42 := blk_frozen MB37.out 0; clear f12 f13; have f12 := pw_cell_below MH38.out HE12.out; have f13 := pw_cell_below MH38.out HE13.out) | ((with_reducible refine gate_dst (N := 7) rfl ?_); refine box_event ?hg (N := 7) ?hd (cs := #[.slice none 0 0]) (t := 63) ?hr ?_; (case hd => rfl); (case hg => rfl); (case hr => first | (go_simp; done) | (go_simp; rfl)); intro Mg43 hg_ Mw44 hbox_ hb_; have MB45 := Aside0.mk hbox_; have MG46 : Aside0 (w.heap.size ≤ Mg43) := ⟨by rw [hg_]; exact below_size MH38.out⟩; have MN47 : Aside0 (Mg1 ≠ Mg43) := ⟨by rw [hg_]; exact Nat.ne_of_lt (blk_lt MB36.out)⟩; have MN48 : Aside0 (Mg8 ≠ Mg43) := ⟨by rw [hg_]; exact Nat.ne_of_lt (blk_lt MB37.out)⟩; have MB49 := Aside0.mk (blk_below MB36.out hb_); have MB50 := Aside0.mk (blk_below MB37.out hb_); have MH51 := Aside0.mk (below_step MH38.out hb_); have HSA1 := Aside0.mk (Kd.S_below HSA0.out hb_); have HUG : Aside0 (Mw35.heap.size ≤ Mg43) := ⟨by rw [hg_]; exact Nat.le_refl _⟩; clear hbox_ hb_ hg_; clear Mx39 Mz40 Mx41 Mz42; have Mx52 : Mw44.cell? ⟨Mg1, 0, none⟩ = some (.slice (some ad) B.all.length c) := (blk_cell MB49.out 0).trans rfl; have Mz53 := blk_frozen MB49.out 0; have Mx54 : Mw44.cell? ⟨Mg8, 0, none⟩ = some (.slice none 0 0) := (blk_cell MB50.out 0).trans rfl; have Mz55 := blk_frozen MB50.out 0; have Mx56 : Mw44.cell? ⟨Mg43, 0, none⟩ = some (.slice none 0 0) := (blk_cell MB45.out 0).trans rfl; have Mz57 := blk_frozen MB45.out 0; clear f12 f13; have f12 := pw_cell_below MH51.out HE12.out; have f13 := pw_cell_below MH51.out HE13.out) | ((with_reducible refine gate_store (t := 63) (p := 7) rfl ?_); refine store_event (t := 63) (p := 7) (v := ?vo_Mw58) (w1 := (Mw44.setCell ⟨Mg43, 0, none⟩ (.slice (some ⟨g, 0, none⟩) B.all.length c0))) ?hg ?ho ?hn ?hr ?_; (case ho => rfl); (case hg => rfl); (case hn => rfl); (case hr => first | (go_simp; done) | (go_simp; rfl)); intro Mw58 hw_; have MB59 : Aside0 (Mw58.heap[Mg1]? = some (.cells #[.slice (some ad) B.all.length c] 63 (0, 0))) := ⟨by rw [hw_]; exact blk_far MB49.out MN47.out _⟩; have MB60 : Aside0 (Mw58.heap[Mg8]? = some (.cells #[.slice none 0 0] 63 (0, 0))) := ⟨by rw [hw_]; exact blk_far MB50.out MN48.out _⟩; have MB61 : Aside0 (Mw58.heap[Mg43]? = some (.cells #[.slice (some ⟨g, 0, none⟩) B.all.length c0] 63 (0, 0))) := ⟨by rw [hw_]; exact blk_put (cs := #[.slice none 0 0]) MB45.out 0 _ rfl⟩; have MH62 : Aside0 (Below w.heap.size w Mw58) := ⟨by rw [hw_]; exact below_set MH51.out MG46.out⟩; have HSA2 : Aside0 (Kd.S k41a 41 Mw58 w.heap.size _ (.slice (some ⟨g, 0, none⟩) B.all.length c0) B.all) := ⟨by rw [hw_]; exact Kd.S_far (p := ⟨Mg43, 0, none⟩) HSA1.out (fun k hk e_ => by have e2_ : k = Mg43 := e_; have h1_ := hk.2; have h2_ := HUG.out; omega) _⟩; clear hw_; clear Mx52 Mz53 Mx54 Mz55 Mx56 Mz57; have Mx63 : Mw58.cell? ⟨Mg1, 0, none⟩ = some (.slice (some ad) B.all.length c) := (blk_cell MB59.out 0).trans rfl; have Mz64 := blk_frozen MB59.out 0; have Mx65 : Mw58.cell? ⟨Mg8, 0, none⟩ = some (.slice none 0 0) := (blk_cell MB60.out 0).trans rfl; have Mz66 := blk_frozen MB60.out 0; have Mx67 : Mw58.cell? ⟨Mg43, 0, none⟩ = some (.slice (some ⟨g, 0, none⟩) B.all.length c0) := (blk_cell MB61.out 0).trans rfl; have Mz68 := blk_frozen MB61.out 0; clear f12 f13; have f12 := pw_cell_below MH62.out HE12.out; have f13 := pw_cell_below MH62.out HE13.out; obtain ⟨g_, A2_, c2_, A3_, c3_, eg_, k0, k1, k2, k3, k4, k5, k6, k7, k8, k9, k10, k11, k12, k13, k14, hfz, hgo, hgb⟩ := SA_elem HSA2.out i (by rw [all_len]; exact (List.getElem?_eq_some_iff.1 HX.out).1); cases eg_; rw [HRD.out] at k0 k1 k2 k3 k4 k5 k6 k7 k8 k9 k10 k11 k12 k13 k14; clear hgo hgb k0 k1 k2 k3 k4 k5 k6 k7 k8 k9 k10 k11 k12 k14; have z13 := hfz 13; clear hfz) | ((with_reducible refine gate_store (t := 39) (p := 31) rfl ?_); refine store_event (t := 39) (p := 31) (v := ?vo_Mw69) (w1 := (Mw58.setCell ⟨g, i * 15 + 13, none⟩ (.slice none 0 0))) ?hg ?ho ?hn ?hr ?_; (case ho => rfl); (case hg => rfl); (case hn => rfl); (case hr => first | (go_simp; done) | (go_simp; rfl)); intro Mw69 hw_; obtain ⟨cl_, hcl_⟩ := Kd.S_typed HSA2.out g rfl; have MB70 : Aside0 (Mw69.heap[Mg1]? = some (.cells #[.slice (some ad) B.all.length c] 63 (0, 0))) := ⟨by rw [hw_]; exact blk_far MB59.out (show Mg1 ≠ g from fun e_ => by have h1_ := hcl_; have h2_ := MB59.out; rw [e_] at h2_; rw [h1_] at h2_; simp at h2_) _⟩; have MB71 : Aside0 (Mw69.heap[Mg8]? = some (.cells #[.slice none 0 0] 63 (0, 0))) := ⟨by rw [hw_]; exact blk_far MB60.out (show Mg8 ≠ g from fun e_ => by have h1_ := hcl_; have h2_ := MB60.out; rw [e_] at h2_; rw [h1_] at h2_; simp at h2_) _⟩; have MB72 : Aside0 (Mw69.heap[Mg43]? = some (.cells #[.slice (some ⟨g, 0, none⟩) B.all.length c0] 63 (0, 0))) := ⟨by rw [hw_]; exact blk_far MB61.out (show Mg43 ≠ g from fun e_ => by have h1_ := hcl_; have h2_ := MB61.out; rw [e_] at h2_; rw [h1_] at h2_; simp at h2_) _⟩; have MH73 : Aside0 (Below w.heap.size w Mw69) := ⟨by rw [hw_]; exact below_set MH62.out HGE.out⟩; have HSA3 := Aside0.mk ((HRD.out ▸ SA_put HSA2.out i (by rw [all_len]; exact (List.getElem?_eq_some_iff.1 HX.out).1) 13 (.slice none 0 0) (by decide) { (rd_T41 B.all (i : Int)) with f2 := [] } (fun ok_ c_ h_ => k41a_nil2 h_) : Kd.S k41a 41 _ w.heap.size _ _ (B.all.set i { y with f2 := [] }))); rw [← hw_] at HSA3; clear hw_ hcl_; clear Mx63 Mz64 Mx65 Mz66 Mx67 Mz68; have Mx74 : Mw69.cell? ⟨Mg1, 0, none⟩ = some (.slice (some ad) B.all.length c) := (blk_cell MB70.out 0).trans rfl; have Mz75 := blk_frozen MB70.out 0; have Mx76 : Mw69.cell? ⟨Mg8, 0, none⟩ = some (.slice none 0 0) := (blk_cell MB71.out 0).trans rfl; have Mz77 := blk_frozen MB71.out 0; have Mx78 : Mw69.cell? ⟨Mg43, 0, none⟩ = some (.slice (some ⟨g, 0, none⟩) B.all.length c0) := (blk_cell MB72.out 0).trans rfl; have Mz79 := blk_frozen MB72.out 0; clear f12 f13; have f12 := pw_cell_below MH73.out HE12.out; have f13 := pw_cell_below MH73.out HE13.out; clear k13 z13))
  have HSA5 : Aside0 (Kd.S k41a 41 _ w.heap.size (fun k => n0 ≤ k) _ _) := ⟨Kd.S_mono HSA3.out (fun k hk => hk.1)⟩
  clear Mx74 Mz75 Mx76 Mz77 Mx78 Mz79 f12 f13
  go_loopg [8] y.f1.length (fun gg v8 wr => ∃ kk : Nat, kk ≤ y.f1.length ∧ y.f1.length - kk ≤ gg ∧ v8 = .int .i64 kk ∧ Aside0 (Kd.S k41a 41 wr w.heap.size (fun k => n0 ≤ k) (.slice (some ⟨g, 0, none⟩) B.all.length c0) (B.all.set i { y with f2 := ((y.f1.take kk).filter fun q => q == n || decide (q ∈ y.f2)) })) ∧ Aside0 (wr.heap[Mg1]? = some (.cells #[.slice (some ad) B.all.length c] 63 (0, 0))) ∧ Aside0 (wr.heap[Mg8]? = some (.cells #[.slice none 0 0] 63 (0, 0))) ∧ Aside0 (wr.heap[Mg43]? = some (.cells #[.slice (some ⟨g, 0, none⟩) B.all.length c0] 63 (0, 0))) ∧ Aside0 (Below w.heap.size w wr))
  case atStart => exact ⟨0, Nat.zero_le _, by omega, rfl, ⟨HSA5.out⟩, MB70, MB71, MB72, MH73⟩
  case round =>
    clear HSA5 MB70 MB71 MB72 MH73
    obtain ⟨kk, hkk, hg, rfl, HSL, HLB, HLO, HLU, HLH⟩ := hrel
    have Mx80 : wr.cell? ⟨Mg1, 0, none⟩ = some (.slice (some ad) B.all.length c) := (blk_cell HLB.out 0).trans rfl
    have Mz81 := blk_frozen HLB.out 0
    have Mx82 : wr.cell? ⟨Mg8, 0, none⟩ = some (.slice none 0 0) := (blk_cell HLO.out 0).trans rfl
    have Mz83 := blk_frozen HLO.out 0
    have Mx84 : wr.cell? ⟨Mg43, 0, none⟩ = some (.slice (some ⟨g, 0, none⟩) B.all.length c0) := (blk_cell HLU.out 0).trans rfl
    have Mz85 := blk_frozen HLU.out 0
    have f12 := pw_cell_below HLH.out HE12.out
    have f13 := pw_cell_below HLH.out HE13.out
    by_cases hlt : kk < y.f1.length
    · have hltz : (kk : Int) < (y.f1.length : Int) := by omega
      obtain ⟨adr, er, hroll⟩ := Kd.at_int HR1.out.2 (kk : Int) (by omega) hltz
      subst er
      obtain ⟨r, HR⟩ : ∃ r, Aside0 (r = rd y.f1 (kk : Int)) := ⟨_, ⟨rfl⟩⟩
      rw [← HR.out, Int.toNat_natCast] at hroll
      have HROLL := Aside0.mk hroll
      have HRJ : Aside0 (r = y.f1[kk]) := ⟨by rw [HR.out]; unfold rd; rw [Int.toNat_natCast, List.getD_eq_getElem?_getD, List.getElem?_eq_getElem hlt]; rfl⟩
      have HTK : Aside0 (y.f1.take (kk + 1) = y.f1.take kk ++ [r]) := ⟨by rw [HRJ.out, List.take_succ_eq_append_getElem hlt]⟩
      clear hroll
      have hrl := pw_cell_below HLH.out HROLL.out
      have pk0 : (0 ≤ (kk : Int)) = True := eq_true (by omega)
      have pk1 : ((kk : Int) < (y.f1.length : Int)) = True := eq_true hltz
      have pk2 : (kk < y.f1.length) = True := eq_true hlt
      have hyl := HFW.out.1
      by_cases hrn : r = n
      · have hrb : (r == n) = true := by rw [hrn]; exact beq_self_eq_true _
        have hac : Aside0 (((y.f1.take kk ++ [r]).filter fun q => q == n || decide (q ∈ y.f2)) = ((y.f1.take kk).filter fun q => q == n || decide (q ∈ y.f2)) ++ [r]) := ⟨by rw [List.filter_append, List.filter_cons, if_pos (by rw [hrb]; rfl)]; rfl⟩
        clear hrn
        go_wp2_with fail
        clear hrl
        obtain ⟨y2, HY2⟩ : ∃ y2 : S41, Aside0 (y2 = { y with f2 := ((y.f1.take kk).filter fun q => q == n || decide (q ∈ y.f2)) }) := ⟨_, ⟨rfl⟩⟩
        have HLI : Aside0 (i < (B.all.set i y2).length) := ⟨by rw [List.length_set]; exact hil⟩
        have HRD2 : Aside0 (rd_T41 (B.all.set i y2) (i : Int) = y2) := ⟨by unfold rd_T41; rw [Int.toNat_natCast, List.getD_eq_getElem?_getD, List.getElem?_set_self hil]; rfl⟩
        have HRL : Aside0 (y2.f2.length < 1000) := ⟨by rw [HY2.out]; show ((y.f1.take kk).filter fun q => q == n || decide (q ∈ y.f2)).length < 1000; have h1_ : ((y.f1.take kk).filter fun q => q == n || decide (q ∈ y.f2)).length ≤ (y.f1.take kk).length := List.length_filter_le _ _; have h2_ : (y.f1.take kk).length ≤ y.f1.length := (by rw [List.length_take]; omega); omega⟩
        have HSX : Aside0 (Kd.S k41a 41 _ w.heap.size (fun k => n0 ≤ k) _ (B.all.set i y2)) := ⟨by rw [HY2.out]; exact HSL.out⟩
        clear Mx80 Mz81 Mx82 Mz83 Mx84 Mz85 f12 f13
        obtain ⟨_, AR, cR, hR_, hcell_, _, _⟩ := SA_row2 HSX.out i HLI.out
        rw [HRD2.out] at hR_ hcell_
        have HRC : Aside0 (wr.drew.cell? ⟨g, i * 15 + 13, none⟩ = some (.slice AR y2.f2.length cR)) := ⟨hcell_⟩
        clear hR_ hcell_
        refine start_ (n := 15) (S := fun w' => w'.cell? ⟨Mg43, 0, none⟩ = some (.slice (some ⟨g, 0, none⟩) B.all.length c0) ∧ w'.cell? ⟨g, i * 15 + 13, none⟩ = some (.slice AR y2.f2.length cR)) (ds := [14]) #[false, false, false, false, false, false, false, false, false, false, false, false, false, false, false] (by kernel_rfl) rfl rfl ⟨(blk_cell (blk_drew HLU.out) 0).trans rfl, HRC.out⟩ (fun hHeld => ?_); refine with_tabW shipR.tab13 shipR.bits13 (fun HT_ HW_ => ?_)
        have MB88 := Aside0.mk (blk_drew HLB.out); have MB89 := Aside0.mk (blk_drew HLO.out); have MB90 := Aside0.mk (blk_drew HLU.out); have MH91 := Aside0.mk (below_drew1 HLH.out); have HSA6 := Aside0.mk (Kd.S_drew HSX.out); generalize wr.drew = Mw86 at MB88 MB89 MB90 MH91 HSA6 hHeld ⊢; obtain ⟨oki, AR_, cR_, hR_, hcell_, hoki_, hback_⟩ := SA_row2 HSA6.out i HLI.out; rw [HRD2.out] at hR_ hcell_ hback_; obtain ⟨e1_, e2_⟩ : AR = AR_ ∧ cR = cR_ := (by have h_ := hcell_.symm.trans hHeld.2; injection h_ with h_; injection h_ with a_ _ b_; exact ⟨a_.symm, b_.symm⟩); subst e1_ e2_; have HRW4 := Aside0.mk hR_; have HOKI := Aside0.mk hoki_; have HBACK : Aside0 (∀ {w3 : World} {v' : Value} {xs' : List Int}, Mw86.grownBy w3 (.slice AR y2.f2.length cR : Value).ownBlock → Kd.R (Kd.int .i64) 3 w3 w.heap.size (fun q => oki q ∨ Mw86.heap.size ≤ q) v' xs' → Kd.S k41a 41 (w3.setCell ⟨g, i * 15 + 13, none⟩ v') w.heap.size _ (.slice (some ⟨g, 0, none⟩) B.all.length c0) ((B.all.set i y2).set i { y2 with f2 := xs' })) := ⟨hback_⟩; clear hR_ hcell_ hoki_ hback_; obtain ⟨cl_, hcl_⟩ := Kd.S_typed HSA6.out g rfl; have HCL := Aside0.mk hcl_; clear hcl_; have hcell4 := hHeld.2
        refine pure_ (i := 0) (N := some 65) (v := ?_) (a' := ?_) #[true, false, false, false, false, false, false, false, false, false, false, false, false, false, false] rfl rfl (any_of HT_.out (by kernel_rfl)) (fun _ _ _ h => h) (Or.inl ⟨by rfl, ?_⟩) ?_ ?_
        rotate_left
        · intro w'
          go_simp
          with_reducible rfl
        rotate_left
        · simp only [Act.put, List.setIfInBounds_toArray, List.set_cons_zero, List.set_cons_succ, i64_w, i32_w]
          rfl
        refine pure_ (i := 2) (N := some 67) (v := ?_) (a' := ?_) #[true, false, true, false, false, false, false, false, false, false, false, false, false, false, false] rfl rfl (any_of HT_.out (by kernel_rfl)) (fun _ _ _ h => h) (Or.inl ⟨by rfl, ?_⟩) ?_ ?_
        rotate_left
        · intro w'
          go_simp
          with_reducible rfl
        rotate_left
        · simp only [Act.put, List.setIfInBounds_toArray, List.set_cons_zero, List.set_cons_succ, i64_w, i32_w]
          rfl
        refine pure_ (i := 3) (N := some 68) (v := ?_) (a' := ?_) #[true, false, true, true, false, false, false, false, false, false, false, false, false, false, false] rfl rfl (any_of HT_.out (by kernel_rfl)) (fun _ _ _ h => h) (Or.inl ⟨by rfl, ?_⟩) ?_ ?_
        rotate_left
        · intro w'
          go_simp
          with_reducible rfl
        rotate_left
        · simp only [Act.put, List.setIfInBounds_toArray, List.set_cons_zero, List.set_cons_succ, i64_w, i32_w]
          rfl
        refine pure_ (i := 5) (N := some 70) (v := ?_) (a' := ?_) #[true, false, true, true, false, true, false, false, false, false, false, false, false, false, false] rfl rfl (any_of HT_.out (by kernel_rfl)) (fun _ _ _ h => h) (Or.inl ⟨by rfl, ?_⟩) ?_ ?_
        rotate_left
        · intro w'
          go_simp
          with_reducible rfl
        rotate_left
        · simp only [Act.put, List.setIfInBounds_toArray, List.set_cons_zero, List.set_cons_succ, i64_w, i32_w]
          rfl
        refine pure_ (i := 9) (N := some 74) (v := ?_) (a' := ?_) #[true, false, true, true, false, true, false, false, false, true, false, false, false, false, false] rfl rfl (any_of HT_.out (by kernel_rfl)) (fun _ _ _ h => h) (Or.inl ⟨by rfl, ?_⟩) ?_ ?_
        rotate_left
        · intro w'
          go_simp
          with_reducible rfl
        rotate_left
        · simp only [Act.put, List.setIfInBounds_toArray, List.set_cons_zero, List.set_cons_succ, i64_w, i32_w]
          rfl
        refine take_ (i := 1) (N := some 66) (v := ?_) (a' := ?_) #[true, true, true, true, false, true, false, false, false, true, false, false, false, false, false] rfl rfl (take_ofW HT_.out HW_.out (by kernel_rfl)) (fun _ _ _ h => h) (Or.inl ⟨by rfl, ?_⟩) hHeld ?_ ?_
        rotate_left
        · rintro w' ⟨s0, s1⟩
          go_simp
          with_reducible rfl
        rotate_left
        · simp only [Act.put, List.setIfInBounds_toArray, List.set_cons_zero, List.set_cons_succ, i64_w, i32_w]
          rfl
        refine take_ (i := 4) (N := some 69) (v := ?_) (a' := ?_) #[true, true, true, true, true, true, false, false, false, true, false, false, false, false, false] rfl rfl (take_ofW HT_.out HW_.out (by kernel_rfl)) (fun _ _ _ h => h) (Or.inl ⟨by rfl, ?_⟩) hHeld ?_ ?_
        rotate_left
        · rintro w' ⟨s0, s1⟩
          go_simp
          with_reducible rfl
        rotate_left
        · simp only [Act.put, List.setIfInBounds_toArray, List.set_cons_zero, List.set_cons_succ, i64_w, i32_w]
          rfl
        refine pure_ (i := 6) (N := some 71) (v := ?_) (a' := ?_) #[true, true, true, true, true, true, true, false, false, true, false, false, false, false, false] rfl rfl (any_of HT_.out (by kernel_rfl)) (fun _ _ _ h => h) (Or.inl ⟨by rfl, ?_⟩) ?_ ?_
        rotate_left
        · intro w'
          go_simp
          with_reducible rfl
        rotate_left
        · simp only [Act.put, List.setIfInBounds_toArray, List.set_cons_zero, List.set_cons_succ, i64_w, i32_w]
          rfl
        refine pure_ (i := 7) (N := some 72) (v := ?_) (a' := ?_) #[true, true, true, true, true, true, true, true, false, true, false, false, false, false, false] rfl rfl (any_of HT_.out (by kernel_rfl)) (fun _ _ _ h => h) (Or.inl ⟨by rfl, ?_⟩) ?_ ?_
        rotate_left
        · intro w'
          go_simp
          with_reducible rfl
        rotate_left
        · simp only [Act.put, List.setIfInBounds_toArray, List.set_cons_zero, List.set_cons_succ, i64_w, i32_w]
          rfl
        refine take_ (i := 8) (N := some 73) (v := ?_) (a' := ?_) #[true, true, true, true, true, true, true, true, true, true, false, false, false, false, false] rfl rfl (take_ofW HT_.out HW_.out (by kernel_rfl)) (fun _ _ _ h => h) (Or.inl ⟨by rfl, ?_⟩) hHeld ?_ ?_
        rotate_left
        · rintro w' ⟨s0, s1⟩
          go_simp
          with_reducible rfl
        rotate_left
        · simp only [Act.put, List.setIfInBounds_toArray, List.set_cons_zero, List.set_cons_succ, i64_w, i32_w]
          rfl
        refine one_ (i := 10) (N := some 75) #[true, true, true, true, true, true, true, true, true, true, true, false, false, false, false] rfl rfl (one_of HT_.out (by kernel_rfl)) (by decide) (fun K hK => ?_)
        refine value_ (w1 := ?_) (v := ?_) (by rfl) rfl ?_ ?_
        rotate_left 2
        · go_simp
          constructor
          · rfl
          · rfl
        refine hK.out _ _ ⟨(World.cell?_alloc_lt _ _ _ (World.block_lt_of_cell? _ _ (hHeld.1))).trans (hHeld.1), (World.cell?_alloc_lt _ _ _ (World.block_lt_of_cell? _ _ (hHeld.2))).trans (hHeld.2)⟩ (fun hHeld => ?_)
        clear hK K
        refine norm_ (a' := ?_) ?_ ?_
        rotate_left
        · show Act.put _ (some 75) _ = _
          simp only [Act.put, List.setIfInBounds_toArray, List.set_cons_zero, List.set_cons_succ, i64_w, i32_w]
          rfl
        refine one_ (i := 11) (N := some 76) #[true, true, true, true, true, true, true, true, true, true, true, true, false, false, false] rfl rfl (one_of HT_.out (by kernel_rfl)) (by decide) (fun K hK => ?_)
        refine Kd.R_append_step (Kd.int .i64) (w0 := Mw86) w.heap.size (by rfl) (.tmp 73) (.tmp 75) 39 3 (.int .i64 0) 8 rfl Try.underlying39 info3 rfl (by decide) (by omega) (.slice AR y2.f2.length cR) y2.f2 r [.int .i64 r] (fun q => oki q ∨ Mw86.heap.size ≤ q) (fun _ => False) rfl (by first | (go_simp; done) | (go_simp; rfl)) ?aP (fun _ hk => hk.elim) (fun _ hk => .inr hk) (Kd.R_mono HRW4.out (fun _ hk => .inl hk)) (Below.refl _ _) (below_size MH91.out) ?aL ?_
        (case aP => exact rfl)
        (case aL => have h1_ := HFW.out; have h2_ := HRL.out; omega)
        intro va w9 ho hb hg hat
        have HO9 := Aside0.mk ho
        have HG9 := Aside0.mk hg
        obtain ⟨A9, c9, e9⟩ := Kd.R_slice ho
        rw [List.length_append, List.length_singleton] at e9
        subst e9
        have hgn_ : some g ≠ (.slice AR y2.f2.length cR : Value).ownBlock := fun e_ => ((HOKI.out g (HRW4.out.1 g e_.symm)).2 rfl)
        skip
        have hxf : w9.cell? ⟨g, i * 15 + 13, none⟩ = some (.slice AR y2.f2.length cR) := (blk_cell (blk_grown HCL.out hg hgn_) _).trans ((blk_cell HCL.out _).symm.trans hcell4)
        have hff := blk_frozen (blk_grown HCL.out hg hgn_) (i * 15 + 13)
        refine hK.out _ _ ⟨(blk_cell (blk_grown MB90.out hg (fun e_ => by have h1_ := HRW4.out; obtain ⟨cl2_, h2_⟩ := Kd.R_typed h1_ _ e_.symm; have h3_ := MB90.out; rw [h2_] at h3_; simp at h3_)) 0).trans rfl, hxf⟩ (fun hHeld => ?_)
        clear hK K
        refine norm_ (a' := ?_) ?_ ?_
        rotate_left
        · show Act.put _ (some 76) _ = _
          simp only [Act.put, List.setIfInBounds_toArray, List.set_cons_zero, List.set_cons_succ, i64_w, i32_w]
          rfl
        refine pure_ (i := 12) (N := some 77) (v := ?_) (a' := ?_) #[true, true, true, true, true, true, true, true, true, true, true, true, true, false, false] rfl rfl (any_of HT_.out (by kernel_rfl)) (fun _ _ _ h => h) (Or.inl ⟨by rfl, ?_⟩) ?_ ?_
        rotate_left
        · intro w'
          go_simp
          with_reducible rfl
        rotate_left
        · simp only [Act.put, List.setIfInBounds_toArray, List.set_cons_zero, List.set_cons_succ, i64_w, i32_w]
          rfl
        refine pure_ (i := 13) (N := some 78) (v := ?_) (a' := ?_) #[true, true, true, true, true, true, true, true, true, true, true, true, true, true, false] rfl rfl (any_of HT_.out (by kernel_rfl)) (fun _ _ _ h => h) (Or.inl ⟨by rfl, ?_⟩) ?_ ?_
        rotate_left
        · intro w'
          go_simp
          with_reducible rfl
        rotate_left
        · simp only [Act.put, List.setIfInBounds_toArray, List.set_cons_zero, List.set_cons_succ, i64_w, i32_w]
          rfl
        refine last_ (i := 14) (N := none) #[true, true, true, true, true, true, true, true, true, true, true, true, true, true, true] rfl rfl (one_of HT_.out (by kernel_rfl)) (by decide) (fun K hK => ?_)
        refine skip_ (w1 := ?_) (by rfl) rfl ?_ ?_
        rotate_left
        · go_simp
          rfl
        refine hK.out _ _ ?_
        clear hK K
        refine done_ (done_of HT_.out (by kernel_rfl)) ?_
        have hty_ := hcell4
        clear hty_
        have MB92 := Aside0.mk (blk_far (p := ⟨g, i * 15 + 13, none⟩) (blk_grown MB89.out HG9.out (fun e_ => by have h1_ := HRW4.out; obtain ⟨cl2_, h2_⟩ := Kd.R_typed h1_ _ e_.symm; have h3_ := MB89.out; rw [h2_] at h3_; simp at h3_)) (show Mg8 ≠ g from fun e_ => by have h1_ := HCL.out; have h2_ := MB89.out; rw [e_] at h2_; rw [h1_] at h2_; simp at h2_) (.slice A9 (y2.f2.length + 1) c9))
        have MB93 := Aside0.mk (blk_far (p := ⟨g, i * 15 + 13, none⟩) (blk_grown MB90.out HG9.out (fun e_ => by have h1_ := HRW4.out; obtain ⟨cl2_, h2_⟩ := Kd.R_typed h1_ _ e_.symm; have h3_ := MB90.out; rw [h2_] at h3_; simp at h3_)) (show Mg43 ≠ g from fun e_ => by have h1_ := HCL.out; have h2_ := MB90.out; rw [e_] at h2_; rw [h1_] at h2_; simp at h2_) (.slice A9 (y2.f2.length + 1) c9))
        have MB94 := Aside0.mk (blk_far (p := ⟨g, i * 15 + 13, none⟩) (blk_grown MB88.out HG9.out (fun e_ => by have h1_ := HRW4.out; obtain ⟨cl2_, h2_⟩ := Kd.R_typed h1_ _ e_.symm; have h3_ := MB88.out; rw [h2_] at h3_; simp at h3_)) (show Mg1 ≠ g from fun e_ => by have h1_ := HCL.out; have h2_ := MB88.out; rw [e_] at h2_; rw [h1_] at h2_; simp at h2_) (.slice A9 (y2.f2.length + 1) c9))
        have HSA8 := Aside0.mk (Kd.S_mono (ok' := fun k => n0 ≤ k) (HBACK.out HG9.out HO9.out) (fun k hk => hk.elim (fun q => q) (fun q => by have h1_ := HGN.out; have h2_ := blk_lt HCL.out; omega)))
        have MH95 : Aside0 (Below w.heap.size w (w9.setCell ⟨g, i * 15 + 13, none⟩ (.slice A9 (y2.f2.length + 1) c9))) := ⟨below_set (MH91.out.grown HG9.out (below_size MH91.out) (fun k hk => Kd.R_base HRW4.out k hk)) HGE.out⟩
        clear MB88 MB89 MB90 MH91 HSA6 HBACK HCL HG9 HO9 HRW4 HOKI HRC hxf hff hgn_ hcell4 hHeld
        generalize (w9.setCell ⟨g, i * 15 + 13, none⟩ (.slice A9 (y2.f2.length + 1) c9)) = Mw87 at MB92 MB93 MB94 HSA8 MH95 ⊢
        have Mx96 : Mw87.cell? ⟨Mg1, 0, none⟩ = some (.slice (some ad) B.all.length c) := (blk_cell MB94.out 0).trans rfl
        have Mz97 := blk_frozen MB94.out 0
        have Mx98 : Mw87.cell? ⟨Mg8, 0, none⟩ = some (.slice none 0 0) := (blk_cell MB92.out 0).trans rfl
        have Mz99 := blk_frozen MB92.out 0
        have Mx100 : Mw87.cell? ⟨Mg43, 0, none⟩ = some (.slice (some ⟨g, 0, none⟩) B.all.length c0) := (blk_cell MB93.out 0).trans rfl
        have Mz101 := blk_frozen MB93.out 0
        have f12 := pw_cell_below MH95.out HE12.out
        have f13 := pw_cell_below MH95.out HE13.out
        go_wp2_with fail
        go_roundg (y.f1.length - (kk + 1))
        case measure => omega
        case rel => exact ⟨kk + 1, by omega, by omega, by go_num, ⟨by have h_ := HSA8.out; rw [List.set_set, HY2.out] at h_; rw [HTK.out, hac.out]; exact h_⟩, MB94, MB92, MB93, MH95⟩
      · have hrb : (r == n) = false := beq_eq_false_iff_ne.2 hrn
        clear hrn
        cases hsh : decide (r ∈ y.f2) with
        | true =>
          have HSH := Aside0.mk hsh
          have hac : Aside0 (((y.f1.take kk ++ [r]).filter fun q => q == n || decide (q ∈ y.f2)) = ((y.f1.take kk).filter fun q => q == n || decide (q ∈ y.f2)) ++ [r]) := ⟨by rw [List.filter_append, List.filter_cons, if_pos (by rw [hrb, HSH.out]; rfl)]; rfl⟩
          clear hsh
          go_wp2_with (first | (go_at_call 67; refine (hasR_calls y.f2 HFW.out.2 r _ (Kd.C_below HR2.out.2 HLH.out) HR2.out.1).mono ?_; rw [HSH.out]; rintro e Mw86 ⟨rfl, hb_⟩; have HSA6 := Aside0.mk (Kd.S_below HSL.out hb_); have MB87 := Aside0.mk (blk_below HLB.out hb_); have MB88 := Aside0.mk (blk_below HLO.out hb_); have MB89 := Aside0.mk (blk_below HLU.out hb_); have MH90 := Aside0.mk (below_step HLH.out hb_); clear hb_; clear Mx80 Mz81 Mx82 Mz83 Mx84 Mz85; have Mx91 : Mw86.cell? ⟨Mg1, 0, none⟩ = some (.slice (some ad) B.all.length c) := (blk_cell MB87.out 0).trans rfl; have Mz92 := blk_frozen MB87.out 0; have Mx93 : Mw86.cell? ⟨Mg8, 0, none⟩ = some (.slice none 0 0) := (blk_cell MB88.out 0).trans rfl; have Mz94 := blk_frozen MB88.out 0; have Mx95 : Mw86.cell? ⟨Mg43, 0, none⟩ = some (.slice (some ⟨g, 0, none⟩) B.all.length c0) := (blk_cell MB89.out 0).trans rfl; have Mz96 := blk_frozen MB89.out 0; clear f12 f13; have f12 := pw_cell_below MH90.out HE12.out; have f13 := pw_cell_below MH90.out HE13.out))
          obtain ⟨y2, HY2⟩ : ∃ y2 : S41, Aside0 (y2 = { y with f2 := ((y.f1.take kk).filter fun q => q == n || decide (q ∈ y.f2)) }) := ⟨_, ⟨rfl⟩⟩
          have HLI : Aside0 (i < (B.all.set i y2).length) := ⟨by rw [List.length_set]; exact hil⟩
          have HRD2 : Aside0 (rd_T41 (B.all.set i y2) (i : Int) = y2) := ⟨by unfold rd_T41; rw [Int.toNat_natCast, List.getD_eq_getElem?_getD, List.getElem?_set_self hil]; rfl⟩
          have HRL : Aside0 (y2.f2.length < 1000) := ⟨by rw [HY2.out]; show ((y.f1.take kk).filter fun q => q == n || decide (q ∈ y.f2)).length < 1000; have h1_ : ((y.f1.take kk).filter fun q => q == n || decide (q ∈ y.f2)).length ≤ (y.f1.take kk).length := List.length_filter_le _ _; have h2_ : (y.f1.take kk).length ≤ y.f1.length := (by rw [List.length_take]; omega); omega⟩
          have HSX : Aside0 (Kd.S k41a 41 _ w.heap.size (fun k => n0 ≤ k) _ (B.all.set i y2)) := ⟨by rw [HY2.out]; exact HSA6.out⟩
          clear Mx91 Mz92 Mx93 Mz94 Mx95 Mz96 f12 f13
          obtain ⟨_, AR, cR, hR_, hcell_, _, _⟩ := SA_row2 HSX.out i HLI.out
          rw [HRD2.out] at hR_ hcell_
          have HRC : Aside0 (Mw86.drew.cell? ⟨g, i * 15 + 13, none⟩ = some (.slice AR y2.f2.length cR)) := ⟨hcell_⟩
          clear hR_ hcell_
          refine start_ (n := 15) (S := fun w' => w'.cell? ⟨Mg43, 0, none⟩ = some (.slice (some ⟨g, 0, none⟩) B.all.length c0) ∧ w'.cell? ⟨g, i * 15 + 13, none⟩ = some (.slice AR y2.f2.length cR)) (ds := [14]) #[false, false, false, false, false, false, false, false, false, false, false, false, false, false, false] (by kernel_rfl) rfl rfl ⟨(blk_cell (blk_drew MB89.out) 0).trans rfl, HRC.out⟩ (fun hHeld => ?_); refine with_tabW shipR.tab13 shipR.bits13 (fun HT_ HW_ => ?_)
          have MB99 := Aside0.mk (blk_drew MB87.out); have MB100 := Aside0.mk (blk_drew MB88.out); have MB101 := Aside0.mk (blk_drew MB89.out); have MH102 := Aside0.mk (below_drew1 MH90.out); have HSA7 := Aside0.mk (Kd.S_drew HSX.out); generalize Mw86.drew = Mw97 at MB99 MB100 MB101 MH102 HSA7 hHeld ⊢; obtain ⟨oki, AR_, cR_, hR_, hcell_, hoki_, hback_⟩ := SA_row2 HSA7.out i HLI.out; rw [HRD2.out] at hR_ hcell_ hback_; obtain ⟨e1_, e2_⟩ : AR = AR_ ∧ cR = cR_ := (by have h_ := hcell_.symm.trans hHeld.2; injection h_ with h_; injection h_ with a_ _ b_; exact ⟨a_.symm, b_.symm⟩); subst e1_ e2_; have HRW4 := Aside0.mk hR_; have HOKI := Aside0.mk hoki_; have HBACK : Aside0 (∀ {w3 : World} {v' : Value} {xs' : List Int}, Mw97.grownBy w3 (.slice AR y2.f2.length cR : Value).ownBlock → Kd.R (Kd.int .i64) 3 w3 w.heap.size (fun q => oki q ∨ Mw97.heap.size ≤ q) v' xs' → Kd.S k41a 41 (w3.setCell ⟨g, i * 15 + 13, none⟩ v') w.heap.size _ (.slice (some ⟨g, 0, none⟩) B.all.length c0) ((B.all.set i y2).set i { y2 with f2 := xs' })) := ⟨hback_⟩; clear hR_ hcell_ hoki_ hback_; obtain ⟨cl_, hcl_⟩ := Kd.S_typed HSA7.out g rfl; have HCL := Aside0.mk hcl_; clear hcl_; have hcell4 := hHeld.2
          refine pure_ (i := 0) (N := some 65) (v := ?_) (a' := ?_) #[true, false, false, false, false, false, false, false, false, false, false, false, false, false, false] rfl rfl (any_of HT_.out (by kernel_rfl)) (fun _ _ _ h => h) (Or.inl ⟨by rfl, ?_⟩) ?_ ?_
          rotate_left
          · intro w'
            go_simp
            with_reducible rfl
          rotate_left
          · simp only [Act.put, List.setIfInBounds_toArray, List.set_cons_zero, List.set_cons_succ, i64_w, i32_w]
            rfl
          refine pure_ (i := 2) (N := some 67) (v := ?_) (a' := ?_) #[true, false, true, false, false, false, false, false, false, false, false, false, false, false, false] rfl rfl (any_of HT_.out (by kernel_rfl)) (fun _ _ _ h => h) (Or.inl ⟨by rfl, ?_⟩) ?_ ?_
          rotate_left
          · intro w'
            go_simp
            with_reducible rfl
          rotate_left
          · simp only [Act.put, List.setIfInBounds_toArray, List.set_cons_zero, List.set_cons_succ, i64_w, i32_w]
            rfl
          refine pure_ (i := 3) (N := some 68) (v := ?_) (a' := ?_) #[true, false, true, true, false, false, false, false, false, false, false, false, false, false, false] rfl rfl (any_of HT_.out (by kernel_rfl)) (fun _ _ _ h => h) (Or.inl ⟨by rfl, ?_⟩) ?_ ?_
          rotate_left
          · intro w'
            go_simp
            with_reducible rfl
          rotate_left
          · simp only [Act.put, List.setIfInBounds_toArray, List.set_cons_zero, List.set_cons_succ, i64_w, i32_w]
            rfl
          refine pure_ (i := 5) (N := some 70) (v := ?_) (a' := ?_) #[true, false, true, true, false, true, false, false, false, false, false, false, false, false, false] rfl rfl (any_of HT_.out (by kernel_rfl)) (fun _ _ _ h => h) (Or.inl ⟨by rfl, ?_⟩) ?_ ?_
          rotate_left
          · intro w'
            go_simp
            with_reducible rfl
          rotate_left
          · simp only [Act.put, List.setIfInBounds_toArray, List.set_cons_zero, List.set_cons_succ, i64_w, i32_w]
            rfl
          refine pure_ (i := 9) (N := some 74) (v := ?_) (a' := ?_) #[true, false, true, true, false, true, false, false, false, true, false, false, false, false, false] rfl rfl (any_of HT_.out (by kernel_rfl)) (fun _ _ _ h => h) (Or.inl ⟨by rfl, ?_⟩) ?_ ?_
          rotate_left
          · intro w'
            go_simp
            with_reducible rfl
          rotate_left
          · simp only [Act.put, List.setIfInBounds_toArray, List.set_cons_zero, List.set_cons_succ, i64_w, i32_w]
            rfl
          refine take_ (i := 1) (N := some 66) (v := ?_) (a' := ?_) #[true, true, true, true, false, true, false, false, false, true, false, false, false, false, false] rfl rfl (take_ofW HT_.out HW_.out (by kernel_rfl)) (fun _ _ _ h => h) (Or.inl ⟨by rfl, ?_⟩) hHeld ?_ ?_
          rotate_left
          · rintro w' ⟨s0, s1⟩
            go_simp
            with_reducible rfl
          rotate_left
          · simp only [Act.put, List.setIfInBounds_toArray, List.set_cons_zero, List.set_cons_succ, i64_w, i32_w]
            rfl
          refine take_ (i := 4) (N := some 69) (v := ?_) (a' := ?_) #[true, true, true, true, true, true, false, false, false, true, false, false, false, false, false] rfl rfl (take_ofW HT_.out HW_.out (by kernel_rfl)) (fun _ _ _ h => h) (Or.inl ⟨by rfl, ?_⟩) hHeld ?_ ?_
          rotate_left
          · rintro w' ⟨s0, s1⟩
            go_simp
            with_reducible rfl
          rotate_left
          · simp only [Act.put, List.setIfInBounds_toArray, List.set_cons_zero, List.set_cons_succ, i64_w, i32_w]
            rfl
          refine pure_ (i := 6) (N := some 71) (v := ?_) (a' := ?_) #[true, true, true, true, true, true, true, false, false, true, false, false, false, false, false] rfl rfl (any_of HT_.out (by kernel_rfl)) (fun _ _ _ h => h) (Or.inl ⟨by rfl, ?_⟩) ?_ ?_
          rotate_left
          · intro w'
            go_simp
            with_reducible rfl
          rotate_left
          · simp only [Act.put, List.setIfInBounds_toArray, List.set_cons_zero, List.set_cons_succ, i64_w, i32_w]
            rfl
          refine pure_ (i := 7) (N := some 72) (v := ?_) (a' := ?_) #[true, true, true, true, true, true, true, true, false, true, false, false, false, false, false] rfl rfl (any_of HT_.out (by kernel_rfl)) (fun _ _ _ h => h) (Or.inl ⟨by rfl, ?_⟩) ?_ ?_
          rotate_left
          · intro w'
            go_simp
            with_reducible rfl
          rotate_left
          · simp only [Act.put, List.setIfInBounds_toArray, List.set_cons_zero, List.set_cons_succ, i64_w, i32_w]
            rfl
          refine take_ (i := 8) (N := some 73) (v := ?_) (a' := ?_) #[true, true, true, true, true, true, true, true, true, true, false, false, false, false, false] rfl rfl (take_ofW HT_.out HW_.out (by kernel_rfl)) (fun _ _ _ h => h) (Or.inl ⟨by rfl, ?_⟩) hHeld ?_ ?_
          rotate_left
          · rintro w' ⟨s0, s1⟩
            go_simp
            with_reducible rfl
          rotate_left
          · simp only [Act.put, List.setIfInBounds_toArray, List.set_cons_zero, List.set_cons_succ, i64_w, i32_w]
            rfl
          refine one_ (i := 10) (N := some 75) #[true, true, true, true, true, true, true, true, true, true, true, false, false, false, false] rfl rfl (one_of HT_.out (by kernel_rfl)) (by decide) (fun K hK => ?_)
          refine value_ (w1 := ?_) (v := ?_) (by rfl) rfl ?_ ?_
          rotate_left 2
          · go_simp
            constructor
            · rfl
            · rfl
          refine hK.out _ _ ⟨(World.cell?_alloc_lt _ _ _ (World.block_lt_of_cell? _ _ (hHeld.1))).trans (hHeld.1), (World.cell?_alloc_lt _ _ _ (World.block_lt_of_cell? _ _ (hHeld.2))).trans (hHeld.2)⟩ (fun hHeld => ?_)
          clear hK K
          refine norm_ (a' := ?_) ?_ ?_
          rotate_left
          · show Act.put _ (some 75) _ = _
            simp only [Act.put, List.setIfInBounds_toArray, List.set_cons_zero, List.set_cons_succ, i64_w, i32_w]
            rfl
          refine one_ (i := 11) (N := some 76) #[true, true, true, true, true, true, true, true, true, true, true, true, false, false, false] rfl rfl (one_of HT_.out (by kernel_rfl)) (by decide) (fun K hK => ?_)
          refine Kd.R_append_step (Kd.int .i64) (w0 := Mw97) w.heap.size (by rfl) (.tmp 73) (.tmp 75) 39 3 (.int .i64 0) 8 rfl Try.underlying39 info3 rfl (by decide) (by omega) (.slice AR y2.f2.length cR) y2.f2 r [.int .i64 r] (fun q => oki q ∨ Mw97.heap.size ≤ q) (fun _ => False) rfl (by first | (go_simp; done) | (go_simp; rfl)) ?aP (fun _ hk => hk.elim) (fun _ hk => .inr hk) (Kd.R_mono HRW4.out (fun _ hk => .inl hk)) (Below.refl _ _) (below_size MH102.out) ?aL ?_
          (case aP => exact rfl)
          (case aL => have h1_ := HFW.out; have h2_ := HRL.out; omega)
          intro va w9 ho hb hg hat
          have HO9 := Aside0.mk ho
          have HG9 := Aside0.mk hg
          obtain ⟨A9, c9, e9⟩ := Kd.R_slice ho
          rw [List.length_append, List.length_singleton] at e9
          subst e9
          have hgn_ : some g ≠ (.slice AR y2.f2.length cR : Value).ownBlock := fun e_ => ((HOKI.out g (HRW4.out.1 g e_.symm)).2 rfl)
          skip
          have hxf : w9.cell? ⟨g, i * 15 + 13, none⟩ = some (.slice AR y2.f2.length cR) := (blk_cell (blk_grown HCL.out hg hgn_) _).trans ((blk_cell HCL.out _).symm.trans hcell4)
          have hff := blk_frozen (blk_grown HCL.out hg hgn_) (i * 15 + 13)
          refine hK.out _ _ ⟨(blk_cell (blk_grown MB101.out hg (fun e_ => by have h1_ := HRW4.out; obtain ⟨cl2_, h2_⟩ := Kd.R_typed h1_ _ e_.symm; have h3_ := MB101.out; rw [h2_] at h3_; simp at h3_)) 0).trans rfl, hxf⟩ (fun hHeld => ?_)
          clear hK K
          refine norm_ (a' := ?_) ?_ ?_
          rotate_left
          · show Act.put _ (some 76) _ = _
            simp only [Act.put, List.setIfInBounds_toArray, List.set_cons_zero, List.set_cons_succ, i64_w, i32_w]
            rfl
          refine pure_ (i := 12) (N := some 77) (v := ?_) (a' := ?_) #[true, true, true, true, true, true, true, true, true, true, true, true, true, false, false] rfl rfl (any_of HT_.out (by kernel_rfl)) (fun _ _ _ h => h) (Or.inl ⟨by rfl, ?_⟩) ?_ ?_
          rotate_left
          · intro w'
            go_simp
            with_reducible rfl
          rotate_left
          · simp only [Act.put, List.setIfInBounds_toArray, List.set_cons_zero, List.set_cons_succ, i64_w, i32_w]
            rfl
          refine pure_ (i := 13) (N := some 78) (v := ?_) (a' := ?_) #[true, true, true, true, true, true, true, true, true, true, true, true, true, true, false] rfl rfl (any_of HT_.out (by kernel_rfl)) (fun _ _ _ h => h) (Or.inl ⟨by rfl, ?_⟩) ?_ ?_
          rotate_left
          · intro w'
            go_simp
            with_reducible rfl
          rotate_left
          · simp only [Act.put, List.setIfInBounds_toArray, List.set_cons_zero, List.set_cons_succ, i64_w, i32_w]
            rfl
          refine last_ (i := 14) (N := none) #[true, true, true, true, true, true, true, true, true, true, true, true, true, true, true] rfl rfl (one_of HT_.out (by kernel_rfl)) (by decide) (fun K hK => ?_)
          refine skip_ (w1 := ?_) (by rfl) rfl ?_ ?_
          rotate_left
          · go_simp
            rfl
          refine hK.out _ _ ?_
          clear hK K
          refine done_ (done_of HT_.out (by kernel_rfl)) ?_
          have hty_ := hcell4
          clear hty_
          have MB103 := Aside0.mk (blk_far (p := ⟨g, i * 15 + 13, none⟩) (blk_grown MB100.out HG9.out (fun e_ => by have h1_ := HRW4.out; obtain ⟨cl2_, h2_⟩ := Kd.R_typed h1_ _ e_.symm; have h3_ := MB100.out; rw [h2_] at h3_; simp at h3_)) (show Mg8 ≠ g from fun e_ => by have h1_ := HCL.out; have h2_ := MB100.out; rw [e_] at h2_; rw [h1_] at h2_; simp at h2_) (.slice A9 (y2.f2.length + 1) c9))
          have MB104 := Aside0.mk (blk_far (p := ⟨g, i * 15 + 13, none⟩) (blk_grown MB101.out HG9.out (fun e_ => by have h1_ := HRW4.out; obtain ⟨cl2_, h2_⟩ := Kd.R_typed h1_ _ e_.symm; have h3_ := MB101.out; rw [h2_] at h3_; simp at h3_)) (show Mg43 ≠ g from fun e_ => by have h1_ := HCL.out; have h2_ := MB101.out; rw [e_] at h2_; rw [h1_] at h2_; simp at h2_) (.slice A9 (y2.f2.length + 1) c9))
          have MB105 := Aside0.mk (blk_far (p := ⟨g, i * 15 + 13, none⟩) (blk_grown MB99.out HG9.out (fun e_ => by have h1_ := HRW4.out; obtain ⟨cl2_, h2_⟩ := Kd.R_typed h1_ _ e_.symm; have h3_ := MB99.out; rw [h2_] at h3_; simp at h3_)) (show Mg1 ≠ g from fun e_ => by have h1_ := HCL.out; have h2_ := MB99.out; rw [e_] at h2_; rw [h1_] at h2_; simp at h2_) (.slice A9 (y2.f2.length + 1) c9))
          have HSA9 := Aside0.mk (Kd.S_mono (ok' := fun k => n0 ≤ k) (HBACK.out HG9.out HO9.out) (fun k hk => hk.elim (fun q => q) (fun q => by have h1_ := HGN.out; have h2_ := blk_lt HCL.out; omega)))
          have MH106 : Aside0 (Below w.heap.size w (w9.setCell ⟨g, i * 15 + 13, none⟩ (.slice A9 (y2.f2.length + 1) c9))) := ⟨below_set (MH102.out.grown HG9.out (below_size MH102.out) (fun k hk => Kd.R_base HRW4.out k hk)) HGE.out⟩
          clear MB99 MB100 MB101 MH102 HSA7 HBACK HCL HG9 HO9 HRW4 HOKI HRC hxf hff hgn_ hcell4 hHeld
          generalize (w9.setCell ⟨g, i * 15 + 13, none⟩ (.slice A9 (y2.f2.length + 1) c9)) = Mw98 at MB103 MB104 MB105 HSA9 MH106 ⊢
          have Mx107 : Mw98.cell? ⟨Mg1, 0, none⟩ = some (.slice (some ad) B.all.length c) := (blk_cell MB105.out 0).trans rfl
          have Mz108 := blk_frozen MB105.out 0
          have Mx109 : Mw98.cell? ⟨Mg8, 0, none⟩ = some (.slice none 0 0) := (blk_cell MB103.out 0).trans rfl
          have Mz110 := blk_frozen MB103.out 0
          have Mx111 : Mw98.cell? ⟨Mg43, 0, none⟩ = some (.slice (some ⟨g, 0, none⟩) B.all.length c0) := (blk_cell MB104.out 0).trans rfl
          have Mz112 := blk_frozen MB104.out 0
          have f12 := pw_cell_below MH106.out HE12.out
          have f13 := pw_cell_below MH106.out HE13.out
          go_wp2_with fail
          go_roundg (y.f1.length - (kk + 1))
          case measure => omega
          case rel => exact ⟨kk + 1, by omega, by omega, by go_num, ⟨by have h_ := HSA9.out; rw [List.set_set, HY2.out] at h_; rw [HTK.out, hac.out]; exact h_⟩, MB105, MB103, MB104, MH106⟩
        | false =>
          have HSH := Aside0.mk hsh
          have hac : Aside0 (((y.f1.take (kk + 1)).filter fun q => q == n || decide (q ∈ y.f2)) = ((y.f1.take kk).filter fun q => q == n || decide (q ∈ y.f2))) := ⟨by rw [HTK.out, List.filter_append, List.filter_cons, if_neg (by rw [hrb, HSH.out]; simp)]; simp⟩
          clear hsh
          go_wp2_with (first | (go_at_call 67; refine (hasR_calls y.f2 HFW.out.2 r _ (Kd.C_below HR2.out.2 HLH.out) HR2.out.1).mono ?_; rw [HSH.out]; rintro e Mw86 ⟨rfl, hb_⟩; have HSA6 := Aside0.mk (Kd.S_below HSL.out hb_); have MB87 := Aside0.mk (blk_below HLB.out hb_); have MB88 := Aside0.mk (blk_below HLO.out hb_); have MB89 := Aside0.mk (blk_below HLU.out hb_); have MH90 := Aside0.mk (below_step HLH.out hb_); clear hb_; clear Mx80 Mz81 Mx82 Mz83 Mx84 Mz85; have Mx91 : Mw86.cell? ⟨Mg1, 0, none⟩ = some (.slice (some ad) B.all.length c) := (blk_cell MB87.out 0).trans rfl; have Mz92 := blk_frozen MB87.out 0; have Mx93 : Mw86.cell? ⟨Mg8, 0, none⟩ = some (.slice none 0 0) := (blk_cell MB88.out 0).trans rfl; have Mz94 := blk_frozen MB88.out 0; have Mx95 : Mw86.cell? ⟨Mg43, 0, none⟩ = some (.slice (some ⟨g, 0, none⟩) B.all.length c0) := (blk_cell MB89.out 0).trans rfl; have Mz96 := blk_frozen MB89.out 0; clear f12 f13; have f12 := pw_cell_below MH90.out HE12.out; have f13 := pw_cell_below MH90.out HE13.out))
          go_wp2_with fail
          go_roundg (y.f1.length - (kk + 1))
          case measure => omega
          case rel => exact ⟨kk + 1, by omega, by omega, by go_num, ⟨by rw [hac.out]; exact HSA6.out⟩, MB87, MB88, MB89, MH90⟩
    · have hltz : ¬ (kk : Int) < (y.f1.length : Int) := by omega
      have hke : kk = y.f1.length := by omega
      subst hke
      rw [List.take_length] at HSL
      go_wp2_with fail
      have q := blk_full HLO.out [.slice (some ⟨g, 0, none⟩) B.all.length c0] rfl
      (try simp only [Exit.inBlock, Exit.then])
      refine bodyPost_ret (results_ct rfl _ _ Mg8 63 #[.slice (some ⟨g, 0, none⟩) B.all.length c0] (0, 0) _ rfl q.1 Try.underlying63 rfl (by kernel_rfl)) rfl ?_
      exact ⟨_, rfl, (by have h_ := Kd.V_mono (ok' := fun k => P k ∨ w.heap.size ≤ k) (Kd.V_grown (VA.1 (Kd.S_V (base' := w.heap.size) (Kd.S_bound HSL.out))) q.2 (fun k hk e => by injection e with e; exact HOG.out (e ▸ hk.1))) (fun k hk => .inr hk.2.1); skip; exact h_), HLH.out.grown q.2 (below_size HLH.out) (fun k hk => by cases hk; exact MG11.out)⟩
end Go.Proofs.Ythmhehfbepijgaa.Q
