import Derived.Test.YtpfilkfdnjbejaaBQ0
import Derived.Test.YtpfilkfdnjbejaaBQ1
import Derived.Test.YtpfilkfdnjbejaaBQ2
import Derived.Test.YtpfilkfdnjbejaaBQ3
import Derived.Test.YtpfilkfdnjbejaaBQ4
import Derived.Test.YtpfilkfdnjbejaaBQ5
import Derived.Test.YtpfilkfdnjbejaaBQ6
import Derived.Test.YtpfilkfdnjbejaaBQ7
import Derived.Test.YtpfilkfdnjbejaaBQ8
namespace Go.Proofs.Ytpfilkfdnjbejaa.Q
open Go.RowKit Go.Proofs.YtpfilkfdnjbejaaW.PrintWords Go.Proofs.YtpfilkfdnjbejaaW.PrintLast Go.Proofs.YtpfilkfdnjbejaaW.PrintMore
attribute [local go_sem] max2_int min2_int max_two min_two max_three min_three max_four min_four
set_option linter.unusedVariables false
set_option linter.unusedSimpArgs false
section
variable {P : Program} {ops : Array Oper} {rest : List Oper} {o : Oper} {a : Act} {Q : Exit → Act → World → Prop} {W : World}
theorem row_event (hgd : o.guard = none) {ty : TypeId} {p : Tmp} {y : Operand} (ho : o.op = .store ty (.tmp p) y) (hN : o.dst = none) (g : Nat) (cells : Array Value) (hx : a.eval (.tmp p) = .pointer (some ⟨g, 0, none⟩)) (hy : a.eval y = .agg cells) (t : TypeId) (old : Array Value) (hg : W.heap[g]? = some (.cells old t (0, 0)))
    (hi : (P.info? ty).map (·.size) = some cells.size) (hold : old.size = cells.size) (h1 : cells.all (·.oneCell') = true) (h : ∀ w1, w1.heap[g]? = some (.cells cells t (0, 0)) → W.grownBy w1 (some g) → wpList P ops Q rest a w1) : wpList P ops Q (o :: rest) a W := by
  refine wpList_store_row hgd ty (.tmp p) y ho g cells hx hy t old hg hi hold h1 ?_
  rw [hN]
  refine h _ ?_ ⟨rfl, rfl, rfl, by simp [World.setRow], fun k _ hk => ?_⟩
  · simp [World.setRow, Array.getElem?_modify, hg]
  · have hk : ¬ g = k := fun e => hk (by rw [e])
    simp [World.setRow, Array.getElem?_modify, hk]
theorem build_event (hgd : o.guard = none) (t : TypeId) (parts : Array (Nat × Operand)) (ho : o.op = .build t parts) (cells : Array Value) (hf : P.built t (parts.map fun (i, x) => (i, a.eval x)).toList = some cells) (h : wpList P ops Q rest (a.put o.dst (.agg cells)) W) : wpList P ops Q (o :: rest) a W := by
  refine wpList_build hgd t parts ho (by rw [hf]; rfl) ?_
  rw [hf]
  exact h
end
theorem alloc29 (w : World) : (Instr.alloc 29 true (.tuple #[])).run Try.prog w = .ok (.pointer (some ⟨w.heap.size, 0, none⟩)) (w.alloc (.cells #[.int .i64 0, .int .i64 0, .int .i64 0, .int .i64 0, .int .i64 0, .int .i64 0, .int .i64 0, .int .i64 0, .int .i64 0, .int .i64 0, .int .i64 0, .int .i64 0, .int .i64 0, .int .i64 0, .int .i64 0, .int .i64 0, .int .i64 0, .int .i64 0, .int .i64 0] 29)) := by kernel_rfl
theorem alloc27 (w : World) : (Instr.alloc 27 true (.tuple #[])).run Try.prog w = .ok (.pointer (some ⟨w.heap.size, 0, none⟩)) (w.alloc (.cells #[.int .i64 0, .int .i64 0, .int .i64 0, .int .i64 0, .int .i64 0, .int .i64 0, .int .i64 0, .int .i64 0, .int .i64 0] 27)) := by kernel_rfl
def xq0 : S29 := ⟨⟨⟨0, 128, 8, 0, 1000, 1000⟩, ⟨256, 1, 0⟩⟩, ⟨⟨0, 128, 8, 0, 1000, 1000⟩, ⟨256, 1, 0⟩⟩, 0⟩
theorem rest100 : web_rest.f 30 0 128 8 0 1000 1000 256 1 0 100 = some (100, 100, 0) := by kernel_rfl
theorem rest50 : web_rest.f 30 0 128 8 0 1000 1000 256 1 0 50 = some (50, 50, 0) := by kernel_rfl
theorem quiet_rest : restW xq0 ⟨100, 50⟩ (100, 100, 0) (50, 50, 0) = (⟨⟨100, 50⟩, ⟨100, 50⟩⟩, 0) := by kernel_rfl
theorem quiet_run : runW xq0 ⟨⟨100, 50⟩, ⟨100, 50⟩⟩ [⟨200, 50⟩] [⟨0, 0⟩] = ([⟨150, 50⟩], 0) := by kernel_rfl
theorem quiet_lim : limW xq0 ⟨0, 1000⟩ ⟨3, 2⟩ = ((⟨-3, 1003⟩, ⟨-2, 1002⟩), 0) := by kernel_rfl
set_option maxHeartbeats 16000000 in
set_option maxRecDepth 100000 in
theorem loops_calls (w : World) : Calls Try.prog 8 #[] w fun e w' => e = .returned (.agg #[.int .i64 0, .int .i64 128, .int .i64 8, .int .i64 0, .int .i64 1000, .int .i64 1000, .int .i64 256, .int .i64 1, .int .i64 0, .int .i64 0, .int .i64 128, .int .i64 8, .int .i64 0, .int .i64 1000, .int .i64 1000, .int .i64 256, .int .i64 1, .int .i64 0, .int .i64 0]) ∧ Below w.heap.size w w' := by
  have hu29 := Try.underlying29
  have hu27 := Try.underlying27
  have hu23 := Try.underlying23
  have hu25 := Try.underlying25
  have HB := Aside0.mk (Below.refl w.heap.size w)
  go_enter Try.func8, Try.ntmps8
  go_wp2_with (first | ((with_reducible refine gate_dst (N := 0) rfl ?_); refine box_event ?hg (N := 0) ?hd (cs := #[.int .i64 0, .int .i64 0, .int .i64 0, .int .i64 0, .int .i64 0, .int .i64 0, .int .i64 0, .int .i64 0, .int .i64 0, .int .i64 0, .int .i64 0, .int .i64 0, .int .i64 0, .int .i64 0, .int .i64 0, .int .i64 0, .int .i64 0, .int .i64 0, .int .i64 0]) (t := 29) ?hr ?_; (case hd => rfl); (case hg => rfl); (case hr => exact alloc_hr rfl _ _ (alloc29 _)); intro Mg1 hg_ Mw2 hbox_ hb_; have MB3 := Aside0.mk hbox_; have MG4 : Aside0 (w.heap.size ≤ Mg1) := ⟨by rw [hg_]; exact below_size HB.out⟩; have MH5 := Aside0.mk (below_step HB.out hb_); clear hbox_ hb_ hg_) | ((with_reducible refine gate_dst (N := 2) rfl ?_); refine build_event rfl 23 #[(1, .const (.int .i64 128)), (2, .const (.int .i64 8)), (4, .const (.int .i64 1000)), (5, .const (.int .i64 1000))] rfl #[.int .i64 0, .int .i64 128, .int .i64 8, .int .i64 0, .int .i64 1000, .int .i64 1000] (by kernel_rfl) ?_) | ((with_reducible refine gate_dst (N := 3) rfl ?_); refine build_event rfl 25 #[(0, .const (.int .i64 256)), (1, .const (.int .i64 1))] rfl #[.int .i64 256, .int .i64 1, .int .i64 0] (by kernel_rfl) ?_) | ((with_reducible refine gate_dst (N := 4) rfl ?_); refine build_event rfl 27 #[(0, .tmp 2), (1, .tmp 3)] rfl #[.int .i64 0, .int .i64 128, .int .i64 8, .int .i64 0, .int .i64 1000, .int .i64 1000, .int .i64 256, .int .i64 1, .int .i64 0] (by kernel_rfl) ?_) | ((with_reducible refine gate_dst (N := 1) rfl ?_); refine box_event ?hg (N := 1) ?hd (cs := #[.int .i64 0, .int .i64 0, .int .i64 0, .int .i64 0, .int .i64 0, .int .i64 0, .int .i64 0, .int .i64 0, .int .i64 0]) (t := 27) ?hr ?_; (case hd => rfl); (case hg => rfl); (case hr => exact alloc_hr rfl _ _ (alloc27 _)); intro Mg6 hg_ Mw7 hbox_ hb_; have MB8 := Aside0.mk hbox_; have MG9 : Aside0 (w.heap.size ≤ Mg6) := ⟨by rw [hg_]; exact below_size MH5.out⟩; have MN10 : Aside0 (Mg1 ≠ Mg6) := ⟨by rw [hg_]; exact Nat.ne_of_lt (blk_lt MB3.out)⟩; have MB11 := Aside0.mk (blk_below MB3.out hb_); have MH12 := Aside0.mk (below_step MH5.out hb_); clear hbox_ hb_ hg_) | ((with_reducible refine gate_store (t := 27) (p := 1) rfl ?_); refine row_event rfl (p := 1) (y := .tmp 4) rfl rfl Mg6 #[.int .i64 0, .int .i64 128, .int .i64 8, .int .i64 0, .int .i64 1000, .int .i64 1000, .int .i64 256, .int .i64 1, .int .i64 0] rfl rfl 27 #[.int .i64 0, .int .i64 0, .int .i64 0, .int .i64 0, .int .i64 0, .int .i64 0, .int .i64 0, .int .i64 0, .int .i64 0] MB8.out (by kernel_rfl) rfl (by simp [Value.oneCell']) ?_; intro Mw13 hrow_ hgr_; have MB14 := Aside0.mk hrow_; have MB16 := Aside0.mk (blk_grown MB11.out hgr_ (fun e_ => MN10.out (Option.some.inj e_))); have MH17 := Aside0.mk (MH12.out.grown hgr_ MH12.out.size (fun k_ hk_ => by cases hk_; exact MG9.out)); clear hrow_ hgr_) | ((with_reducible refine gate_dst (N := 5) rfl ?_); refine wpList_load_seg rfl 27 (.tmp 1) rfl Mg6 0 rfl 27 #[.int .i64 0, .int .i64 128, .int .i64 8, .int .i64 0, .int .i64 1000, .int .i64 1000, .int .i64 256, .int .i64 1, .int .i64 0] (0, 0) _ MB14.out [.int .i64 0, .int .i64 128, .int .i64 8, .int .i64 0, .int .i64 1000, .int .i64 1000, .int .i64 256, .int .i64 1, .int .i64 0] rfl Try.underlying27 rfl (by kernel_rfl) ?_) | ((with_reducible refine gate_dst (N := 6) rfl ?_); refine wpList_load_seg rfl 27 (.tmp 1) rfl Mg6 0 rfl 27 #[.int .i64 0, .int .i64 128, .int .i64 8, .int .i64 0, .int .i64 1000, .int .i64 1000, .int .i64 256, .int .i64 1, .int .i64 0] (0, 0) _ MB14.out [.int .i64 0, .int .i64 128, .int .i64 8, .int .i64 0, .int .i64 1000, .int .i64 1000, .int .i64 256, .int .i64 1, .int .i64 0] rfl Try.underlying27 rfl (by kernel_rfl) ?_) | ((with_reducible refine gate_dst (N := 7) rfl ?_); refine build_event rfl 29 #[(0, .tmp 5), (1, .tmp 6)] rfl #[.int .i64 0, .int .i64 128, .int .i64 8, .int .i64 0, .int .i64 1000, .int .i64 1000, .int .i64 256, .int .i64 1, .int .i64 0, .int .i64 0, .int .i64 128, .int .i64 8, .int .i64 0, .int .i64 1000, .int .i64 1000, .int .i64 256, .int .i64 1, .int .i64 0, .int .i64 0] (by kernel_rfl) ?_) | ((with_reducible refine gate_store (t := 29) (p := 0) rfl ?_); refine row_event rfl (p := 0) (y := .tmp 7) rfl rfl Mg1 #[.int .i64 0, .int .i64 128, .int .i64 8, .int .i64 0, .int .i64 1000, .int .i64 1000, .int .i64 256, .int .i64 1, .int .i64 0, .int .i64 0, .int .i64 128, .int .i64 8, .int .i64 0, .int .i64 1000, .int .i64 1000, .int .i64 256, .int .i64 1, .int .i64 0, .int .i64 0] rfl rfl 29 #[.int .i64 0, .int .i64 0, .int .i64 0, .int .i64 0, .int .i64 0, .int .i64 0, .int .i64 0, .int .i64 0, .int .i64 0, .int .i64 0, .int .i64 0, .int .i64 0, .int .i64 0, .int .i64 0, .int .i64 0, .int .i64 0, .int .i64 0, .int .i64 0, .int .i64 0] MB16.out (by kernel_rfl) rfl (by simp [Value.oneCell']) ?_; intro Mw18 hrow_ hgr_; have MB19 := Aside0.mk hrow_; have MB21 := Aside0.mk (blk_grown MB14.out hgr_ (fun e_ => (Ne.symm MN10.out) (Option.some.inj e_))); have MH22 := Aside0.mk (MH17.out.grown hgr_ MH17.out.size (fun k_ hk_ => by cases hk_; exact MG4.out)); clear hrow_ hgr_))
  (try simp only [Exit.inBlock, Exit.then])
  refine bodyPost_ret (results_cell_row rfl _ _ Mg1 29 #[.int .i64 0, .int .i64 128, .int .i64 8, .int .i64 0, .int .i64 1000, .int .i64 1000, .int .i64 256, .int .i64 1, .int .i64 0, .int .i64 0, .int .i64 128, .int .i64 8, .int .i64 0, .int .i64 1000, .int .i64 1000, .int .i64 256, .int .i64 1, .int .i64 0, .int .i64 0] (0, 0) _ rfl MB19.out Try.underlying29 rfl (by kernel_rfl)) rfl ?_
  exact ⟨rfl, MH22.out⟩
theorem R_off {base g : Nat} {w : World} {ok : Nat → Prop} {v : Value} {xs : List S31} (h : Kd.R k31 31 w base ok v xs) (ne : ∀ k, v.ownBlock = some k → k ≠ g) : Kd.R k31 31 w base (fun k => ok k ∧ k ≠ g) v xs := ⟨fun k hk => ⟨h.1 k hk, ne k hk⟩, h.2⟩
theorem eqA31 (d : Nat) (w : World) (x0 y0 : Int) (x1 y1 : Int) :
    (Op.equalIn (d + 2) 31 (.agg #[.int .i64 x0, .int .i64 x1]) (.agg #[.int .i64 y0, .int .i64 y1])).run Try.prog w = .ok (x0 == y0 && (x1 == y1)) w := by
  refine eqA_of Try.underlying31 (by kernel_rfl) ?_
  refine eqf_cons (by rfl) (by go_simp; rfl) (by go_simp; rfl) (by go_simp) ?_
  exact eqf_last (by rfl) (by go_simp; rfl) (by go_simp; rfl) (by go_simp)
theorem eqA33 (d : Nat) (w : World) (x0 y0 : Int) (x1 y1 : Int) :
    (Op.equalIn (d + 2) 33 (.agg #[.int .i64 x0, .int .i64 x1]) (.agg #[.int .i64 y0, .int .i64 y1])).run Try.prog w = .ok (x0 == y0 && (x1 == y1)) w := by
  refine eqA_of Try.underlying33 (by kernel_rfl) ?_
  refine eqf_cons (by rfl) (by go_simp; rfl) (by go_simp; rfl) (by go_simp) ?_
  exact eqf_last (by rfl) (by go_simp; rfl) (by go_simp; rfl) (by go_simp)
attribute [local go_sem high] eqA31 eqA33
theorem QRest (w : World) : Calls Try.prog 5 #[.agg #[.int .i64 0, .int .i64 128, .int .i64 8, .int .i64 0, .int .i64 1000, .int .i64 1000, .int .i64 256, .int .i64 1, .int .i64 0, .int .i64 0, .int .i64 128, .int .i64 8, .int .i64 0, .int .i64 1000, .int .i64 1000, .int .i64 256, .int .i64 1, .int .i64 0, .int .i64 0], .agg #[.int .i64 100, .int .i64 50]] w fun e w' => e = .returned (.tuple #[.agg #[.int .i64 100, .int .i64 50, .int .i64 100, .int .i64 50], .int .i64 0]) ∧ Below w.heap.size w w' := by
  have q := WRest_calls 30 xq0 ⟨100, 50⟩ (100, 100, 0) (50, 50, 0) (fun _ => ⟨rest100, rest50⟩) w
  rw [quiet_rest] at q
  exact q
theorem QLim (w : World) : Calls Try.prog 6 #[.agg #[.int .i64 0, .int .i64 128, .int .i64 8, .int .i64 0, .int .i64 1000, .int .i64 1000, .int .i64 256, .int .i64 1, .int .i64 0, .int .i64 0, .int .i64 128, .int .i64 8, .int .i64 0, .int .i64 1000, .int .i64 1000, .int .i64 256, .int .i64 1, .int .i64 0, .int .i64 0], .agg #[.int .i64 0, .int .i64 1000], .agg #[.int .i64 3, .int .i64 2]] w fun e w' => e = .returned (.tuple #[.agg #[.int .i64 (-3), .int .i64 1003], .agg #[.int .i64 (-2), .int .i64 1002], .int .i64 0]) ∧ Below w.heap.size w w' := by
  have q := WLim_calls xq0 ⟨0, 1000⟩ ⟨3, 2⟩ w
  rw [quiet_lim] at q
  exact q
theorem QRun (A2 : Option Addr) (c2 : Nat) (A3 : Option Addr) (c3 : Nat) (w : World) (h2 : Kd.C k31 w A2 1 [⟨200, 50⟩]) (h3 : Kd.C k31 w A3 1 [⟨0, 0⟩]) : Calls Try.prog 7 #[.agg #[.int .i64 0, .int .i64 128, .int .i64 8, .int .i64 0, .int .i64 1000, .int .i64 1000, .int .i64 256, .int .i64 1, .int .i64 0, .int .i64 0, .int .i64 128, .int .i64 8, .int .i64 0, .int .i64 1000, .int .i64 1000, .int .i64 256, .int .i64 1, .int .i64 0, .int .i64 0], .agg #[.int .i64 100, .int .i64 50, .int .i64 100, .int .i64 50], .slice A2 1 c2, .slice A3 1 c3] w fun e w' => ∃ v0 : Value, e = .returned (.tuple #[v0, .int .i64 0]) ∧ Kd.R k31 31 w' w.heap.size (fun _ => True) v0 [⟨150, 50⟩] ∧ Below w.heap.size w w' := by
  have q := WRun_calls xq0 ⟨⟨100, 50⟩, ⟨100, 50⟩⟩ A2 c2 [⟨200, 50⟩] A3 c3 [⟨0, 0⟩] w h2 h3
  rw [quiet_run] at q
  exact q
def quietR.T4 : Bool × List (List Nat × List Nat) := (true, [([], []), ([], []), ([], []), ([2], [2]), ([], []), ([4], [4]), ([0, 1, 3, 5, 0], [0, 1, 3, 5]), ([6], [6]), ([7], [7]), ([7], [7]), ([8, 6, 0, 1, 2, 3, 4, 5, 6, 7, 8], [8]), ([9, 10, 0, 1, 2, 3, 4, 5, 6, 7, 8, 9, 10], [9])])
def quietR.B4 : List Nat := [0, 0, 0, 4, 0, 16, 63, 127, 255, 255, 511, 2047]
theorem quietR.tab4 : rtab .any (opsOf Try.f4 4) = quietR.T4 := by kernel_rfl
theorem quietR.bits4 : waitsOk quietR.T4.2 quietR.B4 = true := by kernel_rfl
set_option maxHeartbeats 16000000 in
set_option maxRecDepth 100000 in
theorem quiet_calls (w : World) : Calls Try.prog 4 #[] w fun e w' => e = .returned (.bool true) ∧ Below w.heap.size w w' := by
  have hu29 := Try.underlying29
  have hu37 := Try.underlying37
  have hu31 := Try.underlying31
  have hu33 := Try.underlying33
  have hu41 := Try.underlying41
  have hu3 := Try.underlying3
  have HB := Aside0.mk (Below.refl w.heap.size w)
  go_enter Try.func4, Try.ntmps4
  go_wp2_with (first | ((go_at_call 8); ((with_reducible refine (loops_calls _).mono ?_); rintro e Mw1 ⟨rfl, hb0_⟩; have hb_ := hb0_; clear hb0_; have MH2 := Aside0.mk (below_step HB.out hb_); clear hb_)) | ((go_at_call 5); ((with_reducible refine (QRest _).mono ?_); rintro e Mw3 ⟨rfl, hb0_⟩; have hb_ := hb0_; clear hb0_; have MH4 := Aside0.mk (below_step MH2.out hb_); clear hb_)) | ((with_reducible refine gate_dst (N := 1) rfl ?_); refine box_event ?hg (N := 1) ?hd (cs := #[.int .i64 0, .int .i64 0, .int .i64 0, .int .i64 0]) (t := 37) ?hr ?_; (case hd => rfl); (case hg => rfl); (case hr => exact alloc_hr rfl _ _ (alloc37 _)); intro Mg5 hg_ Mw6 hbox_ hb_; have MB7 := Aside0.mk hbox_; have MG8 : Aside0 (w.heap.size ≤ Mg5) := ⟨by rw [hg_]; exact below_size MH4.out⟩; have MH9 := Aside0.mk (below_step MH4.out hb_); clear hbox_ hb_ hg_; obtain ⟨Mx10, Mx11, Mx12, Mx13⟩ := bc4 MB7.out; have Mz14 := blk_frozen MB7.out 0; have Mz15 := blk_frozen MB7.out 1; have Mz16 := blk_frozen MB7.out 2; have Mz17 := blk_frozen MB7.out 3) | ((with_reducible refine gate_store (t := 37) (p := 1) rfl ?_); refine store_event (t := 37) (p := 1) (v := ?vo_Mw18) (w1 := ((((Mw6.setCell ⟨Mg5, 0, none⟩ (.int .i64 100)).setCell ⟨Mg5, 1, none⟩ (.int .i64 50)).setCell ⟨Mg5, 2, none⟩ (.int .i64 100)).setCell ⟨Mg5, 3, none⟩ (.int .i64 50))) ?hg ?ho ?hn ?hr ?_; (case ho => rfl); (case hg => rfl); (case hn => rfl); (case hr => first | (go_simp; done) | (go_simp; rfl)); intro Mw18 hw_; have MB19 : Aside0 (Mw18.heap[Mg5]? = some (.cells #[.int .i64 100, .int .i64 50, .int .i64 100, .int .i64 50] 37 (0, 0))) := ⟨by rw [hw_]; exact (blk_put (blk_put (blk_put (blk_put MB7.out 0 _ rfl) 1 _ rfl) 2 _ rfl) 3 _ rfl)⟩; have MH20 : Aside0 (Below w.heap.size w Mw18) := ⟨by rw [hw_]; exact (below_set (below_set (below_set (below_set MH9.out MG8.out) MG8.out) MG8.out) MG8.out)⟩; clear hw_; clear Mx10 Mx11 Mx12 Mx13 Mz14 Mz15 Mz16 Mz17; obtain ⟨Mx21, Mx22, Mx23, Mx24⟩ := bc4 MB19.out; have Mz25 := blk_frozen MB19.out 0; have Mz26 := blk_frozen MB19.out 1; have Mz27 := blk_frozen MB19.out 2; have Mz28 := blk_frozen MB19.out 3))
  clear Mx21 Mx22 Mx23 Mx24 Mz25 Mz26 Mz27 Mz28
  have HTa := MB19
  have HBa := MH20
  refine start_ (n := 12) (S := fun w' => w'.cell? ⟨Mg5, 0, none⟩ = some (.int .i64 100) ∧ w'.cell? ⟨Mg5, 1, none⟩ = some (.int .i64 50) ∧ w'.cell? ⟨Mg5, 2, none⟩ = some (.int .i64 100) ∧ w'.cell? ⟨Mg5, 3, none⟩ = some (.int .i64 50)) (ds := []) #[false, false, false, false, false, false, false, false, false, false, false, false] (by kernel_rfl) rfl rfl ⟨(blk_cell (blk_drew HTa.out) 0).trans rfl, (blk_cell (blk_drew HTa.out) 1).trans rfl, (blk_cell (blk_drew HTa.out) 2).trans rfl, (blk_cell (blk_drew HTa.out) 3).trans rfl⟩ (fun hHeld => ?_); refine with_tabW quietR.tab4 quietR.bits4 (fun HT_ HW_ => ?_)
  have HT0 := Aside0.mk (blk_drew HTa.out); have HB0 := Aside0.mk (below_drew1 HBa.out); generalize Mw18.drew = w00 at HT0 HB0 hHeld ⊢
  refine pure_ (i := 2) (N := some 19) (v := ?_) (a' := ?_) #[false, false, true, false, false, false, false, false, false, false, false, false] rfl rfl (any_of HT_.out (by kernel_rfl)) (fun _ _ _ h => h) (Or.inl ⟨by rfl, ?_⟩) ?_ ?_
  rotate_left
  · intro w'
    go_simp
    with_reducible rfl
  rotate_left
  · simp only [Act.put, List.setIfInBounds_toArray, List.set_cons_zero, List.set_cons_succ, i64_w, i32_w]
    rfl
  refine pure_ (i := 4) (N := some 21) (v := ?_) (a' := ?_) #[false, false, true, false, true, false, false, false, false, false, false, false] rfl rfl (any_of HT_.out (by kernel_rfl)) (fun _ _ _ h => h) (Or.inl ⟨by rfl, ?_⟩) ?_ ?_
  rotate_left
  · intro w'
    go_simp
    with_reducible rfl
  rotate_left
  · simp only [Act.put, List.setIfInBounds_toArray, List.set_cons_zero, List.set_cons_succ, i64_w, i32_w]
    rfl
  refine take_ (i := 1) (N := some 18) (v := ?_) (a' := ?_) #[false, true, true, false, true, false, false, false, false, false, false, false] rfl rfl (take_ofW HT_.out HW_.out (by kernel_rfl)) (fun _ _ _ h => h) (Or.inl ⟨by rfl, ?_⟩) hHeld ?_ ?_
  rotate_left
  · rintro w' ⟨s0, s1, s2, s3⟩
    go_simp
    with_reducible rfl
  rotate_left
  · simp only [Act.put, List.setIfInBounds_toArray, List.set_cons_zero, List.set_cons_succ, i64_w, i32_w]
    rfl
  refine join_ (σ := Value × Value) 6 #[true, true, true, true, true, true, false, false, false, false, false, false] (fun s_ => [(17, .agg #[.int .i64 0, .int .i64 128, .int .i64 8, .int .i64 0, .int .i64 1000, .int .i64 1000, .int .i64 256, .int .i64 1, .int .i64 0, .int .i64 0, .int .i64 128, .int .i64 8, .int .i64 0, .int .i64 1000, .int .i64 1000, .int .i64 256, .int .i64 1, .int .i64 0, .int .i64 0]), (20, s_.1), (22, s_.2)]) (fun s_ w' => (w'.cell? ⟨Mg5, 0, none⟩ = some (.int .i64 100) ∧ w'.cell? ⟨Mg5, 1, none⟩ = some (.int .i64 50) ∧ w'.cell? ⟨Mg5, 2, none⟩ = some (.int .i64 100) ∧ w'.cell? ⟨Mg5, 3, none⟩ = some (.int .i64 50)) ∧ Kd.R k31 31 w' w.heap.size (fun _ => True) s_.1 [(⟨200, 50⟩ : S31)] ∧ Kd.R k31 31 w' w.heap.size (fun _ => True) s_.2 [(⟨0, 0⟩ : S31)] ∧ w'.heap[Mg5]? = some (.cells #[.int .i64 100, .int .i64 50, .int .i64 100, .int .i64 50] 37 (0, 0)) ∧ Below w.heap.size w w') ?_ ?_
  rotate_left
  · intro hCont
    refine three_ (i := 0) (j := 3) (k := 5) (Ni := some 17) (Nj := some 20) (Nk := some 22) #[true, true, true, false, true, false, false, false, false, false, false, false] #[false, true, true, true, true, false, false, false, false, false, false, false] #[false, true, true, false, true, true, false, false, false, false, false, false] rfl rfl rfl rfl rfl rfl (three_of HT_.out (by kernel_rfl)) (by decide) (by decide) (by decide) (fun K hK => ?_) (fun K hK => ?_) (fun K hK => ?_)
    · skip
      refine goes_ Try.func8 (by kernel_rfl) rfl #[] (by rfl) rfl rfl (by simp only [List.map_toArray, List.map_nil]) ?_
      with_reducible refine (loops_calls _).mono ?_
      rintro e w0 ⟨rfl, hb⟩
      refine ⟨_, rfl, ?_⟩
      have HT0 := Aside0.mk (blk_below HT0.out hb)
      have HB0 := Aside0.mk (below_step HB0.out hb)
      clear hb
      refine hK.out _ _ ⟨(blk_cell HT0.out 0).trans rfl, (blk_cell HT0.out 1).trans rfl, (blk_cell HT0.out 2).trans rfl, (blk_cell HT0.out 3).trans rfl⟩ (fun hHeld => ?_)
      clear hK K
      refine norm_ (a' := ?_) ?_ ?_
      rotate_left
      · show Act.put _ (some 17) _ = _
        simp only [Act.put, List.setIfInBounds_toArray, List.set_cons_zero, List.set_cons_succ, i64_w, i32_w]
        rfl
      refine two_ (i := 3) (j := 5) (Ni := some 20) (Nj := some 22) #[true, true, true, true, true, false, false, false, false, false, false, false] #[true, true, true, false, true, true, false, false, false, false, false, false] rfl rfl rfl rfl (two_of HT_.out (by kernel_rfl)) (by decide) (by decide) (fun K hK => ?_) (fun K hK => ?_)
      · skip
        refine Kd.R_lit_step k31 (w0 := w) w.heap.size 31 ?hg (N := 20) ?hd (xs := [(⟨200, 50⟩ : S31)]) (inner := [.int .i64 200, .int .i64 50]) (ok := fun _ => True) (okp := fun _ => True) ?hr ?hp (fun _ hk => hk) trivial HB0.out HB0.out.size (by simp) ?_
        (case hd => rfl)
        (case hg => rfl)
        (case hr => first | (go_simp; done) | (go_simp; rfl))
        (case hp => exact (Reps.c2 (show Kd.M k31 _ _ _ (⟨200, 50⟩ : S31) [.int .i64 200, .int .i64 50] from (k31_mkM _ _ _ (⟨200, 50⟩ : S31))) (Reps.none _ _)))
        intro va w0_3 ho hb hg_ hn
        have HT0_3 := Aside0.mk (blk_grown HT0.out hg_ (by simp))
        have HB0_3 := Aside0.mk hb
        have HA0_3 := Aside0.mk ho
        clear ho hb hg_ hn
        refine hK.out _ _ ⟨(blk_cell HT0_3.out 0).trans rfl, (blk_cell HT0_3.out 1).trans rfl, (blk_cell HT0_3.out 2).trans rfl, (blk_cell HT0_3.out 3).trans rfl⟩ (fun hHeld => ?_)
        clear hK K
        refine norm_ (a' := ?_) ?_ ?_
        rotate_left
        · show Act.put _ (some 20) _ = _
          simp only [Act.put, List.setIfInBounds_toArray, List.set_cons_zero, List.set_cons_succ, i64_w, i32_w]
          rfl
        refine one_ (i := 5) (N := some 22) #[true, true, true, true, true, true, false, false, false, false, false, false] rfl rfl (one_of HT_.out (by kernel_rfl)) (by decide) (fun K hK => ?_)
        refine Kd.R_lit_step k31 (w0 := w) w.heap.size 31 ?hg (N := 22) ?hd (xs := [(⟨0, 0⟩ : S31)]) (inner := [.int .i64 0, .int .i64 0]) (ok := fun _ => True) (okp := fun _ => True) ?hr ?hp (fun _ hk => hk) trivial HB0_3.out HB0_3.out.size (by simp) ?_
        (case hd => rfl)
        (case hg => rfl)
        (case hr => first | (go_simp; done) | (go_simp; rfl))
        (case hp => exact (Reps.c2 (show Kd.M k31 _ _ _ (⟨0, 0⟩ : S31) [.int .i64 0, .int .i64 0] from (k31_mkM _ _ _ (⟨0, 0⟩ : S31))) (Reps.none _ _)))
        intro vb w0_3_5 ho hb hg_ hn
        have HA0_3_5 := Aside0.mk (Kd.R_mono (Kd.R_grown (Kd.R_bound HA0_3.out) hg_ (fun _ _ e => by cases e)) (fun _ _ => trivial))
        have HT0_3_5 := Aside0.mk (blk_grown HT0_3.out hg_ (by simp))
        have HB0_3_5 := Aside0.mk hb
        have HE0_3_5 := Aside0.mk ho
        clear ho hb hg_ hn
        refine hK.out _ _ ⟨(blk_cell HT0_3_5.out 0).trans rfl, (blk_cell HT0_3_5.out 1).trans rfl, (blk_cell HT0_3_5.out 2).trans rfl, (blk_cell HT0_3_5.out 3).trans rfl⟩ (fun hHeld => ?_)
        clear hK K
        refine norm_ (a' := ?_) ?_ ?_
        rotate_left
        · show Act.put _ (some 22) _ = _
          simp only [Act.put, List.setIfInBounds_toArray, List.set_cons_zero, List.set_cons_succ, i64_w, i32_w]
          rfl
        exact norm_ (by simp only [putAll, Act.put, List.setIfInBounds_toArray, List.set_cons_zero, List.set_cons_succ]) (hCont (va, vb) _ ⟨hHeld, HA0_3_5.out, HE0_3_5.out, HT0_3_5.out, HB0_3_5.out⟩)
      · skip
        refine Kd.R_lit_step k31 (w0 := w) w.heap.size 31 ?hg (N := 22) ?hd (xs := [(⟨0, 0⟩ : S31)]) (inner := [.int .i64 0, .int .i64 0]) (ok := fun _ => True) (okp := fun _ => True) ?hr ?hp (fun _ hk => hk) trivial HB0.out HB0.out.size (by simp) ?_
        (case hd => rfl)
        (case hg => rfl)
        (case hr => first | (go_simp; done) | (go_simp; rfl))
        (case hp => exact (Reps.c2 (show Kd.M k31 _ _ _ (⟨0, 0⟩ : S31) [.int .i64 0, .int .i64 0] from (k31_mkM _ _ _ (⟨0, 0⟩ : S31))) (Reps.none _ _)))
        intro vb w0_5 ho hb hg_ hn
        have HT0_5 := Aside0.mk (blk_grown HT0.out hg_ (by simp))
        have HB0_5 := Aside0.mk hb
        have HE0_5 := Aside0.mk ho
        clear ho hb hg_ hn
        refine hK.out _ _ ⟨(blk_cell HT0_5.out 0).trans rfl, (blk_cell HT0_5.out 1).trans rfl, (blk_cell HT0_5.out 2).trans rfl, (blk_cell HT0_5.out 3).trans rfl⟩ (fun hHeld => ?_)
        clear hK K
        refine norm_ (a' := ?_) ?_ ?_
        rotate_left
        · show Act.put _ (some 22) _ = _
          simp only [Act.put, List.setIfInBounds_toArray, List.set_cons_zero, List.set_cons_succ, i64_w, i32_w]
          rfl
        refine one_ (i := 3) (N := some 20) #[true, true, true, true, true, true, false, false, false, false, false, false] rfl rfl (one_of HT_.out (by kernel_rfl)) (by decide) (fun K hK => ?_)
        refine Kd.R_lit_step k31 (w0 := w) w.heap.size 31 ?hg (N := 20) ?hd (xs := [(⟨200, 50⟩ : S31)]) (inner := [.int .i64 200, .int .i64 50]) (ok := fun _ => True) (okp := fun _ => True) ?hr ?hp (fun _ hk => hk) trivial HB0_5.out HB0_5.out.size (by simp) ?_
        (case hd => rfl)
        (case hg => rfl)
        (case hr => first | (go_simp; done) | (go_simp; rfl))
        (case hp => exact (Reps.c2 (show Kd.M k31 _ _ _ (⟨200, 50⟩ : S31) [.int .i64 200, .int .i64 50] from (k31_mkM _ _ _ (⟨200, 50⟩ : S31))) (Reps.none _ _)))
        intro va w0_5_3 ho hb hg_ hn
        have HE0_5_3 := Aside0.mk (Kd.R_mono (Kd.R_grown (Kd.R_bound HE0_5.out) hg_ (fun _ _ e => by cases e)) (fun _ _ => trivial))
        have HT0_5_3 := Aside0.mk (blk_grown HT0_5.out hg_ (by simp))
        have HB0_5_3 := Aside0.mk hb
        have HA0_5_3 := Aside0.mk ho
        clear ho hb hg_ hn
        refine hK.out _ _ ⟨(blk_cell HT0_5_3.out 0).trans rfl, (blk_cell HT0_5_3.out 1).trans rfl, (blk_cell HT0_5_3.out 2).trans rfl, (blk_cell HT0_5_3.out 3).trans rfl⟩ (fun hHeld => ?_)
        clear hK K
        refine norm_ (a' := ?_) ?_ ?_
        rotate_left
        · show Act.put _ (some 20) _ = _
          simp only [Act.put, List.setIfInBounds_toArray, List.set_cons_zero, List.set_cons_succ, i64_w, i32_w]
          rfl
        exact norm_ (by simp only [putAll, Act.put, List.setIfInBounds_toArray, List.set_cons_zero, List.set_cons_succ]) (hCont (va, vb) _ ⟨hHeld, HA0_5_3.out, HE0_5_3.out, HT0_5_3.out, HB0_5_3.out⟩)
    · skip
      refine Kd.R_lit_step k31 (w0 := w) w.heap.size 31 ?hg (N := 20) ?hd (xs := [(⟨200, 50⟩ : S31)]) (inner := [.int .i64 200, .int .i64 50]) (ok := fun _ => True) (okp := fun _ => True) ?hr ?hp (fun _ hk => hk) trivial HB0.out HB0.out.size (by simp) ?_
      (case hd => rfl)
      (case hg => rfl)
      (case hr => first | (go_simp; done) | (go_simp; rfl))
      (case hp => exact (Reps.c2 (show Kd.M k31 _ _ _ (⟨200, 50⟩ : S31) [.int .i64 200, .int .i64 50] from (k31_mkM _ _ _ (⟨200, 50⟩ : S31))) (Reps.none _ _)))
      intro va w3 ho hb hg_ hn
      have HT3 := Aside0.mk (blk_grown HT0.out hg_ (by simp))
      have HB3 := Aside0.mk hb
      have HA3 := Aside0.mk ho
      clear ho hb hg_ hn
      refine hK.out _ _ ⟨(blk_cell HT3.out 0).trans rfl, (blk_cell HT3.out 1).trans rfl, (blk_cell HT3.out 2).trans rfl, (blk_cell HT3.out 3).trans rfl⟩ (fun hHeld => ?_)
      clear hK K
      refine norm_ (a' := ?_) ?_ ?_
      rotate_left
      · show Act.put _ (some 20) _ = _
        simp only [Act.put, List.setIfInBounds_toArray, List.set_cons_zero, List.set_cons_succ, i64_w, i32_w]
        rfl
      refine two_ (i := 0) (j := 5) (Ni := some 17) (Nj := some 22) #[true, true, true, true, true, false, false, false, false, false, false, false] #[false, true, true, true, true, true, false, false, false, false, false, false] rfl rfl rfl rfl (two_of HT_.out (by kernel_rfl)) (by decide) (by decide) (fun K hK => ?_) (fun K hK => ?_)
      · skip
        refine goes_ Try.func8 (by kernel_rfl) rfl #[] (by rfl) rfl rfl (by simp only [List.map_toArray, List.map_nil]) ?_
        with_reducible refine (loops_calls _).mono ?_
        rintro e w3_0 ⟨rfl, hb⟩
        refine ⟨_, rfl, ?_⟩
        have HA3_0 := Aside0.mk (Kd.R_below HA3.out hb)
        have HT3_0 := Aside0.mk (blk_below HT3.out hb)
        have HB3_0 := Aside0.mk (below_step HB3.out hb)
        clear hb
        refine hK.out _ _ ⟨(blk_cell HT3_0.out 0).trans rfl, (blk_cell HT3_0.out 1).trans rfl, (blk_cell HT3_0.out 2).trans rfl, (blk_cell HT3_0.out 3).trans rfl⟩ (fun hHeld => ?_)
        clear hK K
        refine norm_ (a' := ?_) ?_ ?_
        rotate_left
        · show Act.put _ (some 17) _ = _
          simp only [Act.put, List.setIfInBounds_toArray, List.set_cons_zero, List.set_cons_succ, i64_w, i32_w]
          rfl
        refine one_ (i := 5) (N := some 22) #[true, true, true, true, true, true, false, false, false, false, false, false] rfl rfl (one_of HT_.out (by kernel_rfl)) (by decide) (fun K hK => ?_)
        refine Kd.R_lit_step k31 (w0 := w) w.heap.size 31 ?hg (N := 22) ?hd (xs := [(⟨0, 0⟩ : S31)]) (inner := [.int .i64 0, .int .i64 0]) (ok := fun _ => True) (okp := fun _ => True) ?hr ?hp (fun _ hk => hk) trivial HB3_0.out HB3_0.out.size (by simp) ?_
        (case hd => rfl)
        (case hg => rfl)
        (case hr => first | (go_simp; done) | (go_simp; rfl))
        (case hp => exact (Reps.c2 (show Kd.M k31 _ _ _ (⟨0, 0⟩ : S31) [.int .i64 0, .int .i64 0] from (k31_mkM _ _ _ (⟨0, 0⟩ : S31))) (Reps.none _ _)))
        intro vb w3_0_5 ho hb hg_ hn
        have HA3_0_5 := Aside0.mk (Kd.R_mono (Kd.R_grown (Kd.R_bound HA3_0.out) hg_ (fun _ _ e => by cases e)) (fun _ _ => trivial))
        have HT3_0_5 := Aside0.mk (blk_grown HT3_0.out hg_ (by simp))
        have HB3_0_5 := Aside0.mk hb
        have HE3_0_5 := Aside0.mk ho
        clear ho hb hg_ hn
        refine hK.out _ _ ⟨(blk_cell HT3_0_5.out 0).trans rfl, (blk_cell HT3_0_5.out 1).trans rfl, (blk_cell HT3_0_5.out 2).trans rfl, (blk_cell HT3_0_5.out 3).trans rfl⟩ (fun hHeld => ?_)
        clear hK K
        refine norm_ (a' := ?_) ?_ ?_
        rotate_left
        · show Act.put _ (some 22) _ = _
          simp only [Act.put, List.setIfInBounds_toArray, List.set_cons_zero, List.set_cons_succ, i64_w, i32_w]
          rfl
        exact norm_ (by simp only [putAll, Act.put, List.setIfInBounds_toArray, List.set_cons_zero, List.set_cons_succ]) (hCont (va, vb) _ ⟨hHeld, HA3_0_5.out, HE3_0_5.out, HT3_0_5.out, HB3_0_5.out⟩)
      · skip
        refine Kd.R_lit_step k31 (w0 := w) w.heap.size 31 ?hg (N := 22) ?hd (xs := [(⟨0, 0⟩ : S31)]) (inner := [.int .i64 0, .int .i64 0]) (ok := fun _ => True) (okp := fun _ => True) ?hr ?hp (fun _ hk => hk) trivial HB3.out HB3.out.size (by simp) ?_
        (case hd => rfl)
        (case hg => rfl)
        (case hr => first | (go_simp; done) | (go_simp; rfl))
        (case hp => exact (Reps.c2 (show Kd.M k31 _ _ _ (⟨0, 0⟩ : S31) [.int .i64 0, .int .i64 0] from (k31_mkM _ _ _ (⟨0, 0⟩ : S31))) (Reps.none _ _)))
        intro vb w3_5 ho hb hg_ hn
        have HA3_5 := Aside0.mk (Kd.R_mono (Kd.R_grown (Kd.R_bound HA3.out) hg_ (fun _ _ e => by cases e)) (fun _ _ => trivial))
        have HT3_5 := Aside0.mk (blk_grown HT3.out hg_ (by simp))
        have HB3_5 := Aside0.mk hb
        have HE3_5 := Aside0.mk ho
        clear ho hb hg_ hn
        refine hK.out _ _ ⟨(blk_cell HT3_5.out 0).trans rfl, (blk_cell HT3_5.out 1).trans rfl, (blk_cell HT3_5.out 2).trans rfl, (blk_cell HT3_5.out 3).trans rfl⟩ (fun hHeld => ?_)
        clear hK K
        refine norm_ (a' := ?_) ?_ ?_
        rotate_left
        · show Act.put _ (some 22) _ = _
          simp only [Act.put, List.setIfInBounds_toArray, List.set_cons_zero, List.set_cons_succ, i64_w, i32_w]
          rfl
        refine one_ (i := 0) (N := some 17) #[true, true, true, true, true, true, false, false, false, false, false, false] rfl rfl (one_of HT_.out (by kernel_rfl)) (by decide) (fun K hK => ?_)
        refine goes_ Try.func8 (by kernel_rfl) rfl #[] (by rfl) rfl rfl (by simp only [List.map_toArray, List.map_nil]) ?_
        with_reducible refine (loops_calls _).mono ?_
        rintro e w3_5_0 ⟨rfl, hb⟩
        refine ⟨_, rfl, ?_⟩
        have HA3_5_0 := Aside0.mk (Kd.R_below HA3_5.out hb)
        have HE3_5_0 := Aside0.mk (Kd.R_below HE3_5.out hb)
        have HT3_5_0 := Aside0.mk (blk_below HT3_5.out hb)
        have HB3_5_0 := Aside0.mk (below_step HB3_5.out hb)
        clear hb
        refine hK.out _ _ ⟨(blk_cell HT3_5_0.out 0).trans rfl, (blk_cell HT3_5_0.out 1).trans rfl, (blk_cell HT3_5_0.out 2).trans rfl, (blk_cell HT3_5_0.out 3).trans rfl⟩ (fun hHeld => ?_)
        clear hK K
        refine norm_ (a' := ?_) ?_ ?_
        rotate_left
        · show Act.put _ (some 17) _ = _
          simp only [Act.put, List.setIfInBounds_toArray, List.set_cons_zero, List.set_cons_succ, i64_w, i32_w]
          rfl
        exact norm_ (by simp only [putAll, Act.put, List.setIfInBounds_toArray, List.set_cons_zero, List.set_cons_succ]) (hCont (va, vb) _ ⟨hHeld, HA3_5_0.out, HE3_5_0.out, HT3_5_0.out, HB3_5_0.out⟩)
    · skip
      refine Kd.R_lit_step k31 (w0 := w) w.heap.size 31 ?hg (N := 22) ?hd (xs := [(⟨0, 0⟩ : S31)]) (inner := [.int .i64 0, .int .i64 0]) (ok := fun _ => True) (okp := fun _ => True) ?hr ?hp (fun _ hk => hk) trivial HB0.out HB0.out.size (by simp) ?_
      (case hd => rfl)
      (case hg => rfl)
      (case hr => first | (go_simp; done) | (go_simp; rfl))
      (case hp => exact (Reps.c2 (show Kd.M k31 _ _ _ (⟨0, 0⟩ : S31) [.int .i64 0, .int .i64 0] from (k31_mkM _ _ _ (⟨0, 0⟩ : S31))) (Reps.none _ _)))
      intro vb w5 ho hb hg_ hn
      have HT5 := Aside0.mk (blk_grown HT0.out hg_ (by simp))
      have HB5 := Aside0.mk hb
      have HE5 := Aside0.mk ho
      clear ho hb hg_ hn
      refine hK.out _ _ ⟨(blk_cell HT5.out 0).trans rfl, (blk_cell HT5.out 1).trans rfl, (blk_cell HT5.out 2).trans rfl, (blk_cell HT5.out 3).trans rfl⟩ (fun hHeld => ?_)
      clear hK K
      refine norm_ (a' := ?_) ?_ ?_
      rotate_left
      · show Act.put _ (some 22) _ = _
        simp only [Act.put, List.setIfInBounds_toArray, List.set_cons_zero, List.set_cons_succ, i64_w, i32_w]
        rfl
      refine two_ (i := 0) (j := 3) (Ni := some 17) (Nj := some 20) #[true, true, true, false, true, true, false, false, false, false, false, false] #[false, true, true, true, true, true, false, false, false, false, false, false] rfl rfl rfl rfl (two_of HT_.out (by kernel_rfl)) (by decide) (by decide) (fun K hK => ?_) (fun K hK => ?_)
      · skip
        refine goes_ Try.func8 (by kernel_rfl) rfl #[] (by rfl) rfl rfl (by simp only [List.map_toArray, List.map_nil]) ?_
        with_reducible refine (loops_calls _).mono ?_
        rintro e w5_0 ⟨rfl, hb⟩
        refine ⟨_, rfl, ?_⟩
        have HE5_0 := Aside0.mk (Kd.R_below HE5.out hb)
        have HT5_0 := Aside0.mk (blk_below HT5.out hb)
        have HB5_0 := Aside0.mk (below_step HB5.out hb)
        clear hb
        refine hK.out _ _ ⟨(blk_cell HT5_0.out 0).trans rfl, (blk_cell HT5_0.out 1).trans rfl, (blk_cell HT5_0.out 2).trans rfl, (blk_cell HT5_0.out 3).trans rfl⟩ (fun hHeld => ?_)
        clear hK K
        refine norm_ (a' := ?_) ?_ ?_
        rotate_left
        · show Act.put _ (some 17) _ = _
          simp only [Act.put, List.setIfInBounds_toArray, List.set_cons_zero, List.set_cons_succ, i64_w, i32_w]
          rfl
        refine one_ (i := 3) (N := some 20) #[true, true, true, true, true, true, false, false, false, false, false, false] rfl rfl (one_of HT_.out (by kernel_rfl)) (by decide) (fun K hK => ?_)
        refine Kd.R_lit_step k31 (w0 := w) w.heap.size 31 ?hg (N := 20) ?hd (xs := [(⟨200, 50⟩ : S31)]) (inner := [.int .i64 200, .int .i64 50]) (ok := fun _ => True) (okp := fun _ => True) ?hr ?hp (fun _ hk => hk) trivial HB5_0.out HB5_0.out.size (by simp) ?_
        (case hd => rfl)
        (case hg => rfl)
        (case hr => first | (go_simp; done) | (go_simp; rfl))
        (case hp => exact (Reps.c2 (show Kd.M k31 _ _ _ (⟨200, 50⟩ : S31) [.int .i64 200, .int .i64 50] from (k31_mkM _ _ _ (⟨200, 50⟩ : S31))) (Reps.none _ _)))
        intro va w5_0_3 ho hb hg_ hn
        have HE5_0_3 := Aside0.mk (Kd.R_mono (Kd.R_grown (Kd.R_bound HE5_0.out) hg_ (fun _ _ e => by cases e)) (fun _ _ => trivial))
        have HT5_0_3 := Aside0.mk (blk_grown HT5_0.out hg_ (by simp))
        have HB5_0_3 := Aside0.mk hb
        have HA5_0_3 := Aside0.mk ho
        clear ho hb hg_ hn
        refine hK.out _ _ ⟨(blk_cell HT5_0_3.out 0).trans rfl, (blk_cell HT5_0_3.out 1).trans rfl, (blk_cell HT5_0_3.out 2).trans rfl, (blk_cell HT5_0_3.out 3).trans rfl⟩ (fun hHeld => ?_)
        clear hK K
        refine norm_ (a' := ?_) ?_ ?_
        rotate_left
        · show Act.put _ (some 20) _ = _
          simp only [Act.put, List.setIfInBounds_toArray, List.set_cons_zero, List.set_cons_succ, i64_w, i32_w]
          rfl
        exact norm_ (by simp only [putAll, Act.put, List.setIfInBounds_toArray, List.set_cons_zero, List.set_cons_succ]) (hCont (va, vb) _ ⟨hHeld, HA5_0_3.out, HE5_0_3.out, HT5_0_3.out, HB5_0_3.out⟩)
      · skip
        refine Kd.R_lit_step k31 (w0 := w) w.heap.size 31 ?hg (N := 20) ?hd (xs := [(⟨200, 50⟩ : S31)]) (inner := [.int .i64 200, .int .i64 50]) (ok := fun _ => True) (okp := fun _ => True) ?hr ?hp (fun _ hk => hk) trivial HB5.out HB5.out.size (by simp) ?_
        (case hd => rfl)
        (case hg => rfl)
        (case hr => first | (go_simp; done) | (go_simp; rfl))
        (case hp => exact (Reps.c2 (show Kd.M k31 _ _ _ (⟨200, 50⟩ : S31) [.int .i64 200, .int .i64 50] from (k31_mkM _ _ _ (⟨200, 50⟩ : S31))) (Reps.none _ _)))
        intro va w5_3 ho hb hg_ hn
        have HE5_3 := Aside0.mk (Kd.R_mono (Kd.R_grown (Kd.R_bound HE5.out) hg_ (fun _ _ e => by cases e)) (fun _ _ => trivial))
        have HT5_3 := Aside0.mk (blk_grown HT5.out hg_ (by simp))
        have HB5_3 := Aside0.mk hb
        have HA5_3 := Aside0.mk ho
        clear ho hb hg_ hn
        refine hK.out _ _ ⟨(blk_cell HT5_3.out 0).trans rfl, (blk_cell HT5_3.out 1).trans rfl, (blk_cell HT5_3.out 2).trans rfl, (blk_cell HT5_3.out 3).trans rfl⟩ (fun hHeld => ?_)
        clear hK K
        refine norm_ (a' := ?_) ?_ ?_
        rotate_left
        · show Act.put _ (some 20) _ = _
          simp only [Act.put, List.setIfInBounds_toArray, List.set_cons_zero, List.set_cons_succ, i64_w, i32_w]
          rfl
        refine one_ (i := 0) (N := some 17) #[true, true, true, true, true, true, false, false, false, false, false, false] rfl rfl (one_of HT_.out (by kernel_rfl)) (by decide) (fun K hK => ?_)
        refine goes_ Try.func8 (by kernel_rfl) rfl #[] (by rfl) rfl rfl (by simp only [List.map_toArray, List.map_nil]) ?_
        with_reducible refine (loops_calls _).mono ?_
        rintro e w5_3_0 ⟨rfl, hb⟩
        refine ⟨_, rfl, ?_⟩
        have HA5_3_0 := Aside0.mk (Kd.R_below HA5_3.out hb)
        have HE5_3_0 := Aside0.mk (Kd.R_below HE5_3.out hb)
        have HT5_3_0 := Aside0.mk (blk_below HT5_3.out hb)
        have HB5_3_0 := Aside0.mk (below_step HB5_3.out hb)
        clear hb
        refine hK.out _ _ ⟨(blk_cell HT5_3_0.out 0).trans rfl, (blk_cell HT5_3_0.out 1).trans rfl, (blk_cell HT5_3_0.out 2).trans rfl, (blk_cell HT5_3_0.out 3).trans rfl⟩ (fun hHeld => ?_)
        clear hK K
        refine norm_ (a' := ?_) ?_ ?_
        rotate_left
        · show Act.put _ (some 17) _ = _
          simp only [Act.put, List.setIfInBounds_toArray, List.set_cons_zero, List.set_cons_succ, i64_w, i32_w]
          rfl
        exact norm_ (by simp only [putAll, Act.put, List.setIfInBounds_toArray, List.set_cons_zero, List.set_cons_succ]) (hCont (va, vb) _ ⟨hHeld, HA5_3_0.out, HE5_3_0.out, HT5_3_0.out, HB5_3_0.out⟩)
  rintro ⟨va, vb⟩ wJ ⟨hS, hA, hE, hT, hB⟩
  dsimp only at hA hE
  have hHeld : wJ.cell? ⟨Mg5, 0, none⟩ = some (.int .i64 100) ∧ wJ.cell? ⟨Mg5, 1, none⟩ = some (.int .i64 50) ∧ wJ.cell? ⟨Mg5, 2, none⟩ = some (.int .i64 100) ∧ wJ.cell? ⟨Mg5, 3, none⟩ = some (.int .i64 50) := hS
  obtain ⟨Aa, ca, e1_⟩ := Kd.R_slice hA
  have e2_ : va = .slice Aa 1 ca := e1_
  subst e2_
  obtain ⟨Ab, cb, e3_⟩ := Kd.R_slice hE
  have e4_ : vb = .slice Ab 1 cb := e3_
  subst e4_
  have HAJ : Aside0 (Kd.C k31 wJ Aa 1 [(⟨200, 50⟩ : S31)]) := ⟨(Kd.R_reads' hA).2.2⟩
  have HEJ : Aside0 (Kd.C k31 wJ Ab 1 [(⟨0, 0⟩ : S31)]) := ⟨(Kd.R_reads' hE).2.2⟩
  have HTJ := Aside0.mk hT
  have HBJ := Aside0.mk hB
  clear hS hA hE hT hB e1_ e3_
  refine norm_ (a' := ?_) ?_ ?_
  rotate_left
  · simp only [putAll, Act.put, List.setIfInBounds_toArray, List.set_cons_zero, List.set_cons_succ]
    rfl
  refine one_ (i := 6) (N := some 23) #[true, true, true, true, true, true, true, false, false, false, false, false] rfl rfl (one_of HT_.out (by kernel_rfl)) (by decide) (fun K hK => ?_)
  refine goes_ Try.func7 (by kernel_rfl) rfl #[.agg #[.int .i64 0, .int .i64 128, .int .i64 8, .int .i64 0, .int .i64 1000, .int .i64 1000, .int .i64 256, .int .i64 1, .int .i64 0, .int .i64 0, .int .i64 128, .int .i64 8, .int .i64 0, .int .i64 1000, .int .i64 1000, .int .i64 256, .int .i64 1, .int .i64 0, .int .i64 0], .agg #[.int .i64 100, .int .i64 50, .int .i64 100, .int .i64 50], .slice Aa 1 ca, .slice Ab 1 cb] (by rfl) rfl rfl (by simp only [List.map_toArray, List.map_cons, List.map_nil]; rfl) ?_
  with_reducible refine (QRun Aa ca Ab cb wJ HAJ.out HEJ.out).mono ?_
  rintro e wZ ⟨v0, rfl, ho, hb⟩
  refine ⟨_, rfl, ?_⟩
  have HTZ := Aside0.mk (blk_below HTJ.out hb)
  have HBZ := Aside0.mk (below_step HBJ.out hb)
  have HOZ := Aside0.mk (Kd.R_lower ho HBJ.out.size)
  clear ho hb
  refine hK.out _ _ ⟨(blk_cell HTZ.out 0).trans rfl, (blk_cell HTZ.out 1).trans rfl, (blk_cell HTZ.out 2).trans rfl, (blk_cell HTZ.out 3).trans rfl⟩ (fun hHeld => ?_)
  clear hK K
  refine norm_ (a' := ?_) ?_ ?_
  rotate_left
  · show Act.put _ (some 23) _ = _
    simp only [Act.put, List.setIfInBounds_toArray, List.set_cons_zero, List.set_cons_succ, i64_w, i32_w]
    rfl
  refine pure_ (i := 7) (N := some 16) (v := ?_) (a' := ?_) #[true, true, true, true, true, true, true, true, false, false, false, false] rfl rfl (any_of HT_.out (by kernel_rfl)) (fun _ _ _ h => h) (Or.inl ⟨by rfl, ?_⟩) ?_ ?_
  rotate_left
  · intro w'
    go_simp
    with_reducible rfl
  rotate_left
  · simp only [Act.put, List.setIfInBounds_toArray, List.set_cons_zero, List.set_cons_succ, i64_w, i32_w]
    rfl
  refine pure_ (i := 8) (N := some 24) (v := ?_) (a' := ?_) #[true, true, true, true, true, true, true, true, true, false, false, false] rfl rfl (any_of HT_.out (by kernel_rfl)) (fun _ _ _ h => h) (Or.inl ⟨by rfl, ?_⟩) ?_ ?_
  rotate_left
  · intro w'
    go_simp
    with_reducible rfl
  rotate_left
  · simp only [Act.put, List.setIfInBounds_toArray, List.set_cons_zero, List.set_cons_succ, i64_w, i32_w]
    rfl
  refine pure_ (i := 9) (N := some 25) (v := ?_) (a' := ?_) #[true, true, true, true, true, true, true, true, true, true, false, false] rfl rfl (any_of HT_.out (by kernel_rfl)) (fun _ _ _ h => h) (Or.inl ⟨by rfl, ?_⟩) ?_ ?_
  rotate_left
  · intro w'
    go_simp
    with_reducible rfl
  rotate_left
  · simp only [Act.put, List.setIfInBounds_toArray, List.set_cons_zero, List.set_cons_succ, i64_w, i32_w]
    rfl
  refine pure_ (i := 10) (N := some 3) (v := ?_) (a' := ?_) #[true, true, true, true, true, true, true, true, true, true, true, false] rfl rfl (any_of HT_.out (by kernel_rfl)) (fun _ _ _ h => h) (Or.inl ⟨by rfl, ?_⟩) ?_ ?_
  rotate_left
  · intro w'
    go_simp
    with_reducible rfl
  rotate_left
  · simp only [Act.put, List.setIfInBounds_toArray, List.set_cons_zero, List.set_cons_succ, i64_w, i32_w]
    rfl
  refine pure_ (i := 11) (N := some 4) (v := ?_) (a' := ?_) #[true, true, true, true, true, true, true, true, true, true, true, true] rfl rfl (any_of HT_.out (by kernel_rfl)) (fun _ _ _ h => h) (Or.inl ⟨by rfl, ?_⟩) ?_ ?_
  rotate_left
  · intro w'
    go_simp
    with_reducible rfl
  rotate_left
  · simp only [Act.put, List.setIfInBounds_toArray, List.set_cons_zero, List.set_cons_succ, i64_w, i32_w]
    rfl
  refine done_ (done_of HT_.out (by kernel_rfl)) ?_
  clear hHeld
  obtain ⟨A0, cc0, e1_⟩ := Kd.R_slice HOZ.out
  have e2_ : v0 = .slice A0 1 cc0 := e1_
  subst e2_
  clear e1_
  go_wp2_with (first | ((go_at_call 8); ((with_reducible refine (loops_calls _).mono ?_); rintro e Lw1 ⟨rfl, hb0_⟩; have hb_ := hb0_; clear hb0_; have LR2 := Aside0.mk (Kd.R_below HOZ.out hb_); have LH3 := Aside0.mk (below_step HBZ.out hb_); clear hb_)) | ((go_at_call 6); ((with_reducible refine (QLim _).mono ?_); rintro e Lw4 ⟨rfl, hb0_⟩; have hb_ := hb0_; clear hb0_; have LR5 := Aside0.mk (Kd.R_below LR2.out hb_); have LH6 := Aside0.mk (below_step LH3.out hb_); clear hb_)) | ((with_reducible refine gate_dst (N := 5) rfl ?_); refine box_event ?hg (N := 5) ?hd (cs := #[.int .i64 0, .int .i64 0]) (t := 33) ?hr ?_; (case hd => rfl); (case hg => rfl); (case hr => exact alloc_hr rfl _ _ (alloc33 _)); intro Lg7 hg_ Lw8 hbox_ hb_; have LB9 := Aside0.mk hbox_; have LG10 : Aside0 (w.heap.size ≤ Lg7) := ⟨by rw [hg_]; exact below_size LH6.out⟩; have LA11 : Aside0 (∀ k_, ((.slice A0 1 cc0) : Value).ownBlock = some k_ → k_ ≠ Lg7) := ⟨fun k_ hk_ => by rw [hg_]; exact Nat.ne_of_lt (Kd.R_lt LR5.out k_ hk_)⟩; have LR12 := Aside0.mk (Kd.R_below LR5.out hb_); have LH13 := Aside0.mk (below_step LH6.out hb_); clear hbox_ hb_ hg_; obtain ⟨Lx14, Lx15⟩ := bc2 LB9.out; have Lz16 := blk_frozen LB9.out 0; have Lz17 := blk_frozen LB9.out 1) | ((with_reducible refine gate_dst (N := 6) rfl ?_); refine box_event ?hg (N := 6) ?hd (cs := #[.int .i64 0, .int .i64 0]) (t := 33) ?hr ?_; (case hd => rfl); (case hg => rfl); (case hr => exact alloc_hr rfl _ _ (alloc33 _)); intro Lg18 hg_ Lw19 hbox_ hb_; have LB20 := Aside0.mk hbox_; have LG21 : Aside0 (w.heap.size ≤ Lg18) := ⟨by rw [hg_]; exact below_size LH13.out⟩; have LN22 : Aside0 (Lg7 ≠ Lg18) := ⟨by rw [hg_]; exact Nat.ne_of_lt (blk_lt LB9.out)⟩; have LA23 : Aside0 (∀ k_, ((.slice A0 1 cc0) : Value).ownBlock = some k_ → k_ ≠ Lg18) := ⟨fun k_ hk_ => by rw [hg_]; exact Nat.ne_of_lt (Kd.R_lt LR12.out k_ hk_)⟩; have LB24 := Aside0.mk (blk_below LB9.out hb_); have LR25 := Aside0.mk (Kd.R_below LR12.out hb_); have LH26 := Aside0.mk (below_step LH13.out hb_); clear hbox_ hb_ hg_; clear Lx14 Lx15 Lz16 Lz17; obtain ⟨Lx27, Lx28⟩ := bc2 LB24.out; have Lz29 := blk_frozen LB24.out 0; have Lz30 := blk_frozen LB24.out 1; obtain ⟨Lx31, Lx32⟩ := bc2 LB20.out; have Lz33 := blk_frozen LB20.out 0; have Lz34 := blk_frozen LB20.out 1) | ((with_reducible refine gate_store (t := 33) (p := 5) rfl ?_); refine store_event (t := 33) (p := 5) (v := ?vo_Lw35) (w1 := ((Lw19.setCell ⟨Lg7, 0, none⟩ (.int .i64 (-3))).setCell ⟨Lg7, 1, none⟩ (.int .i64 1003))) ?hg ?ho ?hn ?hr ?_; (case ho => rfl); (case hg => rfl); (case hn => rfl); (case hr => first | (go_simp; done) | (go_simp; rfl)); intro Lw35 hw_; have LB36 : Aside0 (Lw35.heap[Lg7]? = some (.cells #[.int .i64 (-3), .int .i64 1003] 33 (0, 0))) := ⟨by rw [hw_]; exact (blk_put (blk_put LB24.out 0 _ rfl) 1 _ rfl)⟩; have LB37 : Aside0 (Lw35.heap[Lg18]? = some (.cells #[.int .i64 0, .int .i64 0] 33 (0, 0))) := ⟨by rw [hw_]; exact (blk_far (blk_far LB20.out (Ne.symm LN22.out) _) (Ne.symm LN22.out) _)⟩; have LH38 : Aside0 (Below w.heap.size w Lw35) := ⟨by rw [hw_]; exact (below_set (below_set LH26.out LG10.out) LG10.out)⟩; have LR39 : Aside0 (Kd.R k31 31 Lw35 w.heap.size (fun _ => True) ((.slice A0 1 cc0)) [(⟨150, 50⟩ : S31)]) := ⟨by rw [hw_]; exact (Kd.R_mono (Kd.R_far (p := ⟨Lg7, 1, none⟩) (R_off (Kd.R_mono (Kd.R_far (p := ⟨Lg7, 0, none⟩) (R_off LR25.out LA11.out) (fun k_ hk_ => hk_.2) _) (fun k_ hk_ => hk_.1)) LA11.out) (fun k_ hk_ => hk_.2) _) (fun k_ hk_ => hk_.1))⟩; clear hw_; clear Lx27 Lx28 Lz29 Lz30 Lx31 Lx32 Lz33 Lz34; obtain ⟨Lx40, Lx41⟩ := bc2 LB36.out; have Lz42 := blk_frozen LB36.out 0; have Lz43 := blk_frozen LB36.out 1; obtain ⟨Lx44, Lx45⟩ := bc2 LB37.out; have Lz46 := blk_frozen LB37.out 0; have Lz47 := blk_frozen LB37.out 1) | ((with_reducible refine gate_store (t := 33) (p := 6) rfl ?_); refine store_event (t := 33) (p := 6) (v := ?vo_Lw48) (w1 := ((Lw35.setCell ⟨Lg18, 0, none⟩ (.int .i64 (-2))).setCell ⟨Lg18, 1, none⟩ (.int .i64 1002))) ?hg ?ho ?hn ?hr ?_; (case ho => rfl); (case hg => rfl); (case hn => rfl); (case hr => first | (go_simp; done) | (go_simp; rfl)); intro Lw48 hw_; have LB49 : Aside0 (Lw48.heap[Lg7]? = some (.cells #[.int .i64 (-3), .int .i64 1003] 33 (0, 0))) := ⟨by rw [hw_]; exact (blk_far (blk_far LB36.out LN22.out _) LN22.out _)⟩; have LB50 : Aside0 (Lw48.heap[Lg18]? = some (.cells #[.int .i64 (-2), .int .i64 1002] 33 (0, 0))) := ⟨by rw [hw_]; exact (blk_put (blk_put LB37.out 0 _ rfl) 1 _ rfl)⟩; have LH51 : Aside0 (Below w.heap.size w Lw48) := ⟨by rw [hw_]; exact (below_set (below_set LH38.out LG21.out) LG21.out)⟩; have LR52 : Aside0 (Kd.R k31 31 Lw48 w.heap.size (fun _ => True) ((.slice A0 1 cc0)) [(⟨150, 50⟩ : S31)]) := ⟨by rw [hw_]; exact (Kd.R_mono (Kd.R_far (p := ⟨Lg18, 1, none⟩) (R_off (Kd.R_mono (Kd.R_far (p := ⟨Lg18, 0, none⟩) (R_off LR39.out LA23.out) (fun k_ hk_ => hk_.2) _) (fun k_ hk_ => hk_.1)) LA23.out) (fun k_ hk_ => hk_.2) _) (fun k_ hk_ => hk_.1))⟩; clear hw_; clear Lx40 Lx41 Lz42 Lz43 Lx44 Lx45 Lz46 Lz47; obtain ⟨Lx53, Lx54⟩ := bc2 LB49.out; have Lz55 := blk_frozen LB49.out 0; have Lz56 := blk_frozen LB49.out 1; obtain ⟨Lx57, Lx58⟩ := bc2 LB50.out; have Lz59 := blk_frozen LB50.out 0; have Lz60 := blk_frozen LB50.out 1; obtain ⟨g0, cap0, e_, _, _, _⟩ := Kd.R_form LR52.out (by decide); obtain rfl : A0 = some ⟨g0, 0, none⟩ := (by injection e_); clear e_; obtain ⟨ad_, e_, v0_, v1_⟩ := at_T31 (Kd.R_reads' LR52.out).2.2 0 (by decide) (by decide); obtain rfl : ad_ = ⟨g0, 0, none⟩ := (by injection e_ with e_; exact e_.symm); have v2_ : Lw48.cell? ⟨g0, 0, none⟩ = some (.int .i64 150) := v0_; have v3_ : Lw48.cell? ⟨g0, 1, none⟩ = some (.int .i64 50) := v1_; clear v0_ v1_ e_))
  go_ret
  exact ⟨rfl, LH51.out⟩
end Go.Proofs.Ytpfilkfdnjbejaa.Q
