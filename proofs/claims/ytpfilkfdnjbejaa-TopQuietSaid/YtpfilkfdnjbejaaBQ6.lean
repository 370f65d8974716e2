import Derived.Test.YtpfilkfdnjbejaaBQ0
import Derived.Test.YtpfilkfdnjbejaaBQ1
import Derived.Test.YtpfilkfdnjbejaaBQ2
import Derived.Test.YtpfilkfdnjbejaaBQ3
import Derived.Test.YtpfilkfdnjbejaaBQ4
import Derived.Test.YtpfilkfdnjbejaaBQ5
namespace Go.Proofs.Ytpfilkfdnjbejaa.Q
open Go.RowKit Go.Proofs.YtpfilkfdnjbejaaW.PrintWords Go.Proofs.YtpfilkfdnjbejaaW.PrintLast Go.Proofs.YtpfilkfdnjbejaaW.PrintMore
attribute [local go_sem] max2_int min2_int max_two min_two max_three min_three max_four min_four
set_option linter.unusedVariables false
set_option linter.unusedSimpArgs false
theorem blk_full {w : World} {g t : Nat} {cs : Array Value} (h : w.heap[g]? = some (.cells cs t (0, 0))) (vs : List Value) (hl : vs.length = cs.size) : (w.setCells g 0 vs).heap[g]? = some (.cells vs.toArray t (0, 0)) ∧ w.grownBy (w.setCells g 0 vs) (some g) := by
  obtain ⟨cur', h1, _, h3⟩ := setCells_row vs 0 w cs h (by omega)
  obtain ⟨s1, s2, s3, s4⟩ := setCells_same g vs 0 w
  refine ⟨?_, s1, s2, s3, by rw [s4]; exact Nat.le_refl _, fun k _ hk => setCells_far vs 0 k (fun he => hk (by rw [he]))⟩
  rw [h1]
  have : cur' = vs.toArray := by
    apply Array.toList_inj.1
    rw [h3, List.take_zero, List.nil_append, List.drop_eq_nil_of_le (by rw [Array.length_toList]; omega), List.append_nil]
  rw [this]
theorem goesV_ {P : Program} {ops : Array Oper} {Q : Exit → Act → World → Prop} {oi : Oper} {N : Option Tmp} {a : Act} {w : World} {K : Act → World → Prop} {f : FuncId} {fn : Func} {t : Operand} {cap : Array Value} {ars : Array Operand} {ts : Array TypeId} (hf : P.funcs[f]? = some fn) (hname : (fn.name == "runtime.NumGoroutine") = false) (hb : fn.body.isSome = true) (args : Array Value)
    (hw : Region.wanted oi (yielded ops a.tmps) = true) (hN : oi.dst = N) (hop : oi.op = .call { callee := .value t, args := ars, argTypes := ts }) (hcal : a.eval t = .func (.func f) #[] cap) (hargs : ars.map a.eval ++ cap = args)
    (h : Calls P f args w fun e w' => ∃ v, e = .returned v ∧ K (a.put N v) w') : if Region.wanted oi (yielded ops a.tmps) = true then Oper.wp P oi a w K Q else K (a.put N undef) w := by
  refine call_ f args hw hN ?_ h
  have he := enters_ hf hname hb args w
  unfold execOp
  simp [hop, resolve, Deferred.ofValue, hcal, invoke, hargs, he]
attribute [local go_sem] max2_int min2_int max_two min_two
theorem limit_calls (lo hi : Int) (w : World) : Calls Try.prog 36 #[.int .i64 lo, .int .i64 hi] w fun e w' => ∃ a b, e = .returned (.func (.func 39) #[] #[.pointer (some ⟨a, 0, none⟩), .pointer (some ⟨b, 0, none⟩)]) ∧ w'.heap[a]? = some (.cells #[.int .i64 lo] 3 (0, 0)) ∧ w'.heap[b]? = some (.cells #[.int .i64 hi] 3 (0, 0)) ∧ Below w.heap.size w w' := by
  have hu3 := Try.underlying3
  have hu60 := Try.underlying60
  go_enter Try.func36, Try.ntmps36
  go_wp2
  go_ret
  have hb := blk_new (w.alloc (.cells #[.int .i64 lo] 3)) (.cells #[.int .i64 hi] 3)
  rw [show (w.alloc (.cells #[.int .i64 lo] 3)).heap.size = w.heap.size + 1 from Array.size_push _] at hb
  exact ⟨_, _, rfl, blk_alloc (blk_new w _) _, hb, below_alloc (below_alloc (Below.refl _ _) _) _⟩
def clampI (lo hi n : Int) : Int := mx lo (mn n hi)
set_option maxRecDepth 100000 in
set_option maxHeartbeats 4000000 in
theorem clamp_calls (n lo hi : Int) (a b : Nat) (w : World) (ha : w.cell? ⟨a, 0, none⟩ = some (.int .i64 lo)) (hb : w.cell? ⟨b, 0, none⟩ = some (.int .i64 hi)) (m : Int) (hm : clampI lo hi n = m) : Calls Try.prog 39 #[.int .i64 n, .pointer (some ⟨a, 0, none⟩), .pointer (some ⟨b, 0, none⟩)] w fun e w' => e = .returned (.int .i64 m) ∧ Below w.heap.size w w' := by
  subst hm
  have hu3 := Try.underlying3
  go_enter Try.func39, Try.ntmps39
  go_wp2
  all_goals (go_ret; refine ⟨?_, Below.refl _ _⟩; refine congrArg (fun z => Ending.returned (.int .i64 z)) ?_; unfold clampI mx mn; (repeat' split) <;> omega)
theorem clampI_in {lo hi : Int} (h : lo ≤ hi) (n : Int) : lo ≤ clampI lo hi n ∧ clampI lo hi n ≤ hi := by
  unfold clampI mx mn
  (repeat' split) <;> omega
def stepOut (g : S23) (out last set v : Int) : Int := clampI g.f3 g.f4 (out + clampI (-g.f5) g.f5 ((g.f0 * ((set - v) - last) + g.f1 * (set - v)) / 2 ^ g.f2.toNat))
def stepR.T8 : Bool × List (List Nat × List Nat) := (true, [([], []), ([0], [0]), ([1], [1]), ([], []), ([3], [3]), ([2, 4], [2, 4]), ([], []), ([6], [6]), ([], []), ([8], [8]), ([7, 9, 5], [7, 9]), ([5, 10, 0, 1, 2, 3, 4, 5], [5]), ([10, 11, 0, 1, 2, 3, 4, 5, 6, 7, 8, 9, 10, 11], [10])])
def stepR.B8 : List Nat := [0, 1, 3, 0, 8, 31, 0, 64, 0, 256, 1023, 2047, 4095]
theorem stepR.tab8 : rtab .any (opsOf Try.f30 8) = stepR.T8 := by kernel_rfl
theorem stepR.bits8 : waitsOk stepR.T8.2 stepR.B8 = true := by kernel_rfl
def stepS.T11 : Bool × List (List Nat × List Nat) := (true, [([], []), ([], []), ([1], [1]), ([], []), ([], []), ([3, 4], [3, 4]), ([2, 5], [2, 5]), ([0, 6, 5], [0, 6]), ([], []), ([7, 8], [7, 8]), ([9, 7, 0, 1, 2, 3, 4, 5, 6, 7, 8, 9], [9]), ([10, 0, 1, 2, 3, 4, 5, 6, 7, 8, 9, 10], [])])
def stepS.B11 : List Nat := [0, 0, 2, 0, 0, 24, 62, 127, 0, 511, 1023, 2047]
theorem stepS.tab11 : rtab .any (opsOf Try.f30 11) = stepS.T11 := by kernel_rfl
theorem stepS.bits11 : waitsOk stepS.T11.2 stepS.B11 = true := by kernel_rfl
set_option maxHeartbeats 16000000 in
set_option maxRecDepth 100000 in
theorem Step_calls (g : S23) (hG : ckG g = 0) (out last set v : Int) (h1 : g.f3 ≤ out ∧ out ≤ g.f4) (h2 : -67108864 ≤ last ∧ last ≤ 67108864) (h3 : -33554432 ≤ set ∧ set ≤ 33554432) (h4 : -33554432 ≤ v ∧ v ≤ 33554432) (w : World) : Calls Try.prog 30 #[.agg #[.int .i64 g.f0, .int .i64 g.f1, .int .i64 g.f2, .int .i64 g.f3, .int .i64 g.f4, .int .i64 g.f5], .agg #[.int .i64 out, .int .i64 last], .int .i64 set, .int .i64 v] w fun e w' => e = .returned (.tuple #[.agg #[.int .i64 (stepOut g out last set v), .int .i64 (set - v)], .int .i64 0]) ∧ Below w.heap.size w w' := by
  have hu23 := Try.underlying23
  have hu82 := Try.underlying82
  have hu3 := Try.underlying3
  have hu60 := Try.underlying60
  have HG := Aside0.mk hG
  have HO := Aside0.mk h1
  have HL := Aside0.mk h2
  have HS := Aside0.mk h3
  have HV := Aside0.mk h4
  have HB := Aside0.mk (Below.refl w.heap.size w)
  clear hG h1 h2 h3 h4
  go_enter Try.func30, Try.ntmps30
  go_wp2_with (first | ((with_reducible refine gate_dst (N := 4) rfl ?_); refine box_event ?hg (N := 4) ?hd (cs := #[.int .i64 g.f0, .int .i64 g.f1, .int .i64 g.f2, .int .i64 g.f3, .int .i64 g.f4, .int .i64 g.f5]) (t := 23) ?hr ?_; (case hd => rfl); (case hg => rfl); (case hr => first | (go_simp; done) | (go_simp; rfl)); intro Mg1 hg_ Mw2 hbox_ hb_; have MB3 := Aside0.mk hbox_; have MG4 : Aside0 (w.heap.size ≤ Mg1) := ⟨by rw [hg_]; exact below_size HB.out⟩; have MH5 := Aside0.mk (below_step HB.out hb_); clear hbox_ hb_ hg_; have Mx6 : Mw2.cell? ⟨Mg1, 0, none⟩ = some (.int .i64 g.f0) := (blk_cell MB3.out 0).trans rfl; have Mz7 := blk_frozen MB3.out 0; have Mx8 : Mw2.cell? ⟨Mg1, 1, none⟩ = some (.int .i64 g.f1) := (blk_cell MB3.out 1).trans rfl; have Mz9 := blk_frozen MB3.out 1; have Mx10 : Mw2.cell? ⟨Mg1, 2, none⟩ = some (.int .i64 g.f2) := (blk_cell MB3.out 2).trans rfl; have Mz11 := blk_frozen MB3.out 2; have Mx12 : Mw2.cell? ⟨Mg1, 3, none⟩ = some (.int .i64 g.f3) := (blk_cell MB3.out 3).trans rfl; have Mz13 := blk_frozen MB3.out 3; have Mx14 : Mw2.cell? ⟨Mg1, 4, none⟩ = some (.int .i64 g.f4) := (blk_cell MB3.out 4).trans rfl; have Mz15 := blk_frozen MB3.out 4; have Mx16 : Mw2.cell? ⟨Mg1, 5, none⟩ = some (.int .i64 g.f5) := (blk_cell MB3.out 5).trans rfl; have Mz17 := blk_frozen MB3.out 5) | ((with_reducible refine gate_dst (N := 5) rfl ?_); refine box_event ?hg (N := 5) ?hd (cs := #[.int .i64 out, .int .i64 last]) (t := 82) ?hr ?_; (case hd => rfl); (case hg => rfl); (case hr => first | (go_simp; done) | (go_simp; rfl)); intro Mg18 hg_ Mw19 hbox_ hb_; have MB20 := Aside0.mk hbox_; have MG21 : Aside0 (w.heap.size ≤ Mg18) := ⟨by rw [hg_]; exact below_size MH5.out⟩; have MN22 : Aside0 (Mg1 ≠ Mg18) := ⟨by rw [hg_]; exact Nat.ne_of_lt (blk_lt MB3.out)⟩; have MB23 := Aside0.mk (blk_below MB3.out hb_); have MH24 := Aside0.mk (below_step MH5.out hb_); clear hbox_ hb_ hg_; clear Mx6 Mz7 Mx8 Mz9 Mx10 Mz11 Mx12 Mz13 Mx14 Mz15 Mx16 Mz17; have Mx25 : Mw19.cell? ⟨Mg1, 0, none⟩ = some (.int .i64 g.f0) := (blk_cell MB23.out 0).trans rfl; have Mz26 := blk_frozen MB23.out 0; have Mx27 : Mw19.cell? ⟨Mg1, 1, none⟩ = some (.int .i64 g.f1) := (blk_cell MB23.out 1).trans rfl; have Mz28 := blk_frozen MB23.out 1; have Mx29 : Mw19.cell? ⟨Mg1, 2, none⟩ = some (.int .i64 g.f2) := (blk_cell MB23.out 2).trans rfl; have Mz30 := blk_frozen MB23.out 2; have Mx31 : Mw19.cell? ⟨Mg1, 3, none⟩ = some (.int .i64 g.f3) := (blk_cell MB23.out 3).trans rfl; have Mz32 := blk_frozen MB23.out 3; have Mx33 : Mw19.cell? ⟨Mg1, 4, none⟩ = some (.int .i64 g.f4) := (blk_cell MB23.out 4).trans rfl; have Mz34 := blk_frozen MB23.out 4; have Mx35 : Mw19.cell? ⟨Mg1, 5, none⟩ = some (.int .i64 g.f5) := (blk_cell MB23.out 5).trans rfl; have Mz36 := blk_frozen MB23.out 5; have Mx37 : Mw19.cell? ⟨Mg18, 0, none⟩ = some (.int .i64 out) := (blk_cell MB20.out 0).trans rfl; have Mz38 := blk_frozen MB20.out 0; have Mx39 : Mw19.cell? ⟨Mg18, 1, none⟩ = some (.int .i64 last) := (blk_cell MB20.out 1).trans rfl; have Mz40 := blk_frozen MB20.out 1) | ((with_reducible refine gate_dst (N := 8) rfl ?_); refine box_event ?hg (N := 8) ?hd (cs := #[.int .i64 0, .int .i64 0]) (t := 82) ?hr ?_; (case hd => rfl); (case hg => rfl); (case hr => first | (go_simp; done) | (go_simp; rfl)); intro Mg41 hg_ Mw42 hbox_ hb_; have MB43 := Aside0.mk hbox_; have MG44 : Aside0 (w.heap.size ≤ Mg41) := ⟨by rw [hg_]; exact below_size MH24.out⟩; have MN45 : Aside0 (Mg1 ≠ Mg41) := ⟨by rw [hg_]; exact Nat.ne_of_lt (blk_lt MB23.out)⟩; have MN46 : Aside0 (Mg18 ≠ Mg41) := ⟨by rw [hg_]; exact Nat.ne_of_lt (blk_lt MB20.out)⟩; have MB47 := Aside0.mk (blk_below MB23.out hb_); have MB48 := Aside0.mk (blk_below MB20.out hb_); have MH49 := Aside0.mk (below_step MH24.out hb_); clear hbox_ hb_ hg_; clear Mx25 Mz26 Mx27 Mz28 Mx29 Mz30 Mx31 Mz32 Mx33 Mz34 Mx35 Mz36 Mx37 Mz38 Mx39 Mz40; have Mx50 : Mw42.cell? ⟨Mg1, 0, none⟩ = some (.int .i64 g.f0) := (blk_cell MB47.out 0).trans rfl; have Mz51 := blk_frozen MB47.out 0; have Mx52 : Mw42.cell? ⟨Mg1, 1, none⟩ = some (.int .i64 g.f1) := (blk_cell MB47.out 1).trans rfl; have Mz53 := blk_frozen MB47.out 1; have Mx54 : Mw42.cell? ⟨Mg1, 2, none⟩ = some (.int .i64 g.f2) := (blk_cell MB47.out 2).trans rfl; have Mz55 := blk_frozen MB47.out 2; have Mx56 : Mw42.cell? ⟨Mg1, 3, none⟩ = some (.int .i64 g.f3) := (blk_cell MB47.out 3).trans rfl; have Mz57 := blk_frozen MB47.out 3; have Mx58 : Mw42.cell? ⟨Mg1, 4, none⟩ = some (.int .i64 g.f4) := (blk_cell MB47.out 4).trans rfl; have Mz59 := blk_frozen MB47.out 4; have Mx60 : Mw42.cell? ⟨Mg1, 5, none⟩ = some (.int .i64 g.f5) := (blk_cell MB47.out 5).trans rfl; have Mz61 := blk_frozen MB47.out 5; have Mx62 : Mw42.cell? ⟨Mg18, 0, none⟩ = some (.int .i64 out) := (blk_cell MB48.out 0).trans rfl; have Mz63 := blk_frozen MB48.out 0; have Mx64 : Mw42.cell? ⟨Mg18, 1, none⟩ = some (.int .i64 last) := (blk_cell MB48.out 1).trans rfl; have Mz65 := blk_frozen MB48.out 1; have Mx66 : Mw42.cell? ⟨Mg41, 0, none⟩ = some (.int .i64 0) := (blk_cell MB43.out 0).trans rfl; have Mz67 := blk_frozen MB43.out 0; have Mx68 : Mw42.cell? ⟨Mg41, 1, none⟩ = some (.int .i64 0) := (blk_cell MB43.out 1).trans rfl; have Mz69 := blk_frozen MB43.out 1) | ((go_at_call 23); (with_reducible refine (control_Check.calls (0 + 2) g.f0 g.f1 g.f2 g.f3 g.f4 g.f5 (ckG g) _ (ckG_f g 0)).mono ?_; rintro e Mw70 ⟨rfl, hb0_⟩; have hb_ := hb0_; clear hb0_; rw [HG.out]; have MB71 := Aside0.mk (blk_below MB47.out hb_); have MB72 := Aside0.mk (blk_below MB48.out hb_); have MB73 := Aside0.mk (blk_below MB43.out hb_); have MH74 := Aside0.mk (below_step MH49.out hb_); clear hb_; clear Mx50 Mz51 Mx52 Mz53 Mx54 Mz55 Mx56 Mz57 Mx58 Mz59 Mx60 Mz61 Mx62 Mz63 Mx64 Mz65 Mx66 Mz67 Mx68 Mz69; have Mx75 : Mw70.cell? ⟨Mg1, 0, none⟩ = some (.int .i64 g.f0) := (blk_cell MB71.out 0).trans rfl; have Mz76 := blk_frozen MB71.out 0; have Mx77 : Mw70.cell? ⟨Mg1, 1, none⟩ = some (.int .i64 g.f1) := (blk_cell MB71.out 1).trans rfl; have Mz78 := blk_frozen MB71.out 1; have Mx79 : Mw70.cell? ⟨Mg1, 2, none⟩ = some (.int .i64 g.f2) := (blk_cell MB71.out 2).trans rfl; have Mz80 := blk_frozen MB71.out 2; have Mx81 : Mw70.cell? ⟨Mg1, 3, none⟩ = some (.int .i64 g.f3) := (blk_cell MB71.out 3).trans rfl; have Mz82 := blk_frozen MB71.out 3; have Mx83 : Mw70.cell? ⟨Mg1, 4, none⟩ = some (.int .i64 g.f4) := (blk_cell MB71.out 4).trans rfl; have Mz84 := blk_frozen MB71.out 4; have Mx85 : Mw70.cell? ⟨Mg1, 5, none⟩ = some (.int .i64 g.f5) := (blk_cell MB71.out 5).trans rfl; have Mz86 := blk_frozen MB71.out 5; have Mx87 : Mw70.cell? ⟨Mg18, 0, none⟩ = some (.int .i64 out) := (blk_cell MB72.out 0).trans rfl; have Mz88 := blk_frozen MB72.out 0; have Mx89 : Mw70.cell? ⟨Mg18, 1, none⟩ = some (.int .i64 last) := (blk_cell MB72.out 1).trans rfl; have Mz90 := blk_frozen MB72.out 1; have Mx91 : Mw70.cell? ⟨Mg41, 0, none⟩ = some (.int .i64 0) := (blk_cell MB73.out 0).trans rfl; have Mz92 := blk_frozen MB73.out 0; have Mx93 : Mw70.cell? ⟨Mg41, 1, none⟩ = some (.int .i64 0) := (blk_cell MB73.out 1).trans rfl; have Mz94 := blk_frozen MB73.out 1)) | ((go_at_call 33); (with_reducible refine (control_in.calls out g.f3 g.f4 true _ ((in_f _ _ _).trans (congrArg some (decide_eq_true HO.out)))).mono ?_; rintro e Mw95 ⟨rfl, hb0_⟩; have hb_ := hb0_.below; clear hb0_; have MB96 := Aside0.mk (blk_below MB71.out hb_); have MB97 := Aside0.mk (blk_below MB72.out hb_); have MB98 := Aside0.mk (blk_below MB73.out hb_); have MH99 := Aside0.mk (below_step MH74.out hb_); clear hb_; clear Mx75 Mz76 Mx77 Mz78 Mx79 Mz80 Mx81 Mz82 Mx83 Mz84 Mx85 Mz86 Mx87 Mz88 Mx89 Mz90 Mx91 Mz92 Mx93 Mz94; have Mx100 : Mw95.cell? ⟨Mg1, 0, none⟩ = some (.int .i64 g.f0) := (blk_cell MB96.out 0).trans rfl; have Mz101 := blk_frozen MB96.out 0; have Mx102 : Mw95.cell? ⟨Mg1, 1, none⟩ = some (.int .i64 g.f1) := (blk_cell MB96.out 1).trans rfl; have Mz103 := blk_frozen MB96.out 1; have Mx104 : Mw95.cell? ⟨Mg1, 2, none⟩ = some (.int .i64 g.f2) := (blk_cell MB96.out 2).trans rfl; have Mz105 := blk_frozen MB96.out 2; have Mx106 : Mw95.cell? ⟨Mg1, 3, none⟩ = some (.int .i64 g.f3) := (blk_cell MB96.out 3).trans rfl; have Mz107 := blk_frozen MB96.out 3; have Mx108 : Mw95.cell? ⟨Mg1, 4, none⟩ = some (.int .i64 g.f4) := (blk_cell MB96.out 4).trans rfl; have Mz109 := blk_frozen MB96.out 4; have Mx110 : Mw95.cell? ⟨Mg1, 5, none⟩ = some (.int .i64 g.f5) := (blk_cell MB96.out 5).trans rfl; have Mz111 := blk_frozen MB96.out 5; have Mx112 : Mw95.cell? ⟨Mg18, 0, none⟩ = some (.int .i64 out) := (blk_cell MB97.out 0).trans rfl; have Mz113 := blk_frozen MB97.out 0; have Mx114 : Mw95.cell? ⟨Mg18, 1, none⟩ = some (.int .i64 last) := (blk_cell MB97.out 1).trans rfl; have Mz115 := blk_frozen MB97.out 1; have Mx116 : Mw95.cell? ⟨Mg41, 0, none⟩ = some (.int .i64 0) := (blk_cell MB98.out 0).trans rfl; have Mz117 := blk_frozen MB98.out 0; have Mx118 : Mw95.cell? ⟨Mg41, 1, none⟩ = some (.int .i64 0) := (blk_cell MB98.out 1).trans rfl; have Mz119 := blk_frozen MB98.out 1)) | ((go_at_call 33); (with_reducible refine (control_in.calls last (-67108864) 67108864 true _ ((in_f _ _ _).trans (congrArg some (decide_eq_true HL.out)))).mono ?_; rintro e Mw120 ⟨rfl, hb0_⟩; have hb_ := hb0_.below; clear hb0_; have MB121 := Aside0.mk (blk_below MB96.out hb_); have MB122 := Aside0.mk (blk_below MB97.out hb_); have MB123 := Aside0.mk (blk_below MB98.out hb_); have MH124 := Aside0.mk (below_step MH99.out hb_); clear hb_; clear Mx100 Mz101 Mx102 Mz103 Mx104 Mz105 Mx106 Mz107 Mx108 Mz109 Mx110 Mz111 Mx112 Mz113 Mx114 Mz115 Mx116 Mz117 Mx118 Mz119; have Mx125 : Mw120.cell? ⟨Mg1, 0, none⟩ = some (.int .i64 g.f0) := (blk_cell MB121.out 0).trans rfl; have Mz126 := blk_frozen MB121.out 0; have Mx127 : Mw120.cell? ⟨Mg1, 1, none⟩ = some (.int .i64 g.f1) := (blk_cell MB121.out 1).trans rfl; have Mz128 := blk_frozen MB121.out 1; have Mx129 : Mw120.cell? ⟨Mg1, 2, none⟩ = some (.int .i64 g.f2) := (blk_cell MB121.out 2).trans rfl; have Mz130 := blk_frozen MB121.out 2; have Mx131 : Mw120.cell? ⟨Mg1, 3, none⟩ = some (.int .i64 g.f3) := (blk_cell MB121.out 3).trans rfl; have Mz132 := blk_frozen MB121.out 3; have Mx133 : Mw120.cell? ⟨Mg1, 4, none⟩ = some (.int .i64 g.f4) := (blk_cell MB121.out 4).trans rfl; have Mz134 := blk_frozen MB121.out 4; have Mx135 : Mw120.cell? ⟨Mg1, 5, none⟩ = some (.int .i64 g.f5) := (blk_cell MB121.out 5).trans rfl; have Mz136 := blk_frozen MB121.out 5; have Mx137 : Mw120.cell? ⟨Mg18, 0, none⟩ = some (.int .i64 out) := (blk_cell MB122.out 0).trans rfl; have Mz138 := blk_frozen MB122.out 0; have Mx139 : Mw120.cell? ⟨Mg18, 1, none⟩ = some (.int .i64 last) := (blk_cell MB122.out 1).trans rfl; have Mz140 := blk_frozen MB122.out 1; have Mx141 : Mw120.cell? ⟨Mg41, 0, none⟩ = some (.int .i64 0) := (blk_cell MB123.out 0).trans rfl; have Mz142 := blk_frozen MB123.out 0; have Mx143 : Mw120.cell? ⟨Mg41, 1, none⟩ = some (.int .i64 0) := (blk_cell MB123.out 1).trans rfl; have Mz144 := blk_frozen MB123.out 1)) | ((go_at_call 33); (with_reducible refine (control_in.calls set (-33554432) 33554432 true _ ((in_f _ _ _).trans (congrArg some (decide_eq_true HS.out)))).mono ?_; rintro e Mw145 ⟨rfl, hb0_⟩; have hb_ := hb0_.below; clear hb0_; have MB146 := Aside0.mk (blk_below MB121.out hb_); have MB147 := Aside0.mk (blk_below MB122.out hb_); have MB148 := Aside0.mk (blk_below MB123.out hb_); have MH149 := Aside0.mk (below_step MH124.out hb_); clear hb_; clear Mx125 Mz126 Mx127 Mz128 Mx129 Mz130 Mx131 Mz132 Mx133 Mz134 Mx135 Mz136 Mx137 Mz138 Mx139 Mz140 Mx141 Mz142 Mx143 Mz144; have Mx150 : Mw145.cell? ⟨Mg1, 0, none⟩ = some (.int .i64 g.f0) := (blk_cell MB146.out 0).trans rfl; have Mz151 := blk_frozen MB146.out 0; have Mx152 : Mw145.cell? ⟨Mg1, 1, none⟩ = some (.int .i64 g.f1) := (blk_cell MB146.out 1).trans rfl; have Mz153 := blk_frozen MB146.out 1; have Mx154 : Mw145.cell? ⟨Mg1, 2, none⟩ = some (.int .i64 g.f2) := (blk_cell MB146.out 2).trans rfl; have Mz155 := blk_frozen MB146.out 2; have Mx156 : Mw145.cell? ⟨Mg1, 3, none⟩ = some (.int .i64 g.f3) := (blk_cell MB146.out 3).trans rfl; have Mz157 := blk_frozen MB146.out 3; have Mx158 : Mw145.cell? ⟨Mg1, 4, none⟩ = some (.int .i64 g.f4) := (blk_cell MB146.out 4).trans rfl; have Mz159 := blk_frozen MB146.out 4; have Mx160 : Mw145.cell? ⟨Mg1, 5, none⟩ = some (.int .i64 g.f5) := (blk_cell MB146.out 5).trans rfl; have Mz161 := blk_frozen MB146.out 5; have Mx162 : Mw145.cell? ⟨Mg18, 0, none⟩ = some (.int .i64 out) := (blk_cell MB147.out 0).trans rfl; have Mz163 := blk_frozen MB147.out 0; have Mx164 : Mw145.cell? ⟨Mg18, 1, none⟩ = some (.int .i64 last) := (blk_cell MB147.out 1).trans rfl; have Mz165 := blk_frozen MB147.out 1; have Mx166 : Mw145.cell? ⟨Mg41, 0, none⟩ = some (.int .i64 0) := (blk_cell MB148.out 0).trans rfl; have Mz167 := blk_frozen MB148.out 0; have Mx168 : Mw145.cell? ⟨Mg41, 1, none⟩ = some (.int .i64 0) := (blk_cell MB148.out 1).trans rfl; have Mz169 := blk_frozen MB148.out 1)) | ((go_at_call 33); (with_reducible refine (control_in.calls v (-33554432) 33554432 true _ ((in_f _ _ _).trans (congrArg some (decide_eq_true HV.out)))).mono ?_; rintro e Mw170 ⟨rfl, hb0_⟩; have hb_ := hb0_.below; clear hb0_; have MB171 := Aside0.mk (blk_below MB146.out hb_); have MB172 := Aside0.mk (blk_below MB147.out hb_); have MB173 := Aside0.mk (blk_below MB148.out hb_); have MH174 := Aside0.mk (below_step MH149.out hb_); clear hb_; clear Mx150 Mz151 Mx152 Mz153 Mx154 Mz155 Mx156 Mz157 Mx158 Mz159 Mx160 Mz161 Mx162 Mz163 Mx164 Mz165 Mx166 Mz167 Mx168 Mz169; have Mx175 : Mw170.cell? ⟨Mg1, 0, none⟩ = some (.int .i64 g.f0) := (blk_cell MB171.out 0).trans rfl; have Mz176 := blk_frozen MB171.out 0; have Mx177 : Mw170.cell? ⟨Mg1, 1, none⟩ = some (.int .i64 g.f1) := (blk_cell MB171.out 1).trans rfl; have Mz178 := blk_frozen MB171.out 1; have Mx179 : Mw170.cell? ⟨Mg1, 2, none⟩ = some (.int .i64 g.f2) := (blk_cell MB171.out 2).trans rfl; have Mz180 := blk_frozen MB171.out 2; have Mx181 : Mw170.cell? ⟨Mg1, 3, none⟩ = some (.int .i64 g.f3) := (blk_cell MB171.out 3).trans rfl; have Mz182 := blk_frozen MB171.out 3; have Mx183 : Mw170.cell? ⟨Mg1, 4, none⟩ = some (.int .i64 g.f4) := (blk_cell MB171.out 4).trans rfl; have Mz184 := blk_frozen MB171.out 4; have Mx185 : Mw170.cell? ⟨Mg1, 5, none⟩ = some (.int .i64 g.f5) := (blk_cell MB171.out 5).trans rfl; have Mz186 := blk_frozen MB171.out 5; have Mx187 : Mw170.cell? ⟨Mg18, 0, none⟩ = some (.int .i64 out) := (blk_cell MB172.out 0).trans rfl; have Mz188 := blk_frozen MB172.out 0; have Mx189 : Mw170.cell? ⟨Mg18, 1, none⟩ = some (.int .i64 last) := (blk_cell MB172.out 1).trans rfl; have Mz190 := blk_frozen MB172.out 1; have Mx191 : Mw170.cell? ⟨Mg41, 0, none⟩ = some (.int .i64 0) := (blk_cell MB173.out 0).trans rfl; have Mz192 := blk_frozen MB173.out 0; have Mx193 : Mw170.cell? ⟨Mg41, 1, none⟩ = some (.int .i64 0) := (blk_cell MB173.out 1).trans rfl; have Mz194 := blk_frozen MB173.out 1)))
  have hneg : IntKind.i64.wrap (-g.f5) = -g.f5 := IntWalk.i64_in _ (by have := ckG_is HG.out; omega)
  refine start_ (n := 13) (S := fun w' => w'.cell? ⟨Mg1, 3, none⟩ = some (.int .i64 g.f3) ∧ w'.cell? ⟨Mg1, 4, none⟩ = some (.int .i64 g.f4) ∧ w'.cell? ⟨Mg1, 5, none⟩ = some (.int .i64 g.f5)) (ds := []) #[false, false, false, false, false, false, false, false, false, false, false, false, false] (by kernel_rfl) rfl rfl ⟨(blk_cell (blk_drew MB171.out) 3).trans rfl, (blk_cell (blk_drew MB171.out) 4).trans rfl, (blk_cell (blk_drew MB171.out) 5).trans rfl⟩ (fun hHeld => ?_); refine with_tabW stepR.tab8 stepR.bits8 (fun HT_ HW_ => ?_)
  have HB_wa := Aside0.mk (below_drew1 MH174.out); have Hg_wa := Aside0.mk (blk_drew MB171.out); have Hc_wa := Aside0.mk (blk_drew MB172.out); have Hr_wa := Aside0.mk (blk_drew MB173.out); generalize Mw170.drew = wa at HB_wa Hg_wa Hc_wa Hr_wa hHeld ⊢
  refine pure_ (i := 0) (N := some 47) (v := ?_) (a' := ?_) #[true, false, false, false, false, false, false, false, false, false, false, false, false] rfl rfl (any_of HT_.out (by kernel_rfl)) (fun _ _ _ h => h) (Or.inl ⟨by rfl, ?_⟩) ?_ ?_
  rotate_left
  · intro w'
    go_simp
    with_reducible rfl
  rotate_left
  · simp only [Act.put, List.setIfInBounds_toArray, List.set_cons_zero, List.set_cons_succ, i64_w, i32_w]
    rfl
  refine pure_ (i := 3) (N := some 50) (v := ?_) (a' := ?_) #[true, false, false, true, false, false, false, false, false, false, false, false, false] rfl rfl (any_of HT_.out (by kernel_rfl)) (fun _ _ _ h => h) (Or.inl ⟨by rfl, ?_⟩) ?_ ?_
  rotate_left
  · intro w'
    go_simp
    with_reducible rfl
  rotate_left
  · simp only [Act.put, List.setIfInBounds_toArray, List.set_cons_zero, List.set_cons_succ, i64_w, i32_w]
    rfl
  refine pure_ (i := 6) (N := some 53) (v := ?_) (a' := ?_) #[true, false, false, true, false, false, true, false, false, false, false, false, false] rfl rfl (any_of HT_.out (by kernel_rfl)) (fun _ _ _ h => h) (Or.inl ⟨by rfl, ?_⟩) ?_ ?_
  rotate_left
  · intro w'
    go_simp
    with_reducible rfl
  rotate_left
  · simp only [Act.put, List.setIfInBounds_toArray, List.set_cons_zero, List.set_cons_succ, i64_w, i32_w]
    rfl
  refine pure_ (i := 8) (N := some 55) (v := ?_) (a' := ?_) #[true, false, false, true, false, false, true, false, true, false, false, false, false] rfl rfl (any_of HT_.out (by kernel_rfl)) (fun _ _ _ h => h) (Or.inl ⟨by rfl, ?_⟩) ?_ ?_
  rotate_left
  · intro w'
    go_simp
    with_reducible rfl
  rotate_left
  · simp only [Act.put, List.setIfInBounds_toArray, List.set_cons_zero, List.set_cons_succ, i64_w, i32_w]
    rfl
  refine take_ (i := 1) (N := some 48) (v := ?_) (a' := ?_) #[true, true, false, true, false, false, true, false, true, false, false, false, false] rfl rfl (take_ofW HT_.out HW_.out (by kernel_rfl)) (fun _ _ _ h => h) (Or.inl ⟨by rfl, ?_⟩) hHeld ?_ ?_
  rotate_left
  · rintro w' ⟨s0, s1, s2⟩
    go_simp
    with_reducible rfl
  rotate_left
  · simp only [Act.put, List.setIfInBounds_toArray, List.set_cons_zero, List.set_cons_succ, i64_w, i32_w]
    rfl
  refine pure_ (i := 2) (N := some 49) (v := ?_) (a' := ?_) #[true, true, true, true, false, false, true, false, true, false, false, false, false] rfl rfl (any_of HT_.out (by kernel_rfl)) (fun _ _ _ h => h) (Or.inl ⟨by rfl, ?_⟩) ?_ ?_
  rotate_left
  · intro w'
    go_simp
    with_reducible rfl
  rotate_left
  · simp only [Act.put, List.setIfInBounds_toArray, List.set_cons_zero, List.set_cons_succ, i64_w, i32_w]
    rfl
  refine take_ (i := 4) (N := some 51) (v := ?_) (a' := ?_) #[true, true, true, true, true, false, true, false, true, false, false, false, false] rfl rfl (take_ofW HT_.out HW_.out (by kernel_rfl)) (fun _ _ _ h => h) (Or.inl ⟨by rfl, ?_⟩) hHeld ?_ ?_
  rotate_left
  · rintro w' ⟨s0, s1, s2⟩
    go_simp
    with_reducible rfl
  rotate_left
  · simp only [Act.put, List.setIfInBounds_toArray, List.set_cons_zero, List.set_cons_succ, i64_w, i32_w]
    rfl
  refine take_ (i := 7) (N := some 54) (v := ?_) (a' := ?_) #[true, true, true, true, true, false, true, true, true, false, false, false, false] rfl rfl (take_ofW HT_.out HW_.out (by kernel_rfl)) (fun _ _ _ h => h) (Or.inl ⟨by rfl, ?_⟩) hHeld ?_ ?_
  rotate_left
  · rintro w' ⟨s0, s1, s2⟩
    go_simp
    with_reducible rfl
  rotate_left
  · simp only [Act.put, List.setIfInBounds_toArray, List.set_cons_zero, List.set_cons_succ, i64_w, i32_w]
    rfl
  refine take_ (i := 9) (N := some 56) (v := ?_) (a' := ?_) #[true, true, true, true, true, false, true, true, true, true, false, false, false] rfl rfl (take_ofW HT_.out HW_.out (by kernel_rfl)) (fun _ _ _ h => h) (Or.inl ⟨by rfl, ?_⟩) hHeld ?_ ?_
  rotate_left
  · rintro w' ⟨s0, s1, s2⟩
    go_simp
    with_reducible rfl
  rotate_left
  · simp only [Act.put, List.setIfInBounds_toArray, List.set_cons_zero, List.set_cons_succ, i64_w, i32_w]
    rfl
  refine one_ (i := 5) (N := some 52) #[true, true, true, true, true, true, true, true, true, true, false, false, false] rfl rfl (one_of HT_.out (by kernel_rfl)) (by decide) (fun K hK => ?_)
  refine goes_ Try.func36 (by kernel_rfl) rfl #[.int .i64 (-g.f5), .int .i64 g.f5] (by rfl) rfl rfl (by simp only [List.map_toArray, List.map_cons, List.map_nil]; rfl) ?_
  with_reducible refine (limit_calls (-g.f5) g.f5 _).mono ?_
  rintro e wb ⟨a0, b0, rfl, ha, hc, hb⟩
  refine ⟨_, rfl, ?_⟩
  have HB_wb := Aside0.mk (below_step HB_wa.out hb)
  have Hg_wb := Aside0.mk (blk_below Hg_wa.out hb)
  have Hc_wb := Aside0.mk (blk_below Hc_wa.out hb)
  have Hr_wb := Aside0.mk (blk_below Hr_wa.out hb)
  have HX0 := Aside0.mk (And.intro ha hc)
  clear ha hc
  refine hK.out _ _ ⟨(hb.cell (World.block_lt_of_cell? _ _ (hHeld.1))).trans (hHeld.1), (hb.cell (World.block_lt_of_cell? _ _ (hHeld.2.1))).trans (hHeld.2.1), (hb.cell (World.block_lt_of_cell? _ _ (hHeld.2.2))).trans (hHeld.2.2)⟩ (fun hHeld => ?_)
  clear hK K
  refine norm_ (a' := ?_) ?_ ?_
  rotate_left
  · show Act.put _ (some 52) _ = _
    simp only [Act.put, List.setIfInBounds_toArray, List.set_cons_zero, List.set_cons_succ, i64_w, i32_w]
    rfl
  refine one_ (i := 10) (N := some 57) #[true, true, true, true, true, true, true, true, true, true, true, false, false] rfl rfl (one_of HT_.out (by kernel_rfl)) (by decide) (fun K hK => ?_)
  refine goes_ Try.func36 (by kernel_rfl) rfl #[.int .i64 (g.f3), .int .i64 g.f4] (by rfl) rfl rfl (by simp only [List.map_toArray, List.map_cons, List.map_nil]; rfl) ?_
  with_reducible refine (limit_calls (g.f3) g.f4 _).mono ?_
  rintro e wc ⟨a1, b1, rfl, ha, hc, hb⟩
  refine ⟨_, rfl, ?_⟩
  have HB_wc := Aside0.mk (below_step HB_wb.out hb)
  have Hg_wc := Aside0.mk (blk_below Hg_wb.out hb)
  have Hc_wc := Aside0.mk (blk_below Hc_wb.out hb)
  have Hr_wc := Aside0.mk (blk_below Hr_wb.out hb)
  have HX1 := Aside0.mk (And.intro (blk_below HX0.out.1 hb) (blk_below HX0.out.2 hb))
  have HX2 := Aside0.mk (And.intro ha hc)
  clear ha hc
  refine hK.out _ _ ⟨(hb.cell (World.block_lt_of_cell? _ _ (hHeld.1))).trans (hHeld.1), (hb.cell (World.block_lt_of_cell? _ _ (hHeld.2.1))).trans (hHeld.2.1), (hb.cell (World.block_lt_of_cell? _ _ (hHeld.2.2))).trans (hHeld.2.2)⟩ (fun hHeld => ?_)
  clear hK K
  refine norm_ (a' := ?_) ?_ ?_
  rotate_left
  · show Act.put _ (some 57) _ = _
    simp only [Act.put, List.setIfInBounds_toArray, List.set_cons_zero, List.set_cons_succ, i64_w, i32_w]
    rfl
  refine pure_ (i := 11) (N := some 11) (v := ?_) (a' := ?_) #[true, true, true, true, true, true, true, true, true, true, true, true, false] rfl rfl (any_of HT_.out (by kernel_rfl)) (fun _ _ _ h => h) (Or.inl ⟨by rfl, ?_⟩) ?_ ?_
  rotate_left
  · intro w'
    go_simp
    with_reducible rfl
  rotate_left
  · simp only [Act.put, List.setIfInBounds_toArray, List.set_cons_zero, List.set_cons_succ, i64_w, i32_w]
    rfl
  refine pure_ (i := 12) (N := some 12) (v := ?_) (a' := ?_) #[true, true, true, true, true, true, true, true, true, true, true, true, true] rfl rfl (any_of HT_.out (by kernel_rfl)) (fun _ _ _ h => h) (Or.inl ⟨by rfl, ?_⟩) ?_ ?_
  rotate_left
  · intro w'
    go_simp
    with_reducible rfl
  rotate_left
  · simp only [Act.put, List.setIfInBounds_toArray, List.set_cons_zero, List.set_cons_succ, i64_w, i32_w]
    rfl
  refine done_ (done_of HT_.out (by kernel_rfl)) ?_
  clear hHeld hneg
  obtain ⟨⟨g0, g1, g2, g3, g4, g5⟩, ⟨g6, g7, g8, g9⟩, g10⟩ := ckG_is HG.out
  have q1 : wrap64 (set - v) = set - v := by have := HS.out; have := HV.out; unfold wrap64; omega
  have q2 : wrap64 (set - v - last) = set - v - last := by have := HS.out; have := HV.out; have := HL.out; unfold wrap64; omega
  have m1 := mul_rng (a := g.f0) (A := 65536) (b := set - v - last) (B := 134217728) g0 g1 (by have := HS.out; have := HV.out; have := HL.out; omega) (by have := HS.out; have := HV.out; have := HL.out; omega) (by decide)
  have m2 := mul_rng (a := g.f1) (A := 65536) (b := set - v) (B := 67108864) g2 g3 (by have := HS.out; have := HV.out; omega) (by have := HS.out; have := HV.out; omega) (by decide)
  have q3 : wrap64 (g.f0 * (set - v - last)) = g.f0 * (set - v - last) := by unfold wrap64; omega
  have q4 : wrap64 (g.f1 * (set - v)) = g.f1 * (set - v) := by unfold wrap64; omega
  have q5 : wrap64 (g.f0 * (set - v - last) + g.f1 * (set - v)) = g.f0 * (set - v - last) + g.f1 * (set - v) := by unfold wrap64; omega
  clear m1 m2 g0 g1 g2 g3 g6 g7 g8 g9 g10
  have sg0 : wc.cell? ⟨Mg1, 0, none⟩ = some (.int .i64 g.f0) := (blk_cell Hg_wc.out 0).trans rfl
  have sg1 : wc.cell? ⟨Mg1, 1, none⟩ = some (.int .i64 g.f1) := (blk_cell Hg_wc.out 1).trans rfl
  have sg2 : wc.cell? ⟨Mg1, 2, none⟩ = some (.int .i64 g.f2) := (blk_cell Hg_wc.out 2).trans rfl
  have sg3 : wc.cell? ⟨Mg1, 3, none⟩ = some (.int .i64 g.f3) := (blk_cell Hg_wc.out 3).trans rfl
  have sg4 : wc.cell? ⟨Mg1, 4, none⟩ = some (.int .i64 g.f4) := (blk_cell Hg_wc.out 4).trans rfl
  have sg5 : wc.cell? ⟨Mg1, 5, none⟩ = some (.int .i64 g.f5) := (blk_cell Hg_wc.out 5).trans rfl
  have sc0 : wc.cell? ⟨Mg18, 0, none⟩ = some (.int .i64 out) := (blk_cell Hc_wc.out 0).trans rfl
  have sc1 : wc.cell? ⟨Mg18, 1, none⟩ = some (.int .i64 last) := (blk_cell Hc_wc.out 1).trans rfl
  go_wp2_with fail
  clear sg0 sg1 sg2 sg3 sg4 sg5 sc0 sc1 q2 q3 q4 q5 g4 g5
  rw [q1]
  have hst : stepOut g out last set v = clampI g.f3 g.f4 (out + clampI (-g.f5) g.f5 ((g.f0 * (set - v - last) + g.f1 * (set - v)) / 2 ^ g.f2.toNat)) := rfl
  generalize (g.f0 * (set - v - last) + g.f1 * (set - v)) / 2 ^ g.f2.toNat = n at hst ⊢
  obtain ⟨m, hm⟩ : ∃ m, clampI (-g.f5) g.f5 n = m := ⟨_, rfl⟩
  have hm2 := clampI_in (lo := -g.f5) (hi := g.f5) (by have := ckG_is HG.out; omega) n
  rw [hm] at hst hm2
  obtain ⟨o2, ho2⟩ : ∃ o2, clampI g.f3 g.f4 (out + m) = o2 := ⟨_, rfl⟩
  rw [ho2] at hst
  have HST := Aside0.mk hst
  have HM := Aside0.mk hm
  have HO2 := Aside0.mk ho2
  have hsum : IntKind.i64.wrap (out + m) = out + m := IntWalk.i64_in _ (by have := ckG_is HG.out; have := HO.out; omega)
  clear hm ho2 hst hm2 q1
  refine start_ (n := 12) (S := fun w' => w'.cell? ⟨Mg18, 0, none⟩ = some (.int .i64 out)) (ds := [10]) #[false, false, false, false, false, false, false, false, false, false, false, false] (by kernel_rfl) rfl rfl ((blk_cell (blk_drew Hc_wc.out) 0).trans rfl) (fun hHeld => ?_); refine with_tabW stepS.tab11 stepS.bits11 (fun HT_ HW_ => ?_)
  have HB_wd := Aside0.mk (below_drew1 HB_wc.out); have Hr_wd := Aside0.mk (blk_drew Hr_wc.out); have HX1wd := Aside0.mk (And.intro (blk_drew HX1.out.1) (blk_drew HX1.out.2)); have HX2wd := Aside0.mk (And.intro (blk_drew HX2.out.1) (blk_drew HX2.out.2)); generalize wc.drew = wd at HB_wd Hr_wd HX1wd HX2wd hHeld ⊢
  refine pure_ (i := 0) (N := some 76) (v := ?_) (a' := ?_) #[true, false, false, false, false, false, false, false, false, false, false, false] rfl rfl (any_of HT_.out (by kernel_rfl)) (fun _ _ _ h => h) (Or.inl ⟨by rfl, ?_⟩) ?_ ?_
  rotate_left
  · intro w'
    go_simp
    with_reducible rfl
  rotate_left
  · simp only [Act.put, List.setIfInBounds_toArray, List.set_cons_zero, List.set_cons_succ, i64_w, i32_w]
    rfl
  refine pure_ (i := 1) (N := some 77) (v := ?_) (a' := ?_) #[true, true, false, false, false, false, false, false, false, false, false, false] rfl rfl (any_of HT_.out (by kernel_rfl)) (fun _ _ _ h => h) (Or.inl ⟨by rfl, ?_⟩) ?_ ?_
  rotate_left
  · intro w'
    go_simp
    with_reducible rfl
  rotate_left
  · simp only [Act.put, List.setIfInBounds_toArray, List.set_cons_zero, List.set_cons_succ, i64_w, i32_w]
    rfl
  refine pure_ (i := 3) (N := some 79) (v := ?_) (a' := ?_) #[true, true, false, true, false, false, false, false, false, false, false, false] rfl rfl (any_of HT_.out (by kernel_rfl)) (fun _ _ _ h => h) (Or.inl ⟨by rfl, ?_⟩) ?_ ?_
  rotate_left
  · intro w'
    go_simp
    with_reducible rfl
  rotate_left
  · simp only [Act.put, List.setIfInBounds_toArray, List.set_cons_zero, List.set_cons_succ, i64_w, i32_w]
    rfl
  refine pure_ (i := 4) (N := some 80) (v := ?_) (a' := ?_) #[true, true, false, true, true, false, false, false, false, false, false, false] rfl rfl (any_of HT_.out (by kernel_rfl)) (fun _ _ _ h => h) (Or.inl ⟨by rfl, ?_⟩) ?_ ?_
  rotate_left
  · intro w'
    go_simp
    with_reducible rfl
  rotate_left
  · simp only [Act.put, List.setIfInBounds_toArray, List.set_cons_zero, List.set_cons_succ, i64_w, i32_w]
    rfl
  refine pure_ (i := 8) (N := some 84) (v := ?_) (a' := ?_) #[true, true, false, true, true, false, false, false, true, false, false, false] rfl rfl (any_of HT_.out (by kernel_rfl)) (fun _ _ _ h => h) (Or.inl ⟨by rfl, ?_⟩) ?_ ?_
  rotate_left
  · intro w'
    go_simp
    with_reducible rfl
  rotate_left
  · simp only [Act.put, List.setIfInBounds_toArray, List.set_cons_zero, List.set_cons_succ, i64_w, i32_w]
    rfl
  refine take_ (i := 2) (N := some 78) (v := ?_) (a' := ?_) #[true, true, true, true, true, false, false, false, true, false, false, false] rfl rfl (take_ofW HT_.out HW_.out (by kernel_rfl)) (fun _ _ _ h => h) (Or.inl ⟨by rfl, ?_⟩) hHeld ?_ ?_
  rotate_left
  · intro w' s0
    go_simp
    with_reducible rfl
  rotate_left
  · simp only [Act.put, List.setIfInBounds_toArray, List.set_cons_zero, List.set_cons_succ, i64_w, i32_w]
    rfl
  refine one_ (i := 5) (N := some 81) #[true, true, true, true, true, true, false, false, true, false, false, false] rfl rfl (one_of HT_.out (by kernel_rfl)) (by decide) (fun K hK => ?_)
  refine goesV_ (f := 39) (cap := #[.pointer (some ⟨a0, 0, none⟩), .pointer (some ⟨b0, 0, none⟩)]) Try.func39 (by kernel_rfl) rfl #[.int .i64 (n), .pointer (some ⟨a0, 0, none⟩), .pointer (some ⟨b0, 0, none⟩)] (by rfl) rfl rfl (by rfl) (by simp only [List.map_toArray, List.map_cons, List.map_nil]; rfl) ?_
  with_reducible refine (clamp_calls (n) (-g.f5) g.f5 a0 b0 _ ((blk_cell HX1wd.out.1 0).trans rfl) ((blk_cell HX1wd.out.2 0).trans rfl) m HM.out).mono ?_
  rintro e we ⟨rfl, hb⟩
  refine ⟨_, rfl, ?_⟩
  have HB_we := Aside0.mk (below_step HB_wd.out hb)
  have Hr_we := Aside0.mk (blk_below Hr_wd.out hb)
  have HX2we := Aside0.mk (And.intro (blk_below HX2wd.out.1 hb) (blk_below HX2wd.out.2 hb))
  refine hK.out _ _ ((hb.cell (World.block_lt_of_cell? _ _ hHeld)).trans hHeld) (fun hHeld => ?_)
  clear hK K
  refine norm_ (a' := ?_) ?_ ?_
  rotate_left
  · show Act.put _ (some 81) _ = _
    simp only [Act.put, List.setIfInBounds_toArray, List.set_cons_zero, List.set_cons_succ, i64_w, i32_w]
    rfl
  refine pure_ (i := 6) (N := some 82) (v := ?_) (a' := ?_) #[true, true, true, true, true, true, true, false, true, false, false, false] rfl rfl (any_of HT_.out (by kernel_rfl)) (fun _ _ _ h => h) (Or.inl ⟨by rfl, ?_⟩) ?_ ?_
  rotate_left
  · intro w'
    go_simp
    with_reducible rfl
  rotate_left
  · simp only [Act.put, List.setIfInBounds_toArray, List.set_cons_zero, List.set_cons_succ, i64_w, i32_w]
    rfl
  refine one_ (i := 7) (N := some 83) #[true, true, true, true, true, true, true, true, true, false, false, false] rfl rfl (one_of HT_.out (by kernel_rfl)) (by decide) (fun K hK => ?_)
  refine goesV_ (f := 39) (cap := #[.pointer (some ⟨a1, 0, none⟩), .pointer (some ⟨b1, 0, none⟩)]) Try.func39 (by kernel_rfl) rfl #[.int .i64 (out + m), .pointer (some ⟨a1, 0, none⟩), .pointer (some ⟨b1, 0, none⟩)] (by rfl) rfl rfl (by rfl) (by simp only [List.map_toArray, List.map_cons, List.map_nil]; rfl) ?_
  with_reducible refine (clamp_calls (out + m) (g.f3) g.f4 a1 b1 _ ((blk_cell HX2we.out.1 0).trans rfl) ((blk_cell HX2we.out.2 0).trans rfl) o2 HO2.out).mono ?_
  rintro e wf ⟨rfl, hb⟩
  refine ⟨_, rfl, ?_⟩
  have HB_wf := Aside0.mk (below_step HB_we.out hb)
  have Hr_wf := Aside0.mk (blk_below Hr_we.out hb)
  have hx0 : wf.cell? ⟨Mg41, 0, none⟩ = some (.int .i64 0) := (blk_cell Hr_wf.out 0).trans rfl
  have hx1 : wf.cell? ⟨Mg41, 1, none⟩ = some (.int .i64 0) := (blk_cell Hr_wf.out 1).trans rfl
  have hz0 := blk_frozen Hr_wf.out 0
  have hz1 := blk_frozen Hr_wf.out 1
  refine hK.out _ _ ((hb.cell (World.block_lt_of_cell? _ _ hHeld)).trans hHeld) (fun hHeld => ?_)
  clear hK K
  refine norm_ (a' := ?_) ?_ ?_
  rotate_left
  · show Act.put _ (some 83) _ = _
    simp only [Act.put, List.setIfInBounds_toArray, List.set_cons_zero, List.set_cons_succ, i64_w, i32_w]
    rfl
  refine pure_ (i := 9) (N := some 85) (v := ?_) (a' := ?_) #[true, true, true, true, true, true, true, true, true, true, false, false] rfl rfl (any_of HT_.out (by kernel_rfl)) (fun _ _ _ h => h) (Or.inl ⟨by rfl, ?_⟩) ?_ ?_
  rotate_left
  · intro w'
    go_simp
    with_reducible rfl
  rotate_left
  · simp only [Act.put, List.setIfInBounds_toArray, List.set_cons_zero, List.set_cons_succ, i64_w, i32_w]
    rfl
  refine last_ (i := 10) (N := none) #[true, true, true, true, true, true, true, true, true, true, true, false] rfl rfl (one_of HT_.out (by kernel_rfl)) (by decide) (fun K hK => ?_)
  refine skip_ (w1 := ?_) (by rfl) rfl ?_ ?_
  rotate_left
  · go_simp
    rfl
  refine hK.out _ _ ?_
  clear hK K
  refine pure_ (i := 11) (N := some 9) (v := ?_) (a' := ?_) #[true, true, true, true, true, true, true, true, true, true, true, true] rfl rfl (any_of HT_.out (by kernel_rfl)) (fun _ _ _ h => h) (Or.inl ⟨by rfl, ?_⟩) ?_ ?_
  rotate_left
  · intro w'
    go_simp
    with_reducible rfl
  rotate_left
  · simp only [Act.put, List.setIfInBounds_toArray, List.set_cons_zero, List.set_cons_succ, i64_w, i32_w]
    rfl
  refine done_ (done_of HT_.out (by kernel_rfl)) ?_
  have q := blk_full Hr_wf.out [.int .i64 o2, .int .i64 (set - v)] rfl
  have hgs := blk_lt Hr_wf.out
  go_wp2
  (try simp only [Exit.inBlock, Exit.then])
  refine bodyPost_ret (results_ct rfl _ _ Mg41 82 #[.int .i64 o2, .int .i64 (set - v)] (0, 0) _ rfl q.1 Try.underlying82 rfl (by kernel_rfl)) rfl ?_
  exact ⟨by rw [HST.out]; rfl, HB_wf.out.grown q.2 (below_size HB_wf.out) (fun k hk => by cases hk; exact MG44.out)⟩
structure KeptB (w W : World) (S : Nat → Prop) : Prop where
  k : Kept w W S
  os : W.os = w.os
  tape : W.tape = w.tape
  output : W.output = w.output
section
variable {w W W2 : World} {S S2 : Nat → Prop}
theorem KeptB.refl (w : World) (S : Nat → Prop) : KeptB w w S := ⟨Kept.refl w S, rfl, rfl, rfl⟩
theorem KeptB.of_below (h : Below w.heap.size w W) (S : Nat → Prop) : KeptB w W S := ⟨Kept.of_below h S, h.os, h.tape, h.output⟩
theorem KeptB.then_ (h : KeptB w W S) (k : KeptB W W2 S2) (hs : ∀ k, S2 k → S k ∨ w.heap.size ≤ k) : KeptB w W2 S := ⟨h.k.then_ k.k hs, k.os.trans h.os, k.tape.trans h.tape, k.output.trans h.output⟩
theorem KeptB.of_grown {row : Option Nat} (hg : W.grownBy W2 row) (h : KeptB w W S) (hr : ∀ k, row = some k → S k ∨ w.heap.size ≤ k) : KeptB w W2 S := ⟨Kept.of_grown hg h.k hr, hg.os.trans h.os, hg.tape.trans h.tape, hg.output.trans h.output⟩
theorem KeptB.setCell (h : KeptB w W S) {g o : Nat} (hp : S g ∨ w.heap.size ≤ g) (u : Value) : KeptB w (W.setCell ⟨g, o, none⟩ u) S :=
  have q := setCells_same g [u] o W
  ⟨h.k.setCell hp u, q.1.trans h.os, q.2.1.trans h.tape, q.2.2.1.trans h.output⟩
theorem KeptB.drew (h : KeptB w W S) : KeptB w W.drew S := ⟨h.k.drew, h.os, h.tape, h.output⟩
theorem KeptB.size (h : KeptB w W S) : w.heap.size ≤ W.heap.size := h.k.1
theorem KeptB.below {base : Nat} (h : KeptB w W S) (hs : ∀ k, S k → base ≤ k) (hb : base ≤ w.heap.size) : Below base w W := ⟨h.os, h.tape, h.output, h.k.1, fun i hi => h.k.2 i (by omega) (fun hk => by have := hs i hk; omega)⟩
end
structure St where
  out : Int
  last : Int
  v : Int
  line : List Int
def pushL (l : List Int) (x : Int) : Int × List Int := match l with
  | [] => (x, [])
  | y :: t => (y, t ++ [x])
def St.o (c : S27) (s : St) (set : Int) : Int := stepOut c.f0 s.out s.last set s.v
def nextV (c : S27) (v o dist : Int) : Int := v + ((tgt c.f1 o - v) / c.f1.f1 + dist)
def St.nx (c : S27) (s : St) (set dist : Int) : St := ⟨s.o c set, set - s.v, nextV c s.v (pushL s.line (s.o c set)).1 dist, (pushL s.line (s.o c set)).2⟩
structure St.Ok (c : S27) (s : St) : Prop where
  out : c.f0.f3 ≤ s.out ∧ s.out ≤ c.f0.f4
  last : -67108864 ≤ s.last ∧ s.last ≤ 67108864
  v : -(16777216 + 65536 * c.f1.f1) ≤ s.v ∧ s.v ≤ 16777216 + 65536 * c.f1.f1
  line : ∀ x ∈ s.line, c.f0.f3 ≤ x ∧ x ≤ c.f0.f4
  len : s.line.length ≤ 32
theorem floor_step (v T L : Int) (hL : 1 ≤ L) : v + (T - v) / L = ((L - 1) * v + T) / L := by
  have : (L - 1) * v + T = (T - v) + v * L := by rw [Int.sub_mul, Int.one_mul, Int.mul_comm L v]; omega
  rw [this, Int.add_mul_ediv_right _ _ (by omega)]; omega
theorem band_hi {v T L w d hi : Int} (hL : 1 ≤ L) (hT : T ≤ hi) (hd : d ≤ w) (h : v ≤ hi + w * L) : v + ((T - v) / L + d) ≤ hi + w * L := by
  have e : v + ((T - v) / L + d) = ((L - 1) * v + T) / L + d := by have := floor_step v T L hL; omega
  have h1 : (L - 1) * v + T ≤ (L - 1) * (hi + w * L) + hi := by have := Int.mul_le_mul_of_nonneg_left h (by omega : 0 ≤ L - 1); omega
  have h2 : (L - 1) * (hi + w * L) + hi = (hi + w * L - w) * L := by
    simp only [Int.sub_mul, Int.add_mul, Int.mul_add, Int.one_mul, Int.mul_comm L, Int.mul_assoc]; omega
  have h3 : ((L - 1) * v + T) / L ≤ hi + w * L - w := by
    rw [← Int.mul_ediv_cancel (hi + w * L - w) (by omega : L ≠ 0), ← h2]
    exact Int.ediv_le_ediv (by omega) h1
  omega
theorem band_lo {v T L w d lo : Int} (hL : 1 ≤ L) (hT : lo ≤ T) (hd : -w ≤ d) (h : lo - w * L ≤ v) : lo - w * L ≤ v + ((T - v) / L + d) := by
  have e : v + ((T - v) / L + d) = ((L - 1) * v + T) / L + d := by have := floor_step v T L hL; omega
  have h1 : (L - 1) * (lo - w * L) + lo ≤ (L - 1) * v + T := by have := Int.mul_le_mul_of_nonneg_left h (by omega : 0 ≤ L - 1); omega
  have h2 : (L - 1) * (lo - w * L) + lo = (lo - w * L + w) * L := by
    simp only [Int.sub_mul, Int.add_mul, Int.mul_sub, Int.one_mul, Int.mul_comm L, Int.mul_assoc]; omega
  have h3 : lo - w * L + w ≤ ((L - 1) * v + T) / L := by
    rw [← Int.mul_ediv_cancel (lo - w * L + w) (by omega : L ≠ 0), ← h2]
    exact Int.ediv_le_ediv (by omega) h1
  omega
theorem pushL_length (l : List Int) (x : Int) : (pushL l x).2.length = l.length := by
  unfold pushL
  split
  · rfl
  · simp
theorem pushL_ok {lo hi : Int} {l : List Int} {x : Int} (hl : ∀ y ∈ l, lo ≤ y ∧ y ≤ hi) (hx : lo ≤ x ∧ x ≤ hi) : (lo ≤ (pushL l x).1 ∧ (pushL l x).1 ≤ hi) ∧ ∀ y ∈ (pushL l x).2, lo ≤ y ∧ y ≤ hi := by
  unfold pushL
  split
  · exact ⟨hx, by simp⟩
  · rename_i y t
    refine ⟨hl y (by simp), fun z hz => ?_⟩
    rcases List.mem_append.1 hz with h | h
    · exact hl z (by simp [h])
    · obtain rfl : z = x := by simpa using h
      exact hx
theorem St.Ok.o {c : S27} {s : St} (hc : ckC c = 0) (set : Int) : c.f0.f3 ≤ s.o c set ∧ s.o c set ≤ c.f0.f4 := by
  obtain ⟨hg, _⟩ := ckC_is hc
  exact clampI_in (ckG_is hg).2.2 _
theorem tgt_in {c : S27} (hc : ckC c = 0) {x : Int} (h : c.f0.f3 ≤ x ∧ x ≤ c.f0.f4) : -16777216 ≤ tgt c.f1 x ∧ tgt c.f1 x ≤ 16777216 := by
  obtain ⟨hg, hp, h3, h4⟩ := ckC_is hc
  have hp := ckP_is hp
  have a := tgt_mono (p := c.f1) (by omega) h.1
  have b := tgt_mono (p := c.f1) (by omega) h.2
  have := sg_is h3
  have := sg_is h4
  omega
theorem St.Ok.bound {c : S27} {s : St} (hc : ckC c = 0) (h : s.Ok c) : -33554432 ≤ s.v ∧ s.v ≤ 33554432 := by
  obtain ⟨_, hp, _⟩ := ckC_is hc
  have hp := ckP_is hp
  have := h.v
  omega
theorem St.Ok.nx {c : S27} {s : St} (hc : ckC c = 0) (h : s.Ok c) {set dist : Int} (hs : sg set = true) (hd : -65536 ≤ dist ∧ dist ≤ 65536) : (s.nx c set dist).Ok c := by
  have hp := ckP_is (ckC_is hc).2.1
  have ho := St.Ok.o (s := s) hc set
  have hq := pushL_ok h.line ho
  have ht := tgt_in hc hq.1
  have hv := h.bound hc
  have hsg := sg_is hs
  refine ⟨ho, ?_, ?_, hq.2, by show (pushL s.line (s.o c set)).2.length ≤ 32; rw [pushL_length]; exact h.len⟩
  · show -67108864 ≤ set - s.v ∧ set - s.v ≤ 67108864
    omega
  · show -(16777216 + 65536 * c.f1.f1) ≤ nextV c s.v (pushL s.line (s.o c set)).1 dist ∧ nextV c s.v (pushL s.line (s.o c set)).1 dist ≤ 16777216 + 65536 * c.f1.f1
    unfold nextV
    have a := band_hi (v := s.v) (L := c.f1.f1) (w := 65536) (d := dist) (by omega) ht.2 hd.2 h.v.2
    have b := band_lo (v := s.v) (L := c.f1.f1) (w := 65536) (d := dist) (by omega) ht.1 hd.1 (by have := h.v.1; omega)
    omega
def LP (gl gs gk : Nat) (vk : Value) (k : Nat) : Prop := k = gl ∨ k = gs ∨ k = gk ∨ vk.ownBlock = some k
def lpCells (c : S27) (gs : Nat) (s : St) : Array Value := #[.pointer (some ⟨gs, 0, none⟩), .int .i64 c.f0.f0, .int .i64 c.f0.f1, .int .i64 c.f0.f2, .int .i64 c.f0.f3, .int .i64 c.f0.f4, .int .i64 c.f0.f5, .int .i64 s.out, .int .i64 s.last]
def prCells (c : S27) (gk : Nat) (s : St) : Array Value := #[.int .i64 c.f1.f0, .int .i64 c.f1.f1, .int .i64 c.f1.f2, .int .i64 s.v, .pointer (some ⟨gk, 0, none⟩)]
structure LAt (base : Nat) (c : S27) (gl gs gk : Nat) (vk : Value) (w : World) (s : St) : Prop where
  bl : w.heap[gl]? = some (.cells (lpCells c gs s) 89 (0, 0))
  bs : w.heap[gs]? = some (.cells (prCells c gk s) 98 (0, 0))
  bk : w.heap[gk]? = some (.cells #[vk] 103 (0, 0))
  row : Kd.R (Kd.int .i64) 3 w base (fun k => vk.ownBlock = some k ∧ k ≠ gl ∧ k ≠ gs ∧ k ≠ gk) vk s.line
  ge : base ≤ gl ∧ base ≤ gs ∧ base ≤ gk
section
variable {base gl gs gk : Nat} {c : S27} {vk : Value} {w w' : World} {s : St} {S : Nat → Prop}
theorem LAt.ne (h : LAt base c gl gs gk vk w s) : gl ≠ gs ∧ gl ≠ gk ∧ gs ≠ gk := by
  have a := h.bl
  have b := h.bs
  have d := h.bk
  refine ⟨fun e => ?_, fun e => ?_, fun e => ?_⟩
  · rw [e, b] at a; exact absurd a (by simp)
  · rw [e, d] at a; exact absurd a (by simp)
  · rw [e, d] at b; exact absurd b (by simp)
theorem LAt.lo (h : LAt base c gl gs gk vk w s) (k : Nat) (hk : LP gl gs gk vk k) : base ≤ k ∧ k < w.heap.size := by
  rcases hk with rfl | rfl | rfl | hk
  · exact ⟨h.ge.1, blk_lt h.bl⟩
  · exact ⟨h.ge.2.1, blk_lt h.bs⟩
  · exact ⟨h.ge.2.2, blk_lt h.bk⟩
  · exact ⟨Kd.R_base h.row k hk, Kd.R_lt h.row k hk⟩
theorem LAt.below (h : LAt base c gl gs gk vk w s) (hb : Below w.heap.size w w') : LAt base c gl gs gk vk w' s := ⟨blk_below h.bl hb, blk_below h.bs hb, blk_below h.bk hb, Kd.R_below h.row hb, h.ge⟩
theorem LAt.drew (h : LAt base c gl gs gk vk w s) : LAt base c gl gs gk vk w.drew s := h.below (below_drew1 (Below.refl _ _))
theorem LAt.kept (h : LAt base c gl gs gk vk w s) (hk : Kept w w' S) (hs : ∀ k, LP gl gs gk vk k → ¬ S k) : LAt base c gl gs gk vk w' s :=
  ⟨blk_kept h.bl hk (hs _ (.inl rfl)), blk_kept h.bs hk (hs _ (.inr (.inl rfl))), blk_kept h.bk hk (hs _ (.inr (.inr (.inl rfl)))),
    Kd.R_kept h.row hk (fun k hq => hs k (.inr (.inr (.inr hq.1)))), h.ge⟩
end
theorem copy_runs {P : Program} {W : World} (base : Nat) (t t' e ty : TypeId) (ht : P.underlying t = some (.slice e)) (hinfo : (P.info? e).map (·.size) = some 1) (v : Value) (xs ys : List Int) (A : Option Addr) (m c : Nat) (ok : Nat → Prop)
    (HO : (Kd.int .i64).R e W base ok v xs) (HR : (Kd.int .i64).C W A m ys) :
    ∃ w1, (Builtin.copy_ #[t, t'] ty #[v, .slice A m c]).run P W = .ok (goInt ((min m xs.length : Nat) : Int)) w1 ∧ (Kd.int .i64).R e w1 base ok v (ys.take (min m xs.length) ++ xs.drop (min m xs.length)) ∧ W.grownBy w1 v.ownBlock := by
  have hR := Kd.reads_of_C (enc := Value.int .i64) (d := 0) (h1 := fun _ => rfl) HR
  have hm : ys.length = m := hR.1
  have hown := Kd.own_of_R HO
  rcases Nat.eq_zero_or_pos (min m xs.length) with h0 | hp
  · obtain ⟨A', c', hv⟩ := own_slice hown
    refine ⟨W, ?_, by rw [h0, List.take_zero, List.drop_zero, List.nil_append]; exact HO, World.grownBy.refl W _⟩
    rw [h0, hv]
    exact run_copy_none W t t' ty e A' A xs.length c' m c ht hinfo h0
  · obtain ⟨ad, hA, hc⟩ := hR.2.2 (by omega)
    rcases hown.2 with ⟨_, hx0⟩ | ⟨g, cap, cur, hv, hb, hh, hnc, hcm, hcs, htake⟩
    · omega
    have hcs1 : cur.size = cap := by omega
    have hkl : (encs (Value.int .i64) (ys.take (min m xs.length))).length = min m xs.length := by rw [encs_length, List.length_take]; omega
    have hsrc : ∀ j u, (encs (Value.int .i64) (ys.take (min m xs.length)))[j]? = some u → W.cell? (ad.add j) = some u := by
      intro j u hu
      have hj : j < (ys.take (min m xs.length)).length := by
        rcases Nat.lt_or_ge j (ys.take (min m xs.length)).length with h | h
        · exact h
        · rw [List.getElem?_eq_none (by rw [encs_length]; exact h)] at hu
          cases hu
      have hjm : j < min m xs.length := by rw [List.length_take] at hj; omega
      rw [encs_get (d := 0) _ j hj] at hu
      rw [hc j (by omega), ← hu]
      simp [List.getD_eq_getElem?_getD, hjm]
    have hr := run_copy_cells (P := P) W t t' ty e g 0 xs.length cap ad m c (encs (Value.int .i64) (ys.take (min m xs.length))) ht hinfo (by rw [hkl]) hsrc
      (fun j hj => by rw [cell_of_row W g _ cur e (0, 0) hh]; simp; omega) (fun j _ => blk_frozen hh _) (by intro u hu; simp only [encs, List.mem_map] at hu; obtain ⟨q, _, rfl⟩ := hu; rfl)
    obtain ⟨cur', h3, h4, h5⟩ := setCells_row (encs (Value.int .i64) (ys.take (min m xs.length))) 0 W cur hh (by rw [hkl]; omega)
    obtain ⟨s1, s2, s3, s4⟩ := setCells_same g (encs (Value.int .i64) (ys.take (min m xs.length))) 0 W
    refine ⟨_, by rw [hv, hA, hr, hkl], Kd.R_of_own ?_ HO.1, ⟨s1, s2, s3, by rw [s4]; exact Nat.le_refl _, fun k _ hk => setCells_far _ _ k (fun he => hk (by rw [hv, he]; simp [Value.ownBlock]))⟩⟩
    have hln : (ys.take (min m xs.length) ++ xs.drop (min m xs.length)).length = xs.length := by
      rw [List.length_append, List.length_take, List.length_drop]
      omega
    rw [hln]
    refine ⟨by rw [encs_length, hln, Nat.mul_one], .inr ⟨g, cap, cur', hv, hb, h3, hnc, hcm, by rw [h4, hcs], ?_⟩⟩
    rw [h5, List.take_zero, List.nil_append, hkl, Nat.zero_add, encs_append, Nat.mul_one]
    rw [List.take_append, hkl, List.take_of_length_le (by rw [hkl]; omega)]
    congr 1
    have htk : cur.toList.take xs.length = encs (Value.int .i64) xs := by rw [← htake, Nat.mul_one]
    have hd : encs (Value.int .i64) (xs.drop (min m xs.length)) = (encs (Value.int .i64) xs).drop (min m xs.length) := by simp [encs, List.map_drop]
    rw [hd, ← htk, List.drop_take]
theorem tail_C {w : World} {g cap n : Nat} {y : Int} {t : List Int} (h : (Kd.int .i64).C w (some ⟨g, 0, none⟩) (y :: t).length (y :: t)) (hn : n = t.length + 1) (hc : n ≤ cap) : (Kd.int .i64).C w (if cap = 1 then some (⟨g, 0, none⟩ : Addr) else some ⟨g, 1, none⟩) (n - 1) t := by
  have q := Kd.C_drop (m := 1) (c := cap) h (Nat.succ_pos _) (by rw [List.length_cons, ← hn]; exact hc)
  have e : (if cap = 1 then some (⟨g, 0, none⟩ : Addr) else (some (⟨g, 0, none⟩ : Addr)).map (·.add (1 * (Kd.int .i64).sz))) = if cap = 1 then some (⟨g, 0, none⟩ : Addr) else some ⟨g, 1, none⟩ := rfl
  rw [e] at q
  have e2 : n - 1 = ((y :: t).drop 1).length := by rw [hn]; rfl
  rw [e2]
  exact q
theorem copy_step_ {P : Program} {ops : Array Oper} {Q : Exit → Act → World → Prop} {oi : Oper} {N : Option Tmp} {a : Act} {w : World} {K : Act → World → Prop} (d s : Operand) (t t' : TypeId) (hw : Region.wanted oi (yielded ops a.tmps) = true) (hN : oi.dst = N) (ho : oi.op = .call { callee := .builtin .copy, args := #[d, s], argTypes := #[t, t'] })
    (v src : Value) (hd : a.eval d = v) (hs : a.eval s = src) {r : Value} {w1 : World} (hr : (Builtin.copy_ #[t, t'] oi.type #[v, src]).run P w = .ok r w1) (h : K (a.put N r) w1) : if Region.wanted oi (yielded ops a.tmps) = true then Oper.wp P oi a w K Q else K (a.put N undef) w := by
  refine value_ hw hN ?_ h
  unfold execOp
  simp only [ho, resolve, invoke, builtin, Sem.run_bind, Sem.run_pure, Result.andThen_ok, List.map_toArray, List.map_cons, List.map_nil, hd, hs, hr]
theorem LAt.pushed {base gl gs gk g n cap : Nat} {c : S27} {w1 w2 : World} {s : St} {q l' : List Int} (h : LAt base c gl gs gk (.slice (some ⟨g, 0, none⟩) n cap) w1 s) (hg : w1.grownBy w2 (some g))
    (ho : Kd.R (Kd.int .i64) 3 w2 base (fun k => (.slice (some ⟨g, 0, none⟩) n cap : Value).ownBlock = some k ∧ k ≠ gl ∧ k ≠ gs ∧ k ≠ gk) (.slice (some ⟨g, 0, none⟩) n cap) q) (i : Int) (x : Int) (hl : q.set i.toNat x = l') :
    LAt base c gl gs gk (.slice (some ⟨g, 0, none⟩) n cap) (w2.setCell ⟨g, i.toNat, none⟩ (.int .i64 x)) { s with line := l' } ∧ KeptB w1 (w2.setCell ⟨g, i.toNat, none⟩ (.int .i64 x)) (LP gl gs gk (.slice (some ⟨g, 0, none⟩) n cap)) := by
  obtain ⟨_, n1, n2, n3⟩ := h.row.1 g rfl
  have hr := (Kd.R_putg ho i x).1
  rw [hl] at hr
  refine ⟨⟨blk_far (blk_grown h.bl hg (fun e => n1 (by injection e with e; exact e.symm))) (Ne.symm n1) _, blk_far (blk_grown h.bs hg (fun e => n2 (by injection e with e; exact e.symm))) (Ne.symm n2) _, blk_far (blk_grown h.bk hg (fun e => n3 (by injection e with e; exact e.symm))) (Ne.symm n3) _, hr, h.ge⟩, ?_⟩
  exact KeptB.setCell (KeptB.of_grown hg (KeptB.refl _ _) (fun k hk => .inl (.inr (.inr (.inr hk))))) (.inl (.inr (.inr (.inr rfl)))) _
theorem push_row (t d : List Int) (x : Int) (hd : d.length = 1) : (t ++ d).set t.length x = t ++ [x] := by
  match d, hd with
  | [a], _ => rw [List.set_append_right _ _ (Nat.le_refl _), Nat.sub_self]; rfl
section
variable {base gl gs gk : Nat} {c : S27} {vk : Value} {w : World} {s : St}
theorem LAt.own (h : LAt base c gl gs gk vk w s) : ∀ k, vk.ownBlock = some k → k ≠ gl ∧ k ≠ gs ∧ k ≠ gk := fun k hk => (h.row.1 k hk).2
theorem LAt.valued (h : LAt base c gl gs gk vk w s) (v : Int) : LAt base c gl gs gk vk (w.setCell ⟨gs, 3, none⟩ (.int .i64 v)) { s with v := v } ∧ KeptB w (w.setCell ⟨gs, 3, none⟩ (.int .i64 v)) (LP gl gs gk vk) := by
  obtain ⟨n1, n2, n3⟩ := h.ne
  exact ⟨⟨blk_far h.bl n1 _, blk_put h.bs 3 _ rfl, blk_far h.bk (Ne.symm n3) _, Kd.R_far (p := ⟨gs, 3, none⟩) h.row (fun k hk => hk.2.2.1) _, h.ge⟩, KeptB.setCell (KeptB.refl _ _) (.inl (.inr (.inl rfl))) _⟩
end
section
variable {base gl gs gk : Nat} {c : S27} {vk : Value} {w : World} {s : St}
theorem LAt.nowed (h : LAt base c gl gs gk vk w s) (o l : Int) : LAt base c gl gs gk vk ((w.setCell ⟨gl, 7, none⟩ (.int .i64 o)).setCell ⟨gl, 8, none⟩ (.int .i64 l)) { s with out := o, last := l } ∧ KeptB w ((w.setCell ⟨gl, 7, none⟩ (.int .i64 o)).setCell ⟨gl, 8, none⟩ (.int .i64 l)) (LP gl gs gk vk) := by
  obtain ⟨n1, n2, n3⟩ := h.ne
  exact ⟨⟨blk_put (blk_put h.bl 7 _ rfl) 8 _ rfl, blk_far (blk_far h.bs (Ne.symm n1) _) (Ne.symm n1) _, blk_far (blk_far h.bk (Ne.symm n2) _) (Ne.symm n2) _, Kd.R_far (p := ⟨gl, 8, none⟩) (Kd.R_far (p := ⟨gl, 7, none⟩) h.row (fun k hk => hk.2.1) _) (fun k hk => hk.2.1) _, h.ge⟩, KeptB.setCell (KeptB.setCell (KeptB.refl _ _) (.inl (.inl rfl)) _) (.inl (.inl rfl)) _⟩
end
theorem St.Ok.now {c : S27} {s : St} (hc : ckC c = 0) (h : s.Ok c) {set : Int} (hs : sg set = true) {o : Int} (ho : s.o c set = o) : St.Ok c { s with out := o, last := set - s.v } := by
  have hb := h.bound hc
  have hg := sg_is hs
  exact ⟨by rw [← ho]; exact St.Ok.o hc set, by show -67108864 ≤ set - s.v ∧ set - s.v ≤ 67108864; omega, h.v, h.line, h.len⟩
theorem filled_l0 (x : Int) : ∀ (m i k : Nat), i + m ≤ 32 → m < k → delay_filled.l0 k x (List.replicate i x ++ List.replicate m 0) ((i + m : Nat) : Int) (i : Int) = some (List.replicate (i + m) x)
  | 0, i, k + 1, _, _ => by
    rw [delay_filled.l0, if_neg (by omega)]
    simp
  | m + 1, i, k + 1, h, hk => by
    rw [delay_filled.l0, if_pos (by omega), if_pos (by omega), if_pos (by rw [List.length_append, List.length_replicate, List.length_replicate]; omega)]
    have e1 : wrap64 ((i : Int) + 1) = ((i + 1 : Nat) : Int) := by unfold wrap64; omega
    have e2 : (List.replicate i x ++ List.replicate (m + 1) 0).set (i : Int).toNat x = List.replicate (i + 1) x ++ List.replicate m 0 := by
      rw [Int.toNat_natCast, List.set_append_right _ _ (by rw [List.length_replicate]; exact Nat.le_refl _), List.length_replicate, Nat.sub_self, List.replicate_succ, List.set_cons_zero, List.replicate_succ' (n := i), List.append_assoc]
      rfl
    rw [e1, e2, show i + (m + 1) = (i + 1) + m by omega]
    exact filled_l0 x m (i + 1) k (by omega) (by omega)
theorem filled_f (n x : Int) (h0 : 0 ≤ n) (h1 : n ≤ 32) : delay_filled.f 40 n x = some (List.replicate n.toNat x) := by
  unfold delay_filled.f
  rw [if_pos h0, if_pos (by omega), Option.bind_some, List.length_replicate]
  have q := filled_l0 x n.toNat 0 40 (by omega) (by omega)
  simpa using q
def pushR.T7 : Bool × List (List Nat × List Nat) := (true, [([], []), ([0], [0]), ([1], [1]), ([2], [2]), ([], []), ([4], [4]), ([5], [5]), ([6], [6]), ([7], [7]), ([3, 8], [3, 8])])
def pushR.B7 : List Nat := [0, 1, 3, 7, 0, 16, 48, 112, 240, 511]
theorem pushR.tab7 : rtab .any (opsOf Try.f37 7) = pushR.T7 := by kernel_rfl
theorem pushR.bits7 : waitsOk pushR.T7.2 pushR.B7 = true := by kernel_rfl
set_option maxHeartbeats 16000000 in
set_option maxRecDepth 100000 in
theorem Push_calls {base gl gs gk : Nat} {c : S27} {vk : Value} {w : World} {s : St} (h : LAt base c gl gs gk vk w s) (hlen : s.line.length ≤ 32) (x : Int) : Calls Try.prog 37 #[.pointer (some ⟨gk, 0, none⟩), .int .i64 x] w fun e w' => e = .returned (.tuple #[.int .i64 (pushL s.line x).1, .int .i64 0]) ∧ LAt base c gl gs gk vk w' { s with line := (pushL s.line x).2 } ∧ KeptB w w' (LP gl gs gk vk) := by
  have hu103 := Try.underlying103
  have hu56 := Try.underlying56
  have hu3 := Try.underlying3
  obtain ⟨A, cap, rfl⟩ := Kd.R_slice h.row
  have HL := Aside0.mk h
  clear h
  obtain ⟨n, hn⟩ : ∃ n, s.line.length = n := ⟨_, rfl⟩
  rw [hn] at HL hlen ⊢
  have HN := Aside0.mk hn
  clear hn
  cases hl : s.line with
  | nil =>
    have hn : n = 0 := by rw [← HN.out, hl]; rfl
    subst hn
    have HLL := Aside0.mk hl
    clear hl
    have x0 : w.cell? ⟨gk, 0, none⟩ = some (.slice A 0 cap) := (blk_cell HL.out.bk 0).trans rfl
    go_enter Try.func37, Try.ntmps37
    go_wp2
    go_ret2
    exact ⟨rfl, ⟨HL.out.bl, HL.out.bs, HL.out.bk, by have q := HL.out.row; rw [HLL.out] at q; exact q, HL.out.ge⟩, KeptB.refl _ _⟩
  | cons y t =>
    have hn : n = t.length + 1 := by rw [← HN.out, hl]; rfl
    have hn1 : 0 < n := by omega
    have HT := Aside0.mk hn
    have HLL := Aside0.mk hl
    clear hn hl
    obtain ⟨g, cap', eA, hbase, hglt, _⟩ := Kd.R_form HL.out.row (by rw [HN.out]; exact hn1)
    obtain ⟨rfl, rfl⟩ : A = some ⟨g, 0, none⟩ ∧ cap = cap' := by injection eA with e1 e2 e3; exact ⟨e1, e3⟩
    clear eA hbase hglt
    have hcap := (Kd.R_reads' HL.out.row).2.1
    have x0 : w.cell? ⟨gk, 0, none⟩ = some (.slice (some ⟨g, 0, none⟩) n cap) := (blk_cell HL.out.bk 0).trans rfl
    have y0 : w.cell? ⟨g, 0, none⟩ = some (.int .i64 y) := (Kd.R_celln 0 HL.out.row 0 (by decide) (by omega)).1.trans (by rw [HLL.out]; rfl)
    go_enter Try.func37, Try.ntmps37
    go_wp2_with fail
    refine start_ (n := 10) (S := fun w' => w'.cell? ⟨gk, 0, none⟩ = some (.slice (some ⟨g, 0, none⟩) n cap)) (ds := [9]) #[false, false, false, false, false, false, false, false, false, false] (by kernel_rfl) rfl rfl (x0) (fun hHeld => ?_); refine with_tabW pushR.tab7 pushR.bits7 (fun HT_ HW_ => ?_)
    clear y0 x0; have c1 : (1 ≤ (n : Int)) = True := eq_true (by omega); obtain ⟨A1, hA1⟩ : ∃ A1, (if cap = 1 then some (⟨g, 0, none⟩ : Addr) else some ⟨g, 1, none⟩) = A1 := ⟨_, rfl⟩; have HLD := Aside0.mk HL.out.drew; have HC : Aside0 ((Kd.int .i64).C w.drew A1 (n - 1) t) := ⟨by rw [← hA1]; exact tail_C (by have q := (Kd.R_reads' HLD.out.row).2.2; rw [HLL.out] at q; exact q) HT.out hcap⟩; have HK1 := Aside0.mk (KeptB.drew (KeptB.refl w (LP gl gs gk (.slice (some ⟨g, 0, none⟩) n cap)))); generalize w.drew = w1 at HLD HC HK1 hHeld ⊢
    refine pure_ (i := 0) (N := some 24) (v := ?_) (a' := ?_) #[true, false, false, false, false, false, false, false, false, false] rfl rfl (any_of HT_.out (by kernel_rfl)) (fun _ _ _ h => h) (Or.inl ⟨by rfl, ?_⟩) ?_ ?_
    rotate_left
    · intro w'
      go_simp
      with_reducible rfl
    rotate_left
    · simp only [Act.put, List.setIfInBounds_toArray, List.set_cons_zero, List.set_cons_succ, i64_w, i32_w]
      rfl
    refine pure_ (i := 1) (N := some 25) (v := ?_) (a' := ?_) #[true, true, false, false, false, false, false, false, false, false] rfl rfl (any_of HT_.out (by kernel_rfl)) (fun _ _ _ h => h) (Or.inl ⟨by rfl, ?_⟩) ?_ ?_
    rotate_left
    · intro w'
      go_simp
      with_reducible rfl
    rotate_left
    · simp only [Act.put, List.setIfInBounds_toArray, List.set_cons_zero, List.set_cons_succ, i64_w, i32_w]
      rfl
    refine pure_ (i := 2) (N := some 26) (v := ?_) (a' := ?_) #[true, true, true, false, false, false, false, false, false, false] rfl rfl (any_of HT_.out (by kernel_rfl)) (fun _ _ _ h => h) (Or.inl ⟨by rfl, ?_⟩) ?_ ?_
    rotate_left
    · intro w'
      go_simp
      with_reducible rfl
    rotate_left
    · simp only [Act.put, List.setIfInBounds_toArray, List.set_cons_zero, List.set_cons_succ, i64_w, i32_w]
      rfl
    refine pure_ (i := 4) (N := some 28) (v := ?_) (a' := ?_) #[true, true, true, false, true, false, false, false, false, false] rfl rfl (any_of HT_.out (by kernel_rfl)) (fun _ _ _ h => h) (Or.inl ⟨by rfl, ?_⟩) ?_ ?_
    rotate_left
    · intro w'
      go_simp
      with_reducible rfl
    rotate_left
    · simp only [Act.put, List.setIfInBounds_toArray, List.set_cons_zero, List.set_cons_succ, i64_w, i32_w]
      rfl
    refine pure_ (i := 5) (N := some 29) (v := ?_) (a' := ?_) #[true, true, true, false, true, true, false, false, false, false] rfl rfl (any_of HT_.out (by kernel_rfl)) (fun _ _ _ h => h) (Or.inl ⟨by rfl, ?_⟩) ?_ ?_
    rotate_left
    · intro w'
      go_simp
      with_reducible rfl
    rotate_left
    · simp only [Act.put, List.setIfInBounds_toArray, List.set_cons_zero, List.set_cons_succ, i64_w, i32_w]
      rfl
    refine pure_ (i := 6) (N := some 30) (v := ?_) (a' := ?_) #[true, true, true, false, true, true, true, false, false, false] rfl rfl (any_of HT_.out (by kernel_rfl)) (fun _ _ _ h => h) (Or.inl ⟨by rfl, ?_⟩) ?_ ?_
    rotate_left
    · intro w'
      go_simp
      with_reducible rfl
    rotate_left
    · simp only [Act.put, List.setIfInBounds_toArray, List.set_cons_zero, List.set_cons_succ, i64_w, i32_w]
      rfl
    refine take_ (i := 3) (N := some 27) (v := ?_) (a' := ?_) #[true, true, true, true, true, true, true, false, false, false] rfl rfl (take_ofW HT_.out HW_.out (by kernel_rfl)) (fun _ _ _ h => h) (Or.inl ⟨by rfl, ?_⟩) hHeld ?_ ?_
    rotate_left
    · intro w' s0
      go_simp
      with_reducible rfl
    rotate_left
    · simp only [Act.put, List.setIfInBounds_toArray, List.set_cons_zero, List.set_cons_succ, i64_w, i32_w]
      rfl
    refine take_ (i := 7) (N := some 31) (v := ?_) (a' := ?_) #[true, true, true, true, true, true, true, true, false, false] rfl rfl (take_ofW HT_.out HW_.out (by kernel_rfl)) (fun _ _ _ h => h) (Or.inl ⟨by rfl, ?_⟩) hHeld ?_ ?_
    rotate_left
    · intro w' s0
      go_simp
      with_reducible rfl
    rotate_left
    · simp only [Act.put, List.setIfInBounds_toArray, List.set_cons_zero, List.set_cons_succ, i64_w, i32_w]
      rfl
    refine pure_ (i := 8) (N := some 32) (v := ?_) (a' := ?_) #[true, true, true, true, true, true, true, true, true, false] rfl rfl (any_of HT_.out (by kernel_rfl)) (fun _ _ _ h => h) (Or.inl ⟨by rfl, ?_⟩) ?_ ?_
    rotate_left
    · intro w'
      go_simp
      with_reducible rfl
    rotate_left
    · simp only [Act.put, List.setIfInBounds_toArray, List.set_cons_zero, List.set_cons_succ, i64_w, i32_w]
      rfl
    refine last_ (i := 9) (N := some 33) #[true, true, true, true, true, true, true, true, true, true] rfl rfl (one_of HT_.out (by kernel_rfl)) (by decide) (fun K hK => ?_)
    obtain ⟨w2, hr, ho, hg⟩ := copy_runs (P := Try.prog) base 56 56 3 3 Try.underlying56 (by kernel_rfl) (.slice (some ⟨g, 0, none⟩) n cap) s.line t A1 (n - 1) (cap - 1) _ HLD.out.row HC.out
    refine copy_step_ (.tmp 27) (.tmp 32) 56 56 (by rfl) rfl rfl (.slice (some ⟨g, 0, none⟩) n cap) (.slice A1 (n - 1) (cap - 1)) rfl rfl hr ?_
    refine hK.out _ _ ?_
    clear hK K
    refine norm_ (a' := ?_) ?_ ?_
    rotate_left
    · show Act.put _ (some 33) _ = _
      simp only [Act.put, List.setIfInBounds_toArray, List.set_cons_zero, List.set_cons_succ, i64_w, i32_w]
      rfl
    refine done_ (done_of HT_.out (by kernel_rfl)) ?_
    have ng := (HLD.out.row).1 g rfl
    have hbk := blk_grown HLD.out.bk hg (fun e => ng.2.2.2 (by injection e with e; exact e.symm))
    have hq : t.take (min (n - 1) s.line.length) ++ s.line.drop (min (n - 1) s.line.length) = t ++ s.line.drop t.length := by rw [HN.out, HT.out, Nat.min_eq_left (by omega), Nat.add_sub_cancel, List.take_length]
    rw [hq] at ho
    have z0 := Kd.R_celln 0 ho ((n : Int) - 1) (by omega) (by omega)
    have HO := Aside0.mk ho
    have HG := Aside0.mk hg
    have HNG := Aside0.mk ng
    have x0 : w2.cell? ⟨gk, 0, none⟩ = some (.slice (some ⟨g, 0, none⟩) n cap) := (blk_cell hbk 0).trans rfl
    have HBK := Aside0.mk hbk
    obtain ⟨z1, z2⟩ := z0
    clear hbk ho hg hq ng hr
    have k0 : (n : Int) ≤ 32 := by omega
    have k3 : (1 : Int) ≤ n := by omega
    have e0 : (↑n - 1 : Int).toNat = n - 1 := by omega
    rw [e0] at z1 z2
    clear e0
    have k1 : (0 ≤ (n : Int) - 1) = True := eq_true (by omega)
    have k2 : ((n : Int) - 1 < n) = True := eq_true (by omega)
    generalize (Value.int IntKind.i64 (rdOf 0 (t ++ List.drop t.length s.line) (↑n - 1))) = vz at z1
    go_wp2
    go_ret2
    have e1 : n - 1 = ((t.length : Int)).toNat := by have := HT.out; omega
    rw [e1]
    obtain ⟨r1, r2⟩ := HLD.out.pushed HG.out HO.out (t.length : Int) x (l' := t ++ [x]) (push_row t _ x (by rw [List.length_drop, HN.out, HT.out]; omega))
    exact ⟨rfl, r1, HK1.out.then_ r2 (fun k hk => .inl hk)⟩
set_option maxHeartbeats 16000000 in
set_option maxRecDepth 100000 in
theorem Value_calls {base gl gs gk : Nat} {c : S27} {vk : Value} {w : World} {s : St} (h : LAt base c gl gs gk vk w s) : Calls Try.prog 31 #[.pointer (some ⟨gs, 0, none⟩)] w fun e w' => e = .returned (.int .i64 s.v) ∧ Below w.heap.size w w' := by
  have hu98 := Try.underlying98
  have hu3 := Try.underlying3
  have x3 : w.cell? ⟨gs, 3, none⟩ = some (.int .i64 s.v) := (blk_cell h.bs 3).trans rfl
  have xz3 := blk_frozen h.bs 3
  clear h
  go_enter Try.func31, Try.ntmps31
  go_wp2
  go_ret
  exact ⟨rfl, Below.refl _ _⟩
def procR.T8 : Bool × List (List Nat × List Nat) := (true, [([], []), ([0], [0]), ([1], [1]), ([2], [2]), ([], []), ([4], [4]), ([5], [5]), ([6], [6]), ([], []), ([7, 8], [7, 8]), ([], []), ([10], [10]), ([11], [11]), ([12], [12]), ([9, 13], [9, 13]), ([], []), ([15], [15]), ([16], [16]), ([17], [17]), ([18], [18]), ([14, 19, 9], [14, 19]), ([], []), ([20, 21], [20, 21]), ([3, 22], [3, 22]), ([0, 0, 1, 2, 3, 4, 5, 6, 7, 8, 9, 10, 11, 12, 13, 14, 15, 16, 17, 18, 19, 20, 21, 22, 23], [0]), ([24, 0, 1, 2, 3, 4, 5, 6, 7, 8, 9, 10, 11, 12, 13, 14, 15, 16, 17, 18, 19, 20, 21, 22, 23], [24]), ([25, 23, 20, 0, 1, 2, 3, 4, 5, 6, 7, 8, 9, 10, 11, 12, 13, 14, 15, 16, 17, 18, 19, 20, 21, 22, 23], [23, 25])])
def procR.B8 : List Nat := [0, 1, 3, 7, 0, 16, 48, 112, 0, 496, 0, 1024, 3072, 7168, 16368, 0, 32768, 98304, 229376, 491520, 1048560, 0, 4194288, 8388607, 16777215, 33554431, 67108863]
theorem procR.tab8 : rtab .any (opsOf Try.f32 8) = procR.T8 := by kernel_rfl
theorem procR.bits8 : waitsOk procR.T8.2 procR.B8 = true := by kernel_rfl
set_option maxHeartbeats 16000000 in
set_option maxRecDepth 100000 in
theorem Proc_calls {base gl gs gk : Nat} {c : S27} {vk : Value} {w : World} {s : St} (h : LAt base c gl gs gk vk w s) (hc : ckC c = 0) (hok : s.Ok c) (out dist : Int) (hx : c.f0.f3 ≤ out ∧ out ≤ c.f0.f4) (hd : -65536 ≤ dist ∧ dist ≤ 65536) : Calls Try.prog 32 #[.pointer (some ⟨gs, 0, none⟩), .int .i64 out, .int .i64 dist] w fun e w' => e = .returned (.tuple #[.int .i64 (nextV c s.v (pushL s.line out).1 dist), .int .i64 0]) ∧ LAt base c gl gs gk vk w' { s with v := nextV c s.v (pushL s.line out).1 dist, line := (pushL s.line out).2 } ∧ KeptB w w' (LP gl gs gk vk) := by
  have hu98 := Try.underlying98
  have hu25 := Try.underlying25
  have hu3 := Try.underlying3
  have HL0 := Aside0.mk h
  have HK0 := Aside0.mk (KeptB.refl w (LP gl gs gk vk))
  have HC := Aside0.mk hc
  clear h hc
  obtain ⟨o2, l2, hq⟩ : ∃ o2 l2, pushL s.line out = (o2, l2) := ⟨_, _, rfl⟩
  have ho2 := (pushL_ok hok.line hx).1
  rw [hq] at ho2 ⊢
  have HQ := Aside0.mk hq
  have HO2 := Aside0.mk ho2
  clear hq ho2
  obtain ⟨T, ht⟩ : ∃ T, tgt c.f1 o2 = T := ⟨_, rfl⟩
  have ht2 := tgt_in HC.out HO2.out
  rw [ht] at ht2
  have HT2 := Aside0.mk ht2
  have HT := Aside0.mk ht
  clear ht ht2
  obtain ⟨v2, hv2⟩ : ∃ v2, nextV c s.v o2 dist = v2 := ⟨_, rfl⟩
  rw [hv2]
  have HV2 := Aside0.mk hv2
  clear hv2
  have HX := Aside0.mk hx
  have HD := Aside0.mk hd
  have HOK := Aside0.mk hok
  clear hx hd hok
  obtain ⟨hg, hp, _⟩ := ckC_is HC.out
  have HP := Aside0.mk hp
  have HG := Aside0.mk hg
  clear hg hp
  have W1 : Aside0 (process_within.f out 16777216 = some true) := ⟨by rw [within_f _ _ (by decide) (by decide)]; exact congrArg some (decide_eq_true (by have := ckG_is HG.out; have := HX.out; omega))⟩
  have W2 : Aside0 (process_within.f dist 65536 = some true) := ⟨by rw [within_f _ _ (by decide) (by decide)]; exact congrArg some (decide_eq_true (by have := HD.out; omega))⟩
  go_enter Try.func32, Try.ntmps32
  go_wp2_with (first | ((go_at_call 25); (with_reducible refine (process_within.calls out 16777216 true _ W1.out).mono ?_; rintro e w1 ⟨rfl, hb0_⟩; have hb_ := hb0_.below; clear hb0_; have HL1 := Aside0.mk (HL0.out.below hb_); have HK1 := Aside0.mk (HK0.out.then_ (KeptB.of_below hb_ (LP gl gs gk vk)) (fun k hk => .inl hk)); clear hb_)) | ((go_at_call 25); (with_reducible refine (process_within.calls dist 65536 true _ W2.out).mono ?_; rintro e w2 ⟨rfl, hb0_⟩; have hb_ := hb0_.below; clear hb0_; have HL2 := Aside0.mk (HL1.out.below hb_); have HK2 := Aside0.mk (HK1.out.then_ (KeptB.of_below hb_ (LP gl gs gk vk)) (fun k hk => .inl hk)); clear hb_; have x4 : w2.cell? ⟨gs, 4, none⟩ = some (.pointer (some ⟨gk, 0, none⟩)) := (blk_cell HL2.out.bs 4).trans rfl; have xz4 := blk_frozen HL2.out.bs 4)))
  have hp := Push_calls HL2.out HOK.out.len out
  rw [HQ.out] at hp
  refine hp.mono ?_
  rintro e w3 ⟨rfl, hl, hk⟩
  have HL3 := Aside0.mk hl
  have HK3 := Aside0.mk (HK2.out.then_ hk (fun k hk => .inl hk))
  clear hl hk hp x4 xz4
  go_wp2_with fail
  have hnv : s.v + ((T - s.v) / c.f1.f1 + dist) = v2 := by rw [← HV2.out]; unfold nextV; rw [HT.out]
  have hbv := HOK.out.bound HC.out
  have hlg := ckP_is HP.out
  have b1 := band_hi (v := s.v) (T := T) (L := c.f1.f1) (w := 65536) (d := dist) (hi := 16777216) (by omega) HT2.out.2 HD.out.2 HOK.out.v.2
  have b2 := band_lo (v := s.v) (T := T) (L := c.f1.f1) (w := 65536) (d := dist) (lo := -16777216) (by omega) HT2.out.1 HD.out.1 (by have := HOK.out.v.1; omega)
  have FF : Aside0 (process_floor.f (T - s.v) c.f1.f1 = some ((T - s.v) / c.f1.f1)) := ⟨floor_f _ _ (by omega) (by omega) (by have := HT2.out; omega) (by have := HT2.out; omega)⟩
  have TF : Aside0 (process_target.f c.f1.f0 c.f1.f1 c.f1.f2 o2 = some T) := ⟨by rw [target_f c.f1 HP.out o2 (by have := ckG_is HG.out; have := HO2.out; omega) (by have := ckG_is HG.out; have := HO2.out; omega), HT.out]⟩
  generalize (T - s.v) / c.f1.f1 = q at b1 b2 FF hnv ⊢
  have HNV := Aside0.mk hnv
  clear hnv
  have hw1 : IntKind.i64.wrap (T - s.v) = T - s.v := IntWalk.i64_in _ (by have := HT2.out; omega)
  have hw2 : IntKind.i64.wrap (q + dist) = q + dist := IntWalk.i64_in _ (by omega)
  have hw3 : IntKind.i64.wrap (s.v + (q + dist)) = s.v + (q + dist) := IntWalk.i64_in _ (by omega)
  clear b1 b2 hbv hlg
  refine start_ (n := 27) (S := fun w' => w'.cell? ⟨gs, 0, none⟩ = some (.int .i64 c.f1.f0) ∧ w'.cell? ⟨gs, 1, none⟩ = some (.int .i64 c.f1.f1) ∧ w'.cell? ⟨gs, 2, none⟩ = some (.int .i64 c.f1.f2) ∧ w'.cell? ⟨gs, 3, none⟩ = some (.int .i64 s.v)) (ds := [26]) #[false, false, false, false, false, false, false, false, false, false, false, false, false, false, false, false, false, false, false, false, false, false, false, false, false, false, false] (by kernel_rfl) rfl rfl ⟨(blk_cell HL3.out.drew.bs 0).trans rfl, (blk_cell HL3.out.drew.bs 1).trans rfl, (blk_cell HL3.out.drew.bs 2).trans rfl, (blk_cell HL3.out.drew.bs 3).trans rfl⟩ (fun hHeld => ?_); refine with_tabW procR.tab8 procR.bits8 (fun HT_ HW_ => ?_)
  have HL4 := Aside0.mk HL3.out.drew; have HK4 := Aside0.mk (HK3.out.then_ (KeptB.drew (KeptB.refl w3 (LP gl gs gk vk))) (fun k hk => .inl hk)); generalize w3.drew = w4 at HL4 HK4 hHeld ⊢
  refine pure_ (i := 0) (N := some 32) (v := ?_) (a' := ?_) #[true, false, false, false, false, false, false, false, false, false, false, false, false, false, false, false, false, false, false, false, false, false, false, false, false, false, false] rfl rfl (any_of HT_.out (by kernel_rfl)) (fun _ _ _ h => h) (Or.inl ⟨by rfl, ?_⟩) ?_ ?_
  rotate_left
  · intro w'
    go_simp
    with_reducible rfl
  rotate_left
  · simp only [Act.put, List.setIfInBounds_toArray, List.set_cons_zero, List.set_cons_succ, i64_w, i32_w]
    rfl
  refine pure_ (i := 1) (N := some 33) (v := ?_) (a' := ?_) #[true, true, false, false, false, false, false, false, false, false, false, false, false, false, false, false, false, false, false, false, false, false, false, false, false, false, false] rfl rfl (any_of HT_.out (by kernel_rfl)) (fun _ _ _ h => h) (Or.inl ⟨by rfl, ?_⟩) ?_ ?_
  rotate_left
  · intro w'
    go_simp
    with_reducible rfl
  rotate_left
  · simp only [Act.put, List.setIfInBounds_toArray, List.set_cons_zero, List.set_cons_succ, i64_w, i32_w]
    rfl
  refine pure_ (i := 2) (N := some 34) (v := ?_) (a' := ?_) #[true, true, true, false, false, false, false, false, false, false, false, false, false, false, false, false, false, false, false, false, false, false, false, false, false, false, false] rfl rfl (any_of HT_.out (by kernel_rfl)) (fun _ _ _ h => h) (Or.inl ⟨by rfl, ?_⟩) ?_ ?_
  rotate_left
  · intro w'
    go_simp
    with_reducible rfl
  rotate_left
  · simp only [Act.put, List.setIfInBounds_toArray, List.set_cons_zero, List.set_cons_succ, i64_w, i32_w]
    rfl
  refine pure_ (i := 4) (N := some 36) (v := ?_) (a' := ?_) #[true, true, true, false, true, false, false, false, false, false, false, false, false, false, false, false, false, false, false, false, false, false, false, false, false, false, false] rfl rfl (any_of HT_.out (by kernel_rfl)) (fun _ _ _ h => h) (Or.inl ⟨by rfl, ?_⟩) ?_ ?_
  rotate_left
  · intro w'
    go_simp
    with_reducible rfl
  rotate_left
  · simp only [Act.put, List.setIfInBounds_toArray, List.set_cons_zero, List.set_cons_succ, i64_w, i32_w]
    rfl
  refine pure_ (i := 5) (N := some 37) (v := ?_) (a' := ?_) #[true, true, true, false, true, true, false, false, false, false, false, false, false, false, false, false, false, false, false, false, false, false, false, false, false, false, false] rfl rfl (any_of HT_.out (by kernel_rfl)) (fun _ _ _ h => h) (Or.inl ⟨by rfl, ?_⟩) ?_ ?_
  rotate_left
  · intro w'
    go_simp
    with_reducible rfl
  rotate_left
  · simp only [Act.put, List.setIfInBounds_toArray, List.set_cons_zero, List.set_cons_succ, i64_w, i32_w]
    rfl
  refine pure_ (i := 6) (N := some 38) (v := ?_) (a' := ?_) #[true, true, true, false, true, true, true, false, false, false, false, false, false, false, false, false, false, false, false, false, false, false, false, false, false, false, false] rfl rfl (any_of HT_.out (by kernel_rfl)) (fun _ _ _ h => h) (Or.inl ⟨by rfl, ?_⟩) ?_ ?_
  rotate_left
  · intro w'
    go_simp
    with_reducible rfl
  rotate_left
  · simp only [Act.put, List.setIfInBounds_toArray, List.set_cons_zero, List.set_cons_succ, i64_w, i32_w]
    rfl
  refine pure_ (i := 8) (N := some 40) (v := ?_) (a' := ?_) #[true, true, true, false, true, true, true, false, true, false, false, false, false, false, false, false, false, false, false, false, false, false, false, false, false, false, false] rfl rfl (any_of HT_.out (by kernel_rfl)) (fun _ _ _ h => h) (Or.inl ⟨by rfl, ?_⟩) ?_ ?_
  rotate_left
  · intro w'
    go_simp
    with_reducible rfl
  rotate_left
  · simp only [Act.put, List.setIfInBounds_toArray, List.set_cons_zero, List.set_cons_succ, i64_w, i32_w]
    rfl
  refine pure_ (i := 10) (N := some 42) (v := ?_) (a' := ?_) #[true, true, true, false, true, true, true, false, true, false, true, false, false, false, false, false, false, false, false, false, false, false, false, false, false, false, false] rfl rfl (any_of HT_.out (by kernel_rfl)) (fun _ _ _ h => h) (Or.inl ⟨by rfl, ?_⟩) ?_ ?_
  rotate_left
  · intro w'
    go_simp
    with_reducible rfl
  rotate_left
  · simp only [Act.put, List.setIfInBounds_toArray, List.set_cons_zero, List.set_cons_succ, i64_w, i32_w]
    rfl
  refine pure_ (i := 11) (N := some 43) (v := ?_) (a' := ?_) #[true, true, true, false, true, true, true, false, true, false, true, true, false, false, false, false, false, false, false, false, false, false, false, false, false, false, false] rfl rfl (any_of HT_.out (by kernel_rfl)) (fun _ _ _ h => h) (Or.inl ⟨by rfl, ?_⟩) ?_ ?_
  rotate_left
  · intro w'
    go_simp
    with_reducible rfl
  rotate_left
  · simp only [Act.put, List.setIfInBounds_toArray, List.set_cons_zero, List.set_cons_succ, i64_w, i32_w]
    rfl
  refine pure_ (i := 12) (N := some 44) (v := ?_) (a' := ?_) #[true, true, true, false, true, true, true, false, true, false, true, true, true, false, false, false, false, false, false, false, false, false, false, false, false, false, false] rfl rfl (any_of HT_.out (by kernel_rfl)) (fun _ _ _ h => h) (Or.inl ⟨by rfl, ?_⟩) ?_ ?_
  rotate_left
  · intro w'
    go_simp
    with_reducible rfl
  rotate_left
  · simp only [Act.put, List.setIfInBounds_toArray, List.set_cons_zero, List.set_cons_succ, i64_w, i32_w]
    rfl
  refine pure_ (i := 15) (N := some 47) (v := ?_) (a' := ?_) #[true, true, true, false, true, true, true, false, true, false, true, true, true, false, false, true, false, false, false, false, false, false, false, false, false, false, false] rfl rfl (any_of HT_.out (by kernel_rfl)) (fun _ _ _ h => h) (Or.inl ⟨by rfl, ?_⟩) ?_ ?_
  rotate_left
  · intro w'
    go_simp
    with_reducible rfl
  rotate_left
  · simp only [Act.put, List.setIfInBounds_toArray, List.set_cons_zero, List.set_cons_succ, i64_w, i32_w]
    rfl
  refine pure_ (i := 16) (N := some 48) (v := ?_) (a' := ?_) #[true, true, true, false, true, true, true, false, true, false, true, true, true, false, false, true, true, false, false, false, false, false, false, false, false, false, false] rfl rfl (any_of HT_.out (by kernel_rfl)) (fun _ _ _ h => h) (Or.inl ⟨by rfl, ?_⟩) ?_ ?_
  rotate_left
  · intro w'
    go_simp
    with_reducible rfl
  rotate_left
  · simp only [Act.put, List.setIfInBounds_toArray, List.set_cons_zero, List.set_cons_succ, i64_w, i32_w]
    rfl
  refine pure_ (i := 17) (N := some 49) (v := ?_) (a' := ?_) #[true, true, true, false, true, true, true, false, true, false, true, true, true, false, false, true, true, true, false, false, false, false, false, false, false, false, false] rfl rfl (any_of HT_.out (by kernel_rfl)) (fun _ _ _ h => h) (Or.inl ⟨by rfl, ?_⟩) ?_ ?_
  rotate_left
  · intro w'
    go_simp
    with_reducible rfl
  rotate_left
  · simp only [Act.put, List.setIfInBounds_toArray, List.set_cons_zero, List.set_cons_succ, i64_w, i32_w]
    rfl
  refine pure_ (i := 18) (N := some 50) (v := ?_) (a' := ?_) #[true, true, true, false, true, true, true, false, true, false, true, true, true, false, false, true, true, true, true, false, false, false, false, false, false, false, false] rfl rfl (any_of HT_.out (by kernel_rfl)) (fun _ _ _ h => h) (Or.inl ⟨by rfl, ?_⟩) ?_ ?_
  rotate_left
  · intro w'
    go_simp
    with_reducible rfl
  rotate_left
  · simp only [Act.put, List.setIfInBounds_toArray, List.set_cons_zero, List.set_cons_succ, i64_w, i32_w]
    rfl
  refine pure_ (i := 21) (N := some 53) (v := ?_) (a' := ?_) #[true, true, true, false, true, true, true, false, true, false, true, true, true, false, false, true, true, true, true, false, false, true, false, false, false, false, false] rfl rfl (any_of HT_.out (by kernel_rfl)) (fun _ _ _ h => h) (Or.inl ⟨by rfl, ?_⟩) ?_ ?_
  rotate_left
  · intro w'
    go_simp
    with_reducible rfl
  rotate_left
  · simp only [Act.put, List.setIfInBounds_toArray, List.set_cons_zero, List.set_cons_succ, i64_w, i32_w]
    rfl
  refine take_ (i := 3) (N := some 35) (v := ?_) (a' := ?_) #[true, true, true, true, true, true, true, false, true, false, true, true, true, false, false, true, true, true, true, false, false, true, false, false, false, false, false] rfl rfl (take_ofW HT_.out HW_.out (by kernel_rfl)) (fun _ _ _ h => h) (Or.inl ⟨by rfl, ?_⟩) hHeld ?_ ?_
  rotate_left
  · rintro w' ⟨s0, s1, s2, s3⟩
    go_simp
    with_reducible rfl
  rotate_left
  · simp only [Act.put, List.setIfInBounds_toArray, List.set_cons_zero, List.set_cons_succ, i64_w, i32_w]
    rfl
  refine take_ (i := 7) (N := some 39) (v := ?_) (a' := ?_) #[true, true, true, true, true, true, true, true, true, false, true, true, true, false, false, true, true, true, true, false, false, true, false, false, false, false, false] rfl rfl (take_ofW HT_.out HW_.out (by kernel_rfl)) (fun _ _ _ h => h) (Or.inl ⟨by rfl, ?_⟩) hHeld ?_ ?_
  rotate_left
  · rintro w' ⟨s0, s1, s2, s3⟩
    go_simp
    with_reducible rfl
  rotate_left
  · simp only [Act.put, List.setIfInBounds_toArray, List.set_cons_zero, List.set_cons_succ, i64_w, i32_w]
    rfl
  refine take_ (i := 13) (N := some 45) (v := ?_) (a' := ?_) #[true, true, true, true, true, true, true, true, true, false, true, true, true, true, false, true, true, true, true, false, false, true, false, false, false, false, false] rfl rfl (take_ofW HT_.out HW_.out (by kernel_rfl)) (fun _ _ _ h => h) (Or.inl ⟨by rfl, ?_⟩) hHeld ?_ ?_
  rotate_left
  · rintro w' ⟨s0, s1, s2, s3⟩
    go_simp
    with_reducible rfl
  rotate_left
  · simp only [Act.put, List.setIfInBounds_toArray, List.set_cons_zero, List.set_cons_succ, i64_w, i32_w]
    rfl
  refine take_ (i := 19) (N := some 51) (v := ?_) (a' := ?_) #[true, true, true, true, true, true, true, true, true, false, true, true, true, true, false, true, true, true, true, true, false, true, false, false, false, false, false] rfl rfl (take_ofW HT_.out HW_.out (by kernel_rfl)) (fun _ _ _ h => h) (Or.inl ⟨by rfl, ?_⟩) hHeld ?_ ?_
  rotate_left
  · rintro w' ⟨s0, s1, s2, s3⟩
    go_simp
    with_reducible rfl
  rotate_left
  · simp only [Act.put, List.setIfInBounds_toArray, List.set_cons_zero, List.set_cons_succ, i64_w, i32_w]
    rfl
  refine one_ (i := 9) (N := some 41) #[true, true, true, true, true, true, true, true, true, true, true, true, true, true, false, true, true, true, true, true, false, true, false, false, false, false, false] rfl rfl (one_of HT_.out (by kernel_rfl)) (by decide) (fun K hK => ?_)
  refine goes_ Try.func27 (by kernel_rfl) rfl #[.agg #[.int .i64 c.f1.f0, .int .i64 c.f1.f1, .int .i64 c.f1.f2], .int .i64 o2] (by rfl) rfl rfl (by simp only [List.map_toArray, List.map_cons, List.map_nil]; rfl) ?_
  with_reducible refine (process_target.calls c.f1.f0 c.f1.f1 c.f1.f2 o2 T _ TF.out).mono ?_
  rintro e w5 ⟨rfl, hb⟩
  refine ⟨_, rfl, ?_⟩
  have HL5 := Aside0.mk (HL4.out.below hb)
  have HK5 := Aside0.mk (HK4.out.then_ (KeptB.of_below hb (LP gl gs gk vk)) (fun k hk => .inl hk))
  refine hK.out _ _ ⟨(hb.cell (World.block_lt_of_cell? _ _ (hHeld.1))).trans (hHeld.1), (hb.cell (World.block_lt_of_cell? _ _ (hHeld.2.1))).trans (hHeld.2.1), (hb.cell (World.block_lt_of_cell? _ _ (hHeld.2.2.1))).trans (hHeld.2.2.1), (hb.cell (World.block_lt_of_cell? _ _ (hHeld.2.2.2))).trans (hHeld.2.2.2)⟩ (fun hHeld => ?_)
  clear hK K
  refine norm_ (a' := ?_) ?_ ?_
  rotate_left
  · show Act.put _ (some 41) _ = _
    simp only [Act.put, List.setIfInBounds_toArray, List.set_cons_zero, List.set_cons_succ, i64_w, i32_w]
    rfl
  refine pure_ (i := 14) (N := some 46) (v := ?_) (a' := ?_) #[true, true, true, true, true, true, true, true, true, true, true, true, true, true, true, true, true, true, true, true, false, true, false, false, false, false, false] rfl rfl (any_of HT_.out (by kernel_rfl)) (fun _ _ _ h => h) (Or.inl ⟨by rfl, ?_⟩) ?_ ?_
  rotate_left
  · intro w'
    go_simp
    with_reducible rfl
  rotate_left
  · simp only [Act.put, List.setIfInBounds_toArray, List.set_cons_zero, List.set_cons_succ, i64_w, i32_w]
    rfl
  refine one_ (i := 20) (N := some 52) #[true, true, true, true, true, true, true, true, true, true, true, true, true, true, true, true, true, true, true, true, true, true, false, false, false, false, false] rfl rfl (one_of HT_.out (by kernel_rfl)) (by decide) (fun K hK => ?_)
  refine goes_ Try.func34 (by kernel_rfl) rfl #[.int .i64 (T - s.v), .int .i64 c.f1.f1] (by rfl) rfl rfl (by simp only [List.map_toArray, List.map_cons, List.map_nil]; rfl) ?_
  with_reducible refine (process_floor.calls (T - s.v) c.f1.f1 q _ FF.out).mono ?_
  rintro e w6 ⟨rfl, hb0⟩
  refine ⟨_, rfl, ?_⟩
  have hb := hb0.below
  have HL6 := Aside0.mk (HL5.out.below hb)
  have HK6 := Aside0.mk (HK5.out.then_ (KeptB.of_below hb (LP gl gs gk vk)) (fun k hk => .inl hk))
  have x3 : w6.cell? ⟨gs, 3, none⟩ = some (.int .i64 s.v) := (blk_cell HL6.out.bs 3).trans rfl
  have z3 := blk_frozen HL6.out.bs 3
  refine hK.out _ _ ⟨(hb.cell (World.block_lt_of_cell? _ _ (hHeld.1))).trans (hHeld.1), (hb.cell (World.block_lt_of_cell? _ _ (hHeld.2.1))).trans (hHeld.2.1), (hb.cell (World.block_lt_of_cell? _ _ (hHeld.2.2.1))).trans (hHeld.2.2.1), (hb.cell (World.block_lt_of_cell? _ _ (hHeld.2.2.2))).trans (hHeld.2.2.2)⟩ (fun hHeld => ?_)
  clear hK K
  refine norm_ (a' := ?_) ?_ ?_
  rotate_left
  · show Act.put _ (some 52) _ = _
    simp only [Act.put, List.setIfInBounds_toArray, List.set_cons_zero, List.set_cons_succ, i64_w, i32_w]
    rfl
  refine pure_ (i := 22) (N := some 54) (v := ?_) (a' := ?_) #[true, true, true, true, true, true, true, true, true, true, true, true, true, true, true, true, true, true, true, true, true, true, true, false, false, false, false] rfl rfl (any_of HT_.out (by kernel_rfl)) (fun _ _ _ h => h) (Or.inl ⟨by rfl, ?_⟩) ?_ ?_
  rotate_left
  · intro w'
    go_simp
    with_reducible rfl
  rotate_left
  · simp only [Act.put, List.setIfInBounds_toArray, List.set_cons_zero, List.set_cons_succ, i64_w, i32_w]
    rfl
  refine pure_ (i := 23) (N := some 55) (v := ?_) (a' := ?_) #[true, true, true, true, true, true, true, true, true, true, true, true, true, true, true, true, true, true, true, true, true, true, true, true, false, false, false] rfl rfl (any_of HT_.out (by kernel_rfl)) (fun _ _ _ h => h) (Or.inl ⟨by rfl, ?_⟩) ?_ ?_
  rotate_left
  · intro w'
    go_simp
    with_reducible rfl
  rotate_left
  · simp only [Act.put, List.setIfInBounds_toArray, List.set_cons_zero, List.set_cons_succ, i64_w, i32_w]
    rfl
  refine pure_ (i := 24) (N := some 56) (v := ?_) (a' := ?_) #[true, true, true, true, true, true, true, true, true, true, true, true, true, true, true, true, true, true, true, true, true, true, true, true, true, false, false] rfl rfl (any_of HT_.out (by kernel_rfl)) (fun _ _ _ h => h) (Or.inl ⟨by rfl, ?_⟩) ?_ ?_
  rotate_left
  · intro w'
    go_simp
    with_reducible rfl
  rotate_left
  · simp only [Act.put, List.setIfInBounds_toArray, List.set_cons_zero, List.set_cons_succ, i64_w, i32_w]
    rfl
  refine pure_ (i := 25) (N := some 57) (v := ?_) (a' := ?_) #[true, true, true, true, true, true, true, true, true, true, true, true, true, true, true, true, true, true, true, true, true, true, true, true, true, true, false] rfl rfl (any_of HT_.out (by kernel_rfl)) (fun _ _ _ h => h) (Or.inl ⟨by rfl, ?_⟩) ?_ ?_
  rotate_left
  · intro w'
    go_simp
    with_reducible rfl
  rotate_left
  · simp only [Act.put, List.setIfInBounds_toArray, List.set_cons_zero, List.set_cons_succ, i64_w, i32_w]
    rfl
  refine last_ (i := 26) (N := none) #[true, true, true, true, true, true, true, true, true, true, true, true, true, true, true, true, true, true, true, true, true, true, true, true, true, true, true] rfl rfl (one_of HT_.out (by kernel_rfl)) (by decide) (fun K hK => ?_)
  refine skip_ (w1 := ?_) (by rfl) rfl ?_ ?_
  rotate_left
  · go_simp
    rfl
  refine hK.out _ _ ?_
  clear hK K
  refine done_ (done_of HT_.out (by kernel_rfl)) ?_
  obtain ⟨l7, k7⟩ := HL6.out.valued (s.v + (q + dist))
  have HL7 := Aside0.mk l7
  have HK7 := Aside0.mk (HK6.out.then_ k7 (fun k hk => .inl hk))
  clear l7 k7 x3 z3 hw1 hw2 hw3
  generalize w6.setCell ⟨gs, 3, none⟩ (.int .i64 (s.v + (q + dist))) = w7 at HL7 HK7 ⊢
  have x3 : w7.cell? ⟨gs, 3, none⟩ = some (.int .i64 (s.v + (q + dist))) := (blk_cell HL7.out.bs 3).trans rfl
  go_wp2
  go_ret2
  exact ⟨by rw [HNV.out]; rfl, by rw [← HNV.out]; exact HL7.out, HK7.out⟩
def nextR.T1 : Bool × List (List Nat × List Nat) := (true, [([], []), ([], []), ([1], [1]), ([2], [2]), ([3], [3]), ([], []), ([5], [5]), ([6], [6]), ([7], [7]), ([], []), ([], []), ([10], [10]), ([11], [11]), ([12], [12]), ([13], [13]), ([4, 8, 9, 14, 14], [4, 8, 9, 14]), ([15], [15]), ([16], [16]), ([16], [16]), ([0, 0, 1, 2, 3, 4, 5, 6, 7, 8, 9, 10, 11, 12, 13, 14, 15, 16, 17], [0]), ([19, 0, 1, 2, 3, 4, 5, 6, 7, 8, 9, 10, 11, 12, 13, 14, 15, 16, 17], [19]), ([20, 17, 15, 0, 1, 2, 3, 4, 5, 6, 7, 8, 9, 10, 11, 12, 13, 14, 15, 16, 17], [17, 20])])
def nextR.B1 : List Nat := [0, 0, 2, 6, 14, 0, 32, 96, 224, 0, 0, 1024, 3072, 7168, 15360, 32766, 65534, 131070, 131070, 262143, 786431, 1835007]
theorem nextR.tab1 : rtab .any (opsOf Try.f22 1) = nextR.T1 := by kernel_rfl
theorem nextR.bits1 : waitsOk nextR.T1.2 nextR.B1 = true := by kernel_rfl
def nextS.T2 : Bool × List (List Nat × List Nat) := (true, [([], []), ([0], [0]), ([1], [1]), ([2], [2]), ([], []), ([4], [4]), ([5], [5]), ([6], [6]), ([7], [7]), ([], []), ([3, 8, 9], [3, 8, 9]), ([10], [10]), ([11], [11]), ([11], [11]), ([12, 10, 0, 1, 2, 3, 4, 5, 6, 7, 8, 9, 10, 11, 12], [12]), ([13, 14, 0, 1, 2, 3, 4, 5, 6, 7, 8, 9, 10, 11, 12, 13, 14], [13])])
def nextS.B2 : List Nat := [0, 1, 3, 7, 0, 16, 48, 112, 240, 0, 1023, 2047, 4095, 4095, 8191, 32767]
theorem nextS.tab2 : rtab .any (opsOf Try.f22 2) = nextS.T2 := by kernel_rfl
theorem nextS.bits2 : waitsOk nextS.T2.2 nextS.B2 = true := by kernel_rfl
theorem StepO_calls (g : S23) (hG : ckG g = 0) (out last set v : Int) (h1 : g.f3 ≤ out ∧ out ≤ g.f4) (h2 : -67108864 ≤ last ∧ last ≤ 67108864) (h3 : -33554432 ≤ set ∧ set ≤ 33554432) (h4 : -33554432 ≤ v ∧ v ≤ 33554432) (o : Int) (ho : stepOut g out last set v = o) (w : World) : Calls Try.prog 30 #[.agg #[.int .i64 g.f0, .int .i64 g.f1, .int .i64 g.f2, .int .i64 g.f3, .int .i64 g.f4, .int .i64 g.f5], .agg #[.int .i64 out, .int .i64 last], .int .i64 set, .int .i64 v] w fun e w' => e = .returned (.tuple #[.agg #[.int .i64 o, .int .i64 (set - v)], .int .i64 0]) ∧ Below w.heap.size w w' := by
  subst ho
  exact Step_calls g hG out last set v h1 h2 h3 h4 w
theorem ProcO_calls {base gl gs gk : Nat} {c : S27} {vk : Value} {w : World} {s : St} (h : LAt base c gl gs gk vk w s) (hc : ckC c = 0) (hok : s.Ok c) (out dist : Int) (hx : c.f0.f3 ≤ out ∧ out ≤ c.f0.f4) (hd : -65536 ≤ dist ∧ dist ≤ 65536) (v2 : Int) (hv : nextV c s.v (pushL s.line out).1 dist = v2) : Calls Try.prog 32 #[.pointer (some ⟨gs, 0, none⟩), .int .i64 out, .int .i64 dist] w fun e w' => e = .returned (.tuple #[.int .i64 v2, .int .i64 0]) ∧ LAt base c gl gs gk vk w' { s with v := v2, line := (pushL s.line out).2 } ∧ KeptB w w' (LP gl gs gk vk) := by
  subst hv
  exact Proc_calls h hc hok out dist hx hd
set_option maxHeartbeats 16000000 in
set_option maxRecDepth 100000 in
theorem next_calls {base gl gs gk : Nat} {c : S27} {vk : Value} {w : World} {s : St} (h : LAt base c gl gs gk vk w s) (hc : ckC c = 0) (hok : s.Ok c) (set dist : Int) (hs : sg set = true) (hd : -65536 ≤ dist ∧ dist ≤ 65536) : Calls Try.prog 22 #[.pointer (some ⟨gl, 0, none⟩), .int .i64 set, .int .i64 dist] w fun e w' => e = .returned (.agg #[.int .i64 set, .int .i64 (s.o c set), .int .i64 (s.nx c set dist).v]) ∧ LAt base c gl gs gk vk w' (s.nx c set dist) ∧ KeptB w w' (LP gl gs gk vk) := by
  have hu89 := Try.underlying89
  have hu23 := Try.underlying23
  have hu82 := Try.underlying82
  have hu85 := Try.underlying85
  have hu62 := Try.underlying62
  have hu3 := Try.underlying3
  have HL0 := Aside0.mk h
  have HK0 := Aside0.mk (KeptB.refl w (LP gl gs gk vk))
  have HC := Aside0.mk hc
  clear h hc
  have HD := Aside0.mk hd
  have HOK := Aside0.mk hok
  have HS := Aside0.mk hs
  clear hd hok hs
  obtain ⟨o, ho⟩ : ∃ o, s.o c set = o := ⟨_, rfl⟩
  have hok2 := HOK.out.now HC.out HS.out ho
  have HOK2 := Aside0.mk hok2
  obtain ⟨v2, hv⟩ : ∃ v2, nextV c s.v (pushL s.line o).1 dist = v2 := ⟨_, rfl⟩
  have hnx : s.nx c set dist = ⟨o, set - s.v, v2, (pushL s.line o).2⟩ := by rw [← hv, ← ho]; rfl
  rw [hnx, ho]
  have HO : Aside0 (stepOut c.f0 s.out s.last set s.v = o) := ⟨ho⟩
  have HV := Aside0.mk hv
  clear ho hv hok2 hnx
  have hsg := sg_is HS.out
  have hbv := HOK.out.bound HC.out
  have H3 : Aside0 (-33554432 ≤ set ∧ set ≤ 33554432) := ⟨by omega⟩
  have H4 := Aside0.mk hbv
  clear hsg hbv
  have HB := Aside0.mk (Below.refl w.heap.size w)
  go_enter Try.func22, Try.ntmps22
  go_wp2_with (first | ((with_reducible refine gate_dst (N := 6) rfl ?_); refine box_event ?hg (N := 6) ?hd (cs := #[.int .i64 0, .int .i64 0, .int .i64 0]) (t := 62) ?hr ?_; (case hd => rfl); (case hg => rfl); (case hr => first | (go_simp; done) | (go_simp; rfl)); intro Mg1 hg_ Mw2 hbox_ hb_; have MB3 := Aside0.mk hbox_; have MG4 : Aside0 (w.heap.size ≤ Mg1) := ⟨by rw [hg_]; exact below_size HB.out⟩; have MH5 := Aside0.mk (below_step HB.out hb_); clear hbox_ hb_ hg_; have Mx6 : Mw2.cell? ⟨Mg1, 0, none⟩ = some (.int .i64 0) := (blk_cell MB3.out 0).trans rfl; have Mz7 := blk_frozen MB3.out 0; have Mx8 : Mw2.cell? ⟨Mg1, 1, none⟩ = some (.int .i64 0) := (blk_cell MB3.out 1).trans rfl; have Mz9 := blk_frozen MB3.out 1; have Mx10 : Mw2.cell? ⟨Mg1, 2, none⟩ = some (.int .i64 0) := (blk_cell MB3.out 2).trans rfl; have Mz11 := blk_frozen MB3.out 2))
  clear Mx6 Mz7 Mx8 Mz9 Mx10 Mz11
  have HLa := Aside0.mk (HL0.out.below MH5.out)
  have HKa := Aside0.mk (HK0.out.then_ (KeptB.of_below MH5.out (LP gl gs gk vk)) (fun k hk => .inl hk))
  have HNR : Aside0 (¬ LP gl gs gk vk Mg1) := ⟨fun h => by have := (HL0.out.lo _ h).2; have := MG4.out; omega⟩
  have HRa := Aside0.mk MB3.out
  refine start_ (n := 22) (S := fun w' => w'.cell? ⟨gl, 0, none⟩ = some (.pointer (some ⟨gs, 0, none⟩)) ∧ w'.cell? ⟨gl, 1, none⟩ = some (.int .i64 c.f0.f0) ∧ w'.cell? ⟨gl, 2, none⟩ = some (.int .i64 c.f0.f1) ∧ w'.cell? ⟨gl, 3, none⟩ = some (.int .i64 c.f0.f2) ∧ w'.cell? ⟨gl, 4, none⟩ = some (.int .i64 c.f0.f3) ∧ w'.cell? ⟨gl, 5, none⟩ = some (.int .i64 c.f0.f4) ∧ w'.cell? ⟨gl, 6, none⟩ = some (.int .i64 c.f0.f5) ∧ w'.cell? ⟨gl, 7, none⟩ = some (.int .i64 s.out) ∧ w'.cell? ⟨gl, 8, none⟩ = some (.int .i64 s.last)) (ds := [21]) #[false, false, false, false, false, false, false, false, false, false, false, false, false, false, false, false, false, false, false, false, false, false] (by kernel_rfl) rfl rfl ⟨(blk_cell HLa.out.drew.bl 0).trans rfl, (blk_cell HLa.out.drew.bl 1).trans rfl, (blk_cell HLa.out.drew.bl 2).trans rfl, (blk_cell HLa.out.drew.bl 3).trans rfl, (blk_cell HLa.out.drew.bl 4).trans rfl, (blk_cell HLa.out.drew.bl 5).trans rfl, (blk_cell HLa.out.drew.bl 6).trans rfl, (blk_cell HLa.out.drew.bl 7).trans rfl, (blk_cell HLa.out.drew.bl 8).trans rfl⟩ (fun hHeld => ?_); refine with_tabW nextR.tab1 nextR.bits1 (fun HT_ HW_ => ?_)
  have HLb := Aside0.mk HLa.out.drew; have HKb := Aside0.mk (HKa.out.then_ (KeptB.drew (KeptB.refl Mw2 (LP gl gs gk vk))) (fun k hk => .inl hk)); have HRb := Aside0.mk (blk_drew HRa.out); generalize Mw2.drew = wb at HLb HKb HRb hHeld ⊢
  refine pure_ (i := 0) (N := some 10) (v := ?_) (a' := ?_) #[true, false, false, false, false, false, false, false, false, false, false, false, false, false, false, false, false, false, false, false, false, false] rfl rfl (any_of HT_.out (by kernel_rfl)) (fun _ _ _ h => h) (Or.inl ⟨by rfl, ?_⟩) ?_ ?_
  rotate_left
  · intro w'
    go_simp
    with_reducible rfl
  rotate_left
  · simp only [Act.put, List.setIfInBounds_toArray, List.set_cons_zero, List.set_cons_succ, i64_w, i32_w]
    rfl
  refine pure_ (i := 1) (N := some 11) (v := ?_) (a' := ?_) #[true, true, false, false, false, false, false, false, false, false, false, false, false, false, false, false, false, false, false, false, false, false] rfl rfl (any_of HT_.out (by kernel_rfl)) (fun _ _ _ h => h) (Or.inl ⟨by rfl, ?_⟩) ?_ ?_
  rotate_left
  · intro w'
    go_simp
    with_reducible rfl
  rotate_left
  · simp only [Act.put, List.setIfInBounds_toArray, List.set_cons_zero, List.set_cons_succ, i64_w, i32_w]
    rfl
  refine pure_ (i := 2) (N := some 12) (v := ?_) (a' := ?_) #[true, true, true, false, false, false, false, false, false, false, false, false, false, false, false, false, false, false, false, false, false, false] rfl rfl (any_of HT_.out (by kernel_rfl)) (fun _ _ _ h => h) (Or.inl ⟨by rfl, ?_⟩) ?_ ?_
  rotate_left
  · intro w'
    go_simp
    with_reducible rfl
  rotate_left
  · simp only [Act.put, List.setIfInBounds_toArray, List.set_cons_zero, List.set_cons_succ, i64_w, i32_w]
    rfl
  refine pure_ (i := 3) (N := some 13) (v := ?_) (a' := ?_) #[true, true, true, true, false, false, false, false, false, false, false, false, false, false, false, false, false, false, false, false, false, false] rfl rfl (any_of HT_.out (by kernel_rfl)) (fun _ _ _ h => h) (Or.inl ⟨by rfl, ?_⟩) ?_ ?_
  rotate_left
  · intro w'
    go_simp
    with_reducible rfl
  rotate_left
  · simp only [Act.put, List.setIfInBounds_toArray, List.set_cons_zero, List.set_cons_succ, i64_w, i32_w]
    rfl
  refine pure_ (i := 5) (N := some 15) (v := ?_) (a' := ?_) #[true, true, true, true, false, true, false, false, false, false, false, false, false, false, false, false, false, false, false, false, false, false] rfl rfl (any_of HT_.out (by kernel_rfl)) (fun _ _ _ h => h) (Or.inl ⟨by rfl, ?_⟩) ?_ ?_
  rotate_left
  · intro w'
    go_simp
    with_reducible rfl
  rotate_left
  · simp only [Act.put, List.setIfInBounds_toArray, List.set_cons_zero, List.set_cons_succ, i64_w, i32_w]
    rfl
  refine pure_ (i := 6) (N := some 16) (v := ?_) (a' := ?_) #[true, true, true, true, false, true, true, false, false, false, false, false, false, false, false, false, false, false, false, false, false, false] rfl rfl (any_of HT_.out (by kernel_rfl)) (fun _ _ _ h => h) (Or.inl ⟨by rfl, ?_⟩) ?_ ?_
  rotate_left
  · intro w'
    go_simp
    with_reducible rfl
  rotate_left
  · simp only [Act.put, List.setIfInBounds_toArray, List.set_cons_zero, List.set_cons_succ, i64_w, i32_w]
    rfl
  refine pure_ (i := 7) (N := some 17) (v := ?_) (a' := ?_) #[true, true, true, true, false, true, true, true, false, false, false, false, false, false, false, false, false, false, false, false, false, false] rfl rfl (any_of HT_.out (by kernel_rfl)) (fun _ _ _ h => h) (Or.inl ⟨by rfl, ?_⟩) ?_ ?_
  rotate_left
  · intro w'
    go_simp
    with_reducible rfl
  rotate_left
  · simp only [Act.put, List.setIfInBounds_toArray, List.set_cons_zero, List.set_cons_succ, i64_w, i32_w]
    rfl
  refine pure_ (i := 9) (N := some 19) (v := ?_) (a' := ?_) #[true, true, true, true, false, true, true, true, false, true, false, false, false, false, false, false, false, false, false, false, false, false] rfl rfl (any_of HT_.out (by kernel_rfl)) (fun _ _ _ h => h) (Or.inl ⟨by rfl, ?_⟩) ?_ ?_
  rotate_left
  · intro w'
    go_simp
    with_reducible rfl
  rotate_left
  · simp only [Act.put, List.setIfInBounds_toArray, List.set_cons_zero, List.set_cons_succ, i64_w, i32_w]
    rfl
  refine pure_ (i := 10) (N := some 20) (v := ?_) (a' := ?_) #[true, true, true, true, false, true, true, true, false, true, true, false, false, false, false, false, false, false, false, false, false, false] rfl rfl (any_of HT_.out (by kernel_rfl)) (fun _ _ _ h => h) (Or.inl ⟨by rfl, ?_⟩) ?_ ?_
  rotate_left
  · intro w'
    go_simp
    with_reducible rfl
  rotate_left
  · simp only [Act.put, List.setIfInBounds_toArray, List.set_cons_zero, List.set_cons_succ, i64_w, i32_w]
    rfl
  refine pure_ (i := 11) (N := some 21) (v := ?_) (a' := ?_) #[true, true, true, true, false, true, true, true, false, true, true, true, false, false, false, false, false, false, false, false, false, false] rfl rfl (any_of HT_.out (by kernel_rfl)) (fun _ _ _ h => h) (Or.inl ⟨by rfl, ?_⟩) ?_ ?_
  rotate_left
  · intro w'
    go_simp
    with_reducible rfl
  rotate_left
  · simp only [Act.put, List.setIfInBounds_toArray, List.set_cons_zero, List.set_cons_succ, i64_w, i32_w]
    rfl
  refine pure_ (i := 12) (N := some 22) (v := ?_) (a' := ?_) #[true, true, true, true, false, true, true, true, false, true, true, true, true, false, false, false, false, false, false, false, false, false] rfl rfl (any_of HT_.out (by kernel_rfl)) (fun _ _ _ h => h) (Or.inl ⟨by rfl, ?_⟩) ?_ ?_
  rotate_left
  · intro w'
    go_simp
    with_reducible rfl
  rotate_left
  · simp only [Act.put, List.setIfInBounds_toArray, List.set_cons_zero, List.set_cons_succ, i64_w, i32_w]
    rfl
  refine take_ (i := 4) (N := some 14) (v := ?_) (a' := ?_) #[true, true, true, true, true, true, true, true, false, true, true, true, true, false, false, false, false, false, false, false, false, false] rfl rfl (take_ofW HT_.out HW_.out (by kernel_rfl)) (fun _ _ _ h => h) (Or.inl ⟨by rfl, ?_⟩) hHeld ?_ ?_
  rotate_left
  · rintro w' ⟨s0, s1, s2, s3, s4, s5, s6, s7, s8⟩
    go_simp
    with_reducible rfl
  rotate_left
  · simp only [Act.put, List.setIfInBounds_toArray, List.set_cons_zero, List.set_cons_succ, i64_w, i32_w]
    rfl
  refine take_ (i := 8) (N := some 18) (v := ?_) (a' := ?_) #[true, true, true, true, true, true, true, true, true, true, true, true, true, false, false, false, false, false, false, false, false, false] rfl rfl (take_ofW HT_.out HW_.out (by kernel_rfl)) (fun _ _ _ h => h) (Or.inl ⟨by rfl, ?_⟩) hHeld ?_ ?_
  rotate_left
  · rintro w' ⟨s0, s1, s2, s3, s4, s5, s6, s7, s8⟩
    go_simp
    with_reducible rfl
  rotate_left
  · simp only [Act.put, List.setIfInBounds_toArray, List.set_cons_zero, List.set_cons_succ, i64_w, i32_w]
    rfl
  refine take_ (i := 13) (N := some 23) (v := ?_) (a' := ?_) #[true, true, true, true, true, true, true, true, true, true, true, true, true, true, false, false, false, false, false, false, false, false] rfl rfl (take_ofW HT_.out HW_.out (by kernel_rfl)) (fun _ _ _ h => h) (Or.inl ⟨by rfl, ?_⟩) hHeld ?_ ?_
  rotate_left
  · rintro w' ⟨s0, s1, s2, s3, s4, s5, s6, s7, s8⟩
    go_simp
    with_reducible rfl
  rotate_left
  · simp only [Act.put, List.setIfInBounds_toArray, List.set_cons_zero, List.set_cons_succ, i64_w, i32_w]
    rfl
  refine one_ (i := 14) (N := some 24) #[true, true, true, true, true, true, true, true, true, true, true, true, true, true, true, false, false, false, false, false, false, false] rfl rfl (one_of HT_.out (by kernel_rfl)) (by decide) (fun K hK => ?_)
  refine goes_ Try.func31 (by kernel_rfl) rfl #[.pointer (some ⟨gs, 0, none⟩)] (by rfl) rfl rfl (by simp only [List.map_toArray, List.map_cons, List.map_nil]; rfl) ?_
  with_reducible refine (Value_calls HLb.out).mono ?_
  rintro e wc ⟨rfl, hb⟩
  refine ⟨_, rfl, ?_⟩
  have HLc := Aside0.mk (HLb.out.below hb)
  have HKc := Aside0.mk (HKb.out.then_ (KeptB.of_below hb (LP gl gs gk vk)) (fun k hk => .inl hk))
  have HRc := Aside0.mk (blk_below HRb.out hb)
  refine hK.out _ _ ⟨(hb.cell (World.block_lt_of_cell? _ _ (hHeld.1))).trans (hHeld.1), (hb.cell (World.block_lt_of_cell? _ _ (hHeld.2.1))).trans (hHeld.2.1), (hb.cell (World.block_lt_of_cell? _ _ (hHeld.2.2.1))).trans (hHeld.2.2.1), (hb.cell (World.block_lt_of_cell? _ _ (hHeld.2.2.2.1))).trans (hHeld.2.2.2.1), (hb.cell (World.block_lt_of_cell? _ _ (hHeld.2.2.2.2.1))).trans (hHeld.2.2.2.2.1), (hb.cell (World.block_lt_of_cell? _ _ (hHeld.2.2.2.2.2.1))).trans (hHeld.2.2.2.2.2.1), (hb.cell (World.block_lt_of_cell? _ _ (hHeld.2.2.2.2.2.2.1))).trans (hHeld.2.2.2.2.2.2.1), (hb.cell (World.block_lt_of_cell? _ _ (hHeld.2.2.2.2.2.2.2.1))).trans (hHeld.2.2.2.2.2.2.2.1), (hb.cell (World.block_lt_of_cell? _ _ (hHeld.2.2.2.2.2.2.2.2))).trans (hHeld.2.2.2.2.2.2.2.2)⟩ (fun hHeld => ?_)
  clear hK K
  refine norm_ (a' := ?_) ?_ ?_
  rotate_left
  · show Act.put _ (some 24) _ = _
    simp only [Act.put, List.setIfInBounds_toArray, List.set_cons_zero, List.set_cons_succ, i64_w, i32_w]
    rfl
  refine one_ (i := 15) (N := some 25) #[true, true, true, true, true, true, true, true, true, true, true, true, true, true, true, true, false, false, false, false, false, false] rfl rfl (one_of HT_.out (by kernel_rfl)) (by decide) (fun K hK => ?_)
  refine goes_ Try.func30 (by kernel_rfl) rfl #[.agg #[.int .i64 c.f0.f0, .int .i64 c.f0.f1, .int .i64 c.f0.f2, .int .i64 c.f0.f3, .int .i64 c.f0.f4, .int .i64 c.f0.f5], .agg #[.int .i64 s.out, .int .i64 s.last], .int .i64 set, .int .i64 s.v] (by rfl) rfl rfl (by simp only [List.map_toArray, List.map_cons, List.map_nil]; rfl) ?_
  with_reducible refine (StepO_calls c.f0 (ckC_is HC.out).1 s.out s.last set s.v HOK.out.out HOK.out.last H3.out H4.out o HO.out _).mono ?_
  rintro e wd ⟨rfl, hb⟩
  refine ⟨_, rfl, ?_⟩
  have HLd := Aside0.mk (HLc.out.below hb)
  have HKd := Aside0.mk (HKc.out.then_ (KeptB.of_below hb (LP gl gs gk vk)) (fun k hk => .inl hk))
  have HRd := Aside0.mk (blk_below HRc.out hb)
  have x7 : wd.cell? ⟨gl, 7, none⟩ = some (.int .i64 s.out) := (blk_cell HLd.out.bl 7).trans rfl
  have x8 : wd.cell? ⟨gl, 8, none⟩ = some (.int .i64 s.last) := (blk_cell HLd.out.bl 8).trans rfl
  have xz7 := blk_frozen HLd.out.bl 7
  have xz8 := blk_frozen HLd.out.bl 8
  refine hK.out _ _ ⟨(hb.cell (World.block_lt_of_cell? _ _ (hHeld.1))).trans (hHeld.1), (hb.cell (World.block_lt_of_cell? _ _ (hHeld.2.1))).trans (hHeld.2.1), (hb.cell (World.block_lt_of_cell? _ _ (hHeld.2.2.1))).trans (hHeld.2.2.1), (hb.cell (World.block_lt_of_cell? _ _ (hHeld.2.2.2.1))).trans (hHeld.2.2.2.1), (hb.cell (World.block_lt_of_cell? _ _ (hHeld.2.2.2.2.1))).trans (hHeld.2.2.2.2.1), (hb.cell (World.block_lt_of_cell? _ _ (hHeld.2.2.2.2.2.1))).trans (hHeld.2.2.2.2.2.1), (hb.cell (World.block_lt_of_cell? _ _ (hHeld.2.2.2.2.2.2.1))).trans (hHeld.2.2.2.2.2.2.1), (hb.cell (World.block_lt_of_cell? _ _ (hHeld.2.2.2.2.2.2.2.1))).trans (hHeld.2.2.2.2.2.2.2.1), (hb.cell (World.block_lt_of_cell? _ _ (hHeld.2.2.2.2.2.2.2.2))).trans (hHeld.2.2.2.2.2.2.2.2)⟩ (fun hHeld => ?_)
  clear hK K
  refine norm_ (a' := ?_) ?_ ?_
  rotate_left
  · show Act.put _ (some 25) _ = _
    simp only [Act.put, List.setIfInBounds_toArray, List.set_cons_zero, List.set_cons_succ, i64_w, i32_w]
    rfl
  refine pure_ (i := 16) (N := some 9) (v := ?_) (a' := ?_) #[true, true, true, true, true, true, true, true, true, true, true, true, true, true, true, true, true, false, false, false, false, false] rfl rfl (any_of HT_.out (by kernel_rfl)) (fun _ _ _ h => h) (Or.inl ⟨by rfl, ?_⟩) ?_ ?_
  rotate_left
  · intro w'
    go_simp
    with_reducible rfl
  rotate_left
  · simp only [Act.put, List.setIfInBounds_toArray, List.set_cons_zero, List.set_cons_succ, i64_w, i32_w]
    rfl
  refine pure_ (i := 17) (N := some 26) (v := ?_) (a' := ?_) #[true, true, true, true, true, true, true, true, true, true, true, true, true, true, true, true, true, true, false, false, false, false] rfl rfl (any_of HT_.out (by kernel_rfl)) (fun _ _ _ h => h) (Or.inl ⟨by rfl, ?_⟩) ?_ ?_
  rotate_left
  · intro w'
    go_simp
    with_reducible rfl
  rotate_left
  · simp only [Act.put, List.setIfInBounds_toArray, List.set_cons_zero, List.set_cons_succ, i64_w, i32_w]
    rfl
  refine pure_ (i := 18) (N := some 27) (v := ?_) (a' := ?_) #[true, true, true, true, true, true, true, true, true, true, true, true, true, true, true, true, true, true, true, false, false, false] rfl rfl (any_of HT_.out (by kernel_rfl)) (fun _ _ _ h => h) (Or.inl ⟨by rfl, ?_⟩) ?_ ?_
  rotate_left
  · intro w'
    go_simp
    with_reducible rfl
  rotate_left
  · simp only [Act.put, List.setIfInBounds_toArray, List.set_cons_zero, List.set_cons_succ, i64_w, i32_w]
    rfl
  refine pure_ (i := 19) (N := some 28) (v := ?_) (a' := ?_) #[true, true, true, true, true, true, true, true, true, true, true, true, true, true, true, true, true, true, true, true, false, false] rfl rfl (any_of HT_.out (by kernel_rfl)) (fun _ _ _ h => h) (Or.inl ⟨by rfl, ?_⟩) ?_ ?_
  rotate_left
  · intro w'
    go_simp
    with_reducible rfl
  rotate_left
  · simp only [Act.put, List.setIfInBounds_toArray, List.set_cons_zero, List.set_cons_succ, i64_w, i32_w]
    rfl
  refine pure_ (i := 20) (N := some 29) (v := ?_) (a' := ?_) #[true, true, true, true, true, true, true, true, true, true, true, true, true, true, true, true, true, true, true, true, true, false] rfl rfl (any_of HT_.out (by kernel_rfl)) (fun _ _ _ h => h) (Or.inl ⟨by rfl, ?_⟩) ?_ ?_
  rotate_left
  · intro w'
    go_simp
    with_reducible rfl
  rotate_left
  · simp only [Act.put, List.setIfInBounds_toArray, List.set_cons_zero, List.set_cons_succ, i64_w, i32_w]
    rfl
  refine last_ (i := 21) (N := none) #[true, true, true, true, true, true, true, true, true, true, true, true, true, true, true, true, true, true, true, true, true, true] rfl rfl (one_of HT_.out (by kernel_rfl)) (by decide) (fun K hK => ?_)
  refine skip_ (w1 := ?_) (by rfl) rfl ?_ ?_
  rotate_left
  · go_simp
    rfl
  refine hK.out _ _ ?_
  clear hK K
  refine done_ (done_of HT_.out (by kernel_rfl)) ?_
  clear x7 x8 xz7 xz8
  go_wp2_with fail
  obtain ⟨le, ke⟩ := HLd.out.nowed o (set - s.v)
  have HLe := Aside0.mk le
  have HKe := Aside0.mk (HKd.out.then_ ke (fun k hk => .inl hk))
  have HRe := Aside0.mk (blk_kept HRd.out ke.k HNR.out)
  clear le ke
  generalize (wd.setCell ⟨gl, 7, none⟩ (.int .i64 o)).setCell ⟨gl, 8, none⟩ (.int .i64 (set - s.v)) = we at HLe HKe HRe ⊢
  refine start_ (n := 16) (S := fun w' => w'.cell? ⟨gl, 0, none⟩ = some (.pointer (some ⟨gs, 0, none⟩)) ∧ w'.cell? ⟨gl, 7, none⟩ = some (.int .i64 o)) (ds := [10]) #[false, false, false, false, false, false, false, false, false, false, false, false, false, false, false, false] (by kernel_rfl) rfl rfl ⟨(blk_cell HLe.out.drew.bl 0).trans rfl, (blk_cell HLe.out.drew.bl 7).trans rfl⟩ (fun hHeld => ?_); refine with_tabW nextS.tab2 nextS.bits2 (fun HT_ HW_ => ?_)
  have HLf := Aside0.mk HLe.out.drew; have HKf := Aside0.mk (HKe.out.then_ (KeptB.drew (KeptB.refl we (LP gl gs gk vk))) (fun k hk => .inl hk)); have HRf := Aside0.mk (blk_drew HRe.out); generalize we.drew = wf at HLf HKf HRf hHeld ⊢
  refine pure_ (i := 0) (N := some 31) (v := ?_) (a' := ?_) #[true, false, false, false, false, false, false, false, false, false, false, false, false, false, false, false] rfl rfl (any_of HT_.out (by kernel_rfl)) (fun _ _ _ h => h) (Or.inl ⟨by rfl, ?_⟩) ?_ ?_
  rotate_left
  · intro w'
    go_simp
    with_reducible rfl
  rotate_left
  · simp only [Act.put, List.setIfInBounds_toArray, List.set_cons_zero, List.set_cons_succ, i64_w, i32_w]
    rfl
  refine pure_ (i := 1) (N := some 32) (v := ?_) (a' := ?_) #[true, true, false, false, false, false, false, false, false, false, false, false, false, false, false, false] rfl rfl (any_of HT_.out (by kernel_rfl)) (fun _ _ _ h => h) (Or.inl ⟨by rfl, ?_⟩) ?_ ?_
  rotate_left
  · intro w'
    go_simp
    with_reducible rfl
  rotate_left
  · simp only [Act.put, List.setIfInBounds_toArray, List.set_cons_zero, List.set_cons_succ, i64_w, i32_w]
    rfl
  refine pure_ (i := 2) (N := some 33) (v := ?_) (a' := ?_) #[true, true, true, false, false, false, false, false, false, false, false, false, false, false, false, false] rfl rfl (any_of HT_.out (by kernel_rfl)) (fun _ _ _ h => h) (Or.inl ⟨by rfl, ?_⟩) ?_ ?_
  rotate_left
  · intro w'
    go_simp
    with_reducible rfl
  rotate_left
  · simp only [Act.put, List.setIfInBounds_toArray, List.set_cons_zero, List.set_cons_succ, i64_w, i32_w]
    rfl
  refine pure_ (i := 4) (N := some 35) (v := ?_) (a' := ?_) #[true, true, true, false, true, false, false, false, false, false, false, false, false, false, false, false] rfl rfl (any_of HT_.out (by kernel_rfl)) (fun _ _ _ h => h) (Or.inl ⟨by rfl, ?_⟩) ?_ ?_
  rotate_left
  · intro w'
    go_simp
    with_reducible rfl
  rotate_left
  · simp only [Act.put, List.setIfInBounds_toArray, List.set_cons_zero, List.set_cons_succ, i64_w, i32_w]
    rfl
  refine pure_ (i := 5) (N := some 36) (v := ?_) (a' := ?_) #[true, true, true, false, true, true, false, false, false, false, false, false, false, false, false, false] rfl rfl (any_of HT_.out (by kernel_rfl)) (fun _ _ _ h => h) (Or.inl ⟨by rfl, ?_⟩) ?_ ?_
  rotate_left
  · intro w'
    go_simp
    with_reducible rfl
  rotate_left
  · simp only [Act.put, List.setIfInBounds_toArray, List.set_cons_zero, List.set_cons_succ, i64_w, i32_w]
    rfl
  refine pure_ (i := 6) (N := some 37) (v := ?_) (a' := ?_) #[true, true, true, false, true, true, true, false, false, false, false, false, false, false, false, false] rfl rfl (any_of HT_.out (by kernel_rfl)) (fun _ _ _ h => h) (Or.inl ⟨by rfl, ?_⟩) ?_ ?_
  rotate_left
  · intro w'
    go_simp
    with_reducible rfl
  rotate_left
  · simp only [Act.put, List.setIfInBounds_toArray, List.set_cons_zero, List.set_cons_succ, i64_w, i32_w]
    rfl
  refine pure_ (i := 7) (N := some 38) (v := ?_) (a' := ?_) #[true, true, true, false, true, true, true, true, false, false, false, false, false, false, false, false] rfl rfl (any_of HT_.out (by kernel_rfl)) (fun _ _ _ h => h) (Or.inl ⟨by rfl, ?_⟩) ?_ ?_
  rotate_left
  · intro w'
    go_simp
    with_reducible rfl
  rotate_left
  · simp only [Act.put, List.setIfInBounds_toArray, List.set_cons_zero, List.set_cons_succ, i64_w, i32_w]
    rfl
  refine pure_ (i := 9) (N := some 40) (v := ?_) (a' := ?_) #[true, true, true, false, true, true, true, true, false, true, false, false, false, false, false, false] rfl rfl (any_of HT_.out (by kernel_rfl)) (fun _ _ _ h => h) (Or.inl ⟨by rfl, ?_⟩) ?_ ?_
  rotate_left
  · intro w'
    go_simp
    with_reducible rfl
  rotate_left
  · simp only [Act.put, List.setIfInBounds_toArray, List.set_cons_zero, List.set_cons_succ, i64_w, i32_w]
    rfl
  refine take_ (i := 3) (N := some 34) (v := ?_) (a' := ?_) #[true, true, true, true, true, true, true, true, false, true, false, false, false, false, false, false] rfl rfl (take_ofW HT_.out HW_.out (by kernel_rfl)) (fun _ _ _ h => h) (Or.inl ⟨by rfl, ?_⟩) hHeld ?_ ?_
  rotate_left
  · rintro w' ⟨s0, s1⟩
    go_simp
    with_reducible rfl
  rotate_left
  · simp only [Act.put, List.setIfInBounds_toArray, List.set_cons_zero, List.set_cons_succ, i64_w, i32_w]
    rfl
  refine take_ (i := 8) (N := some 39) (v := ?_) (a' := ?_) #[true, true, true, true, true, true, true, true, true, true, false, false, false, false, false, false] rfl rfl (take_ofW HT_.out HW_.out (by kernel_rfl)) (fun _ _ _ h => h) (Or.inl ⟨by rfl, ?_⟩) hHeld ?_ ?_
  rotate_left
  · rintro w' ⟨s0, s1⟩
    go_simp
    with_reducible rfl
  rotate_left
  · simp only [Act.put, List.setIfInBounds_toArray, List.set_cons_zero, List.set_cons_succ, i64_w, i32_w]
    rfl
  refine last_ (i := 10) (N := some 41) #[true, true, true, true, true, true, true, true, true, true, true, false, false, false, false, false] rfl rfl (one_of HT_.out (by kernel_rfl)) (by decide) (fun K hK => ?_)
  refine goes_ Try.func32 (by kernel_rfl) rfl #[.pointer (some ⟨gs, 0, none⟩), .int .i64 o, .int .i64 dist] (by rfl) rfl rfl (by simp only [List.map_toArray, List.map_cons, List.map_nil]; rfl) ?_
  with_reducible refine (ProcO_calls HLf.out HC.out HOK2.out o dist HOK2.out.out HD.out v2 HV.out).mono ?_
  rintro e wg ⟨rfl, hl, hk⟩
  refine ⟨_, rfl, ?_⟩
  have HLg := Aside0.mk hl
  have HKg := Aside0.mk (HKf.out.then_ hk (fun k hk => .inl hk))
  have HRg := Aside0.mk (blk_kept HRf.out hk.k HNR.out)
  clear hl hk
  refine hK.out _ _ ?_
  clear hK K
  refine norm_ (a' := ?_) ?_ ?_
  rotate_left
  · show Act.put _ (some 41) _ = _
    simp only [Act.put, List.setIfInBounds_toArray, List.set_cons_zero, List.set_cons_succ, i64_w, i32_w]
    rfl
  refine pure_ (i := 11) (N := some 30) (v := ?_) (a' := ?_) #[true, true, true, true, true, true, true, true, true, true, true, true, false, false, false, false] rfl rfl (any_of HT_.out (by kernel_rfl)) (fun _ _ _ h => h) (Or.inl ⟨by rfl, ?_⟩) ?_ ?_
  rotate_left
  · intro w'
    go_simp
    with_reducible rfl
  rotate_left
  · simp only [Act.put, List.setIfInBounds_toArray, List.set_cons_zero, List.set_cons_succ, i64_w, i32_w]
    rfl
  refine pure_ (i := 12) (N := some 42) (v := ?_) (a' := ?_) #[true, true, true, true, true, true, true, true, true, true, true, true, true, false, false, false] rfl rfl (any_of HT_.out (by kernel_rfl)) (fun _ _ _ h => h) (Or.inl ⟨by rfl, ?_⟩) ?_ ?_
  rotate_left
  · intro w'
    go_simp
    with_reducible rfl
  rotate_left
  · simp only [Act.put, List.setIfInBounds_toArray, List.set_cons_zero, List.set_cons_succ, i64_w, i32_w]
    rfl
  refine pure_ (i := 13) (N := some 43) (v := ?_) (a' := ?_) #[true, true, true, true, true, true, true, true, true, true, true, true, true, true, false, false] rfl rfl (any_of HT_.out (by kernel_rfl)) (fun _ _ _ h => h) (Or.inl ⟨by rfl, ?_⟩) ?_ ?_
  rotate_left
  · intro w'
    go_simp
    with_reducible rfl
  rotate_left
  · simp only [Act.put, List.setIfInBounds_toArray, List.set_cons_zero, List.set_cons_succ, i64_w, i32_w]
    rfl
  refine pure_ (i := 14) (N := some 7) (v := ?_) (a' := ?_) #[true, true, true, true, true, true, true, true, true, true, true, true, true, true, true, false] rfl rfl (any_of HT_.out (by kernel_rfl)) (fun _ _ _ h => h) (Or.inl ⟨by rfl, ?_⟩) ?_ ?_
  rotate_left
  · intro w'
    go_simp
    with_reducible rfl
  rotate_left
  · simp only [Act.put, List.setIfInBounds_toArray, List.set_cons_zero, List.set_cons_succ, i64_w, i32_w]
    rfl
  refine pure_ (i := 15) (N := some 8) (v := ?_) (a' := ?_) #[true, true, true, true, true, true, true, true, true, true, true, true, true, true, true, true] rfl rfl (any_of HT_.out (by kernel_rfl)) (fun _ _ _ h => h) (Or.inl ⟨by rfl, ?_⟩) ?_ ?_
  rotate_left
  · intro w'
    go_simp
    with_reducible rfl
  rotate_left
  · simp only [Act.put, List.setIfInBounds_toArray, List.set_cons_zero, List.set_cons_succ, i64_w, i32_w]
    rfl
  refine done_ (done_of HT_.out (by kernel_rfl)) ?_
  have x7 : wg.cell? ⟨gl, 7, none⟩ = some (.int .i64 o) := (blk_cell HLg.out.bl 7).trans rfl
  have y0 : wg.cell? ⟨Mg1, 0, none⟩ = some (.int .i64 0) := (blk_cell HRg.out 0).trans rfl
  have y1 : wg.cell? ⟨Mg1, 1, none⟩ = some (.int .i64 0) := (blk_cell HRg.out 1).trans rfl
  have y2 : wg.cell? ⟨Mg1, 2, none⟩ = some (.int .i64 0) := (blk_cell HRg.out 2).trans rfl
  have yz0 := blk_frozen HRg.out 0
  have yz1 := blk_frozen HRg.out 1
  have yz2 := blk_frozen HRg.out 2
  go_wp2
  have q := blk_full HRg.out [.int .i64 set, .int .i64 o, .int .i64 v2] rfl
  have kq := KeptB.of_grown q.2 (KeptB.refl wg (fun k => k = Mg1)) (fun k hk => .inl (by cases hk; rfl))
  refine bodyPost_ret (results_cell_row rfl _ _ Mg1 62 #[.int .i64 set, .int .i64 o, .int .i64 v2] (0, 0) _ rfl q.1 Try.underlying62 rfl (by kernel_rfl)) rfl ?_
  exact ⟨rfl, HLg.out.kept kq.k (fun k hk e => HNR.out (e ▸ hk)), HKg.out.then_ kq (fun k hk => .inr (by rw [hk]; exact MG4.out))⟩
theorem LAt.mk_ {base gl gs gk : Nat} {c : S27} {vk : Value} {w : World} {s : St} (bl : w.heap[gl]? = some (.cells (lpCells c gs s) 89 (0, 0))) (bs : w.heap[gs]? = some (.cells (prCells c gk s) 98 (0, 0))) (bk : w.heap[gk]? = some (.cells #[vk] 103 (0, 0)))
    (row : Kd.R (Kd.int .i64) 3 w base (fun _ => True) vk s.line) (n1 : ∀ k, vk.ownBlock = some k → k ≠ gl) (n2 : ∀ k, vk.ownBlock = some k → k ≠ gs) (n3 : ∀ k, vk.ownBlock = some k → k ≠ gk) (ge : base ≤ gl ∧ base ≤ gs ∧ base ≤ gk) : LAt base c gl gs gk vk w s :=
  ⟨bl, bs, bk, Kd.R_of_own (Kd.own_of_R row) (fun k hk => ⟨hk, n1 k hk, n2 k hk, n3 k hk⟩), ge⟩
theorem start_f (g : S23) (hg : ckG g = 0) (out : Int) : control_Start.f 2 g.f0 g.f1 g.f2 g.f3 g.f4 g.f5 out = some (if g.f3 ≤ out ∧ out ≤ g.f4 then (out, 0, 0) else (0, 0, 1)) := by
  unfold control_Start.f
  rw [ckG_f g 0, Option.bind_some, if_pos hg, in_f, Option.bind_some]
  simp only [decide_eq_true_eq]
  split <;> rfl
set_option maxHeartbeats 16000000 in
set_option maxRecDepth 100000 in
theorem DNew_calls (n x : Int) (h0 : 0 ≤ n) (h1 : n ≤ 32) (w : World) : Calls Try.prog 35 #[.int .i64 n, .int .i64 x] w fun e w' => ∃ gk vk, e = .returned (.tuple #[.pointer (some ⟨gk, 0, none⟩), .int .i64 0]) ∧ w'.heap[gk]? = some (.cells #[vk] 103 (0, 0)) ∧ Kd.R (Kd.int .i64) 3 w' w.heap.size (fun _ => True) vk (List.replicate n.toNat x) ∧ (∀ k, vk.ownBlock = some k → k ≠ gk) ∧ w.heap.size ≤ gk ∧ Below w.heap.size w w' := by
  have hu103 := Try.underlying103
  have hu56 := Try.underlying56
  have hu3 := Try.underlying3
  have HF := Aside0.mk (filled_f n x h0 h1)
  have HB := Aside0.mk (Below.refl w.heap.size w)
  go_enter Try.func35, Try.ntmps35
  go_wp2_with (first | ((go_at_call 38); ((with_reducible refine (delay_filled.calls 40 n x _ _ HF.out).mono ?_); rintro e Mw1 ⟨v0, rfl, ho, hb0_⟩; have hb_ := hb0_; clear hb0_; have MH2 := Aside0.mk (below_step HB.out hb_); obtain ⟨A1, c1, e1⟩ := Kd.R_slice ho; rw [List.length_replicate] at e1; subst e1; have HR0 := Aside0.mk ho; clear ho; clear hb_)) | ((with_reducible refine gate_dst (N := 16) rfl ?_); refine box_event ?hg (N := 16) ?hd (cs := #[.slice A1 n.toNat c1]) (t := 103) ?hr ?_; (case hd => rfl); (case hg => rfl); (case hr => first | (go_simp; done) | (go_simp; rfl)); intro Mg3 hg_ Mw4 hbox_ hb_; have MB5 := Aside0.mk hbox_; have MG6 : Aside0 (w.heap.size ≤ Mg3) := ⟨by rw [hg_]; exact below_size MH2.out⟩; have MA7 : Aside0 (∀ k_, ((.slice A1 n.toNat c1) : Value).ownBlock = some k_ → k_ ≠ Mg3) := ⟨fun k_ hk_ => by rw [hg_]; exact Nat.ne_of_lt (Kd.R_lt HR0.out k_ hk_)⟩; have MR8 := Aside0.mk (Kd.R_below HR0.out hb_); have MH9 := Aside0.mk (below_step MH2.out hb_); clear hbox_ hb_ hg_; have Mx10 : Mw4.cell? ⟨Mg3, 0, none⟩ = some (.slice A1 n.toNat c1) := (blk_cell MB5.out 0).trans rfl; have Mz11 := blk_frozen MB5.out 0))
  go_ret2
  exact ⟨_, _, rfl, MB5.out, MR8.out, MA7.out, MG6.out, MH9.out⟩
set_option maxHeartbeats 16000000 in
set_option maxRecDepth 100000 in
theorem PNew_calls (p : S25) (hp : ckP p = 0) (out v : Int) (h1 : -16777216 ≤ out ∧ out ≤ 16777216) (h2 : -268435456 ≤ v ∧ v ≤ 268435456) (w : World) : Calls Try.prog 29 #[.agg #[.int .i64 p.f0, .int .i64 p.f1, .int .i64 p.f2], .int .i64 out, .int .i64 v] w fun e w' => ∃ gs gk vk, e = .returned (.tuple #[.pointer (some ⟨gs, 0, none⟩), .int .i64 0]) ∧ w'.heap[gs]? = some (.cells #[.int .i64 p.f0, .int .i64 p.f1, .int .i64 p.f2, .int .i64 v, .pointer (some ⟨gk, 0, none⟩)] 98 (0, 0)) ∧ w'.heap[gk]? = some (.cells #[vk] 103 (0, 0)) ∧ Kd.R (Kd.int .i64) 3 w' w.heap.size (fun _ => True) vk (List.replicate p.f2.toNat out) ∧ (∀ k, vk.ownBlock = some k → k ≠ gk) ∧ (∀ k, vk.ownBlock = some k → k ≠ gs) ∧ (w.heap.size ≤ gs ∧ w.heap.size ≤ gk) ∧ Below w.heap.size w w' := by
  have hu25 := Try.underlying25
  have hu98 := Try.underlying98
  have hu94 := Try.underlying94
  have hu3 := Try.underlying3
  have HB := Aside0.mk (Below.refl w.heap.size w)
  have W0 : Aside0 (process_Check.f p.f0 p.f1 p.f2 = some 0) := ⟨by rw [ckP_f, hp]⟩
  have W1 : Aside0 (process_within.f out 16777216 = some true) := ⟨by rw [within_f _ _ (by decide) (by decide)]; exact congrArg some (decide_eq_true (by omega))⟩
  have W2 : Aside0 (process_within.f v 268435456 = some true) := ⟨by rw [within_f _ _ (by decide) (by decide)]; exact congrArg some (decide_eq_true (by omega))⟩
  have HP := Aside0.mk (ckP_is hp)
  clear hp h1 h2
  go_enter Try.func29, Try.ntmps29
  go_wp2_with (first | ((with_reducible refine gate_dst (N := 3) rfl ?_); refine box_event ?hg (N := 3) ?hd (cs := #[.int .i64 p.f0, .int .i64 p.f1, .int .i64 p.f2]) (t := 25) ?hr ?_; (case hd => rfl); (case hg => rfl); (case hr => first | (go_simp; done) | (go_simp; rfl)); intro Mg1 hg_ Mw2 hbox_ hb_; have MB3 := Aside0.mk hbox_; have MG4 : Aside0 (w.heap.size ≤ Mg1) := ⟨by rw [hg_]; exact below_size HB.out⟩; have MH5 := Aside0.mk (below_step HB.out hb_); clear hbox_ hb_ hg_; have Mx6 : Mw2.cell? ⟨Mg1, 0, none⟩ = some (.int .i64 p.f0) := (blk_cell MB3.out 0).trans rfl; have Mz7 := blk_frozen MB3.out 0; have Mx8 : Mw2.cell? ⟨Mg1, 1, none⟩ = some (.int .i64 p.f1) := (blk_cell MB3.out 1).trans rfl; have Mz9 := blk_frozen MB3.out 1; have Mx10 : Mw2.cell? ⟨Mg1, 2, none⟩ = some (.int .i64 p.f2) := (blk_cell MB3.out 2).trans rfl; have Mz11 := blk_frozen MB3.out 2) | ((go_at_call 24); ((with_reducible refine (process_Check.calls p.f0 p.f1 p.f2 0 _ W0.out).mono ?_); rintro e Mw12 ⟨rfl, hb0_⟩; have hb_ := hb0_; clear hb0_; have MB13 := Aside0.mk (blk_below MB3.out hb_); have MH14 := Aside0.mk (below_step MH5.out hb_); clear hb_; clear Mx6 Mz7 Mx8 Mz9 Mx10 Mz11; have Mx15 : Mw12.cell? ⟨Mg1, 0, none⟩ = some (.int .i64 p.f0) := (blk_cell MB13.out 0).trans rfl; have Mz16 := blk_frozen MB13.out 0; have Mx17 : Mw12.cell? ⟨Mg1, 1, none⟩ = some (.int .i64 p.f1) := (blk_cell MB13.out 1).trans rfl; have Mz18 := blk_frozen MB13.out 1; have Mx19 : Mw12.cell? ⟨Mg1, 2, none⟩ = some (.int .i64 p.f2) := (blk_cell MB13.out 2).trans rfl; have Mz20 := blk_frozen MB13.out 2)) | ((go_at_call 25); ((with_reducible refine (process_within.calls out 16777216 true _ W1.out).mono ?_); rintro e Mw21 ⟨rfl, hb0_⟩; have hb_ := hb0_.below; clear hb0_; have MB22 := Aside0.mk (blk_below MB13.out hb_); have MH23 := Aside0.mk (below_step MH14.out hb_); clear hb_; clear Mx15 Mz16 Mx17 Mz18 Mx19 Mz20; have Mx24 : Mw21.cell? ⟨Mg1, 0, none⟩ = some (.int .i64 p.f0) := (blk_cell MB22.out 0).trans rfl; have Mz25 := blk_frozen MB22.out 0; have Mx26 : Mw21.cell? ⟨Mg1, 1, none⟩ = some (.int .i64 p.f1) := (blk_cell MB22.out 1).trans rfl; have Mz27 := blk_frozen MB22.out 1; have Mx28 : Mw21.cell? ⟨Mg1, 2, none⟩ = some (.int .i64 p.f2) := (blk_cell MB22.out 2).trans rfl; have Mz29 := blk_frozen MB22.out 2)) | ((go_at_call 25); ((with_reducible refine (process_within.calls v 268435456 true _ W2.out).mono ?_); rintro e Mw30 ⟨rfl, hb0_⟩; have hb_ := hb0_.below; clear hb0_; have MB31 := Aside0.mk (blk_below MB22.out hb_); have MH32 := Aside0.mk (below_step MH23.out hb_); clear hb_; clear Mx24 Mz25 Mx26 Mz27 Mx28 Mz29; have Mx33 : Mw30.cell? ⟨Mg1, 0, none⟩ = some (.int .i64 p.f0) := (blk_cell MB31.out 0).trans rfl; have Mz34 := blk_frozen MB31.out 0; have Mx35 : Mw30.cell? ⟨Mg1, 1, none⟩ = some (.int .i64 p.f1) := (blk_cell MB31.out 1).trans rfl; have Mz36 := blk_frozen MB31.out 1; have Mx37 : Mw30.cell? ⟨Mg1, 2, none⟩ = some (.int .i64 p.f2) := (blk_cell MB31.out 2).trans rfl; have Mz38 := blk_frozen MB31.out 2)) | ((go_at_call 35); ((with_reducible refine (DNew_calls p.f2 out (by have := HP.out; omega) (by have := HP.out; omega) _).mono ?_); rintro e Mw39 ⟨gk, vk, rfl, hk1, hk2, hk3, hk4, hb0_⟩; have hb_ := hb0_; clear hb0_; have MB40 := Aside0.mk (blk_below MB31.out hb_); have MH41 := Aside0.mk (below_step MH32.out hb_); have HK1 := Aside0.mk hk1; have HK2 := Aside0.mk (Kd.R_lower hk2 (below_size MH32.out)); have HK3 := Aside0.mk hk3; have HK4 : Aside0 (w.heap.size ≤ gk) := ⟨Nat.le_trans (below_size MH32.out) hk4⟩; clear hk1 hk2 hk3 hk4; clear hb_; clear Mx33 Mz34 Mx35 Mz36 Mx37 Mz38; have Mx42 : Mw39.cell? ⟨Mg1, 0, none⟩ = some (.int .i64 p.f0) := (blk_cell MB40.out 0).trans rfl; have Mz43 := blk_frozen MB40.out 0; have Mx44 : Mw39.cell? ⟨Mg1, 1, none⟩ = some (.int .i64 p.f1) := (blk_cell MB40.out 1).trans rfl; have Mz45 := blk_frozen MB40.out 1; have Mx46 : Mw39.cell? ⟨Mg1, 2, none⟩ = some (.int .i64 p.f2) := (blk_cell MB40.out 2).trans rfl; have Mz47 := blk_frozen MB40.out 2)) | ((with_reducible refine gate_dst (N := 38) rfl ?_); refine box_event ?hg (N := 38) ?hd (cs := #[.int .i64 p.f0, .int .i64 p.f1, .int .i64 p.f2, .int .i64 v, .pointer (some ⟨gk, 0, none⟩)]) (t := 98) ?hr ?_; (case hd => rfl); (case hg => rfl); (case hr => first | (go_simp; done) | (go_simp; rfl)); intro Mg48 hg_ Mw49 hbox_ hb_; have MB50 := Aside0.mk hbox_; have MG51 : Aside0 (w.heap.size ≤ Mg48) := ⟨by rw [hg_]; exact below_size MH41.out⟩; have MN52 : Aside0 (Mg1 ≠ Mg48) := ⟨by rw [hg_]; exact Nat.ne_of_lt (blk_lt MB40.out)⟩; have MN53 : Aside0 (gk ≠ Mg48) := ⟨by rw [hg_]; exact Nat.ne_of_lt (blk_lt HK1.out)⟩; have MA54 : Aside0 (∀ k_, (vk : Value).ownBlock = some k_ → k_ ≠ Mg48) := ⟨fun k_ hk_ => by rw [hg_]; exact Nat.ne_of_lt (Kd.R_lt HK2.out k_ hk_)⟩; have MB55 := Aside0.mk (blk_below MB40.out hb_); have MB56 := Aside0.mk (blk_below HK1.out hb_); have MR57 := Aside0.mk (Kd.R_below HK2.out hb_); have MH58 := Aside0.mk (below_step MH41.out hb_); clear hbox_ hb_ hg_; clear Mx42 Mz43 Mx44 Mz45 Mx46 Mz47; have Mx59 : Mw49.cell? ⟨Mg1, 0, none⟩ = some (.int .i64 p.f0) := (blk_cell MB55.out 0).trans rfl; have Mz60 := blk_frozen MB55.out 0; have Mx61 : Mw49.cell? ⟨Mg1, 1, none⟩ = some (.int .i64 p.f1) := (blk_cell MB55.out 1).trans rfl; have Mz62 := blk_frozen MB55.out 1; have Mx63 : Mw49.cell? ⟨Mg1, 2, none⟩ = some (.int .i64 p.f2) := (blk_cell MB55.out 2).trans rfl; have Mz64 := blk_frozen MB55.out 2; have Mx65 : Mw49.cell? ⟨gk, 0, none⟩ = some (vk) := (blk_cell MB56.out 0).trans rfl; have Mz66 := blk_frozen MB56.out 0; have Mx67 : Mw49.cell? ⟨Mg48, 0, none⟩ = some (.int .i64 p.f0) := (blk_cell MB50.out 0).trans rfl; have Mz68 := blk_frozen MB50.out 0; have Mx69 : Mw49.cell? ⟨Mg48, 1, none⟩ = some (.int .i64 p.f1) := (blk_cell MB50.out 1).trans rfl; have Mz70 := blk_frozen MB50.out 1; have Mx71 : Mw49.cell? ⟨Mg48, 2, none⟩ = some (.int .i64 p.f2) := (blk_cell MB50.out 2).trans rfl; have Mz72 := blk_frozen MB50.out 2; have Mx73 : Mw49.cell? ⟨Mg48, 3, none⟩ = some (.int .i64 v) := (blk_cell MB50.out 3).trans rfl; have Mz74 := blk_frozen MB50.out 3; have Mx75 : Mw49.cell? ⟨Mg48, 4, none⟩ = some (.pointer (some ⟨gk, 0, none⟩)) := (blk_cell MB50.out 4).trans rfl; have Mz76 := blk_frozen MB50.out 4))
  go_ret2
  exact ⟨_, _, _, rfl, MB50.out, MB56.out, MR57.out, HK3.out, MA54.out, ⟨MG51.out, HK4.out⟩, MH58.out⟩
set_option maxHeartbeats 16000000 in
set_option maxRecDepth 100000 in
theorem Begin_ok (c : S27) (hc : ckC c = 0) (out v : Int) (h1 : c.f0.f3 ≤ out ∧ out ≤ c.f0.f4) (h2 : sg v = true) (w : World) : Calls Try.prog 20 #[.agg #[.int .i64 c.f0.f0, .int .i64 c.f0.f1, .int .i64 c.f0.f2, .int .i64 c.f0.f3, .int .i64 c.f0.f4, .int .i64 c.f0.f5, .int .i64 c.f1.f0, .int .i64 c.f1.f1, .int .i64 c.f1.f2], .int .i64 out, .int .i64 v] w fun e w' => ∃ gl gs gk vk, e = .returned (.tuple #[.pointer (some ⟨gl, 0, none⟩), .bool true]) ∧ LAt w.heap.size c gl gs gk vk w' ⟨out, 0, v, List.replicate c.f1.f2.toNat out⟩ ∧ Below w.heap.size w w' := by
  have hu27 := Try.underlying27
  have hu25 := Try.underlying25
  have hu23 := Try.underlying23
  have hu82 := Try.underlying82
  have hu85 := Try.underlying85
  have hu98 := Try.underlying98
  have hu89 := Try.underlying89
  have hu3 := Try.underlying3
  have HB := Aside0.mk (Below.refl w.heap.size w)
  obtain ⟨hg, hp, _⟩ := ckC_is hc
  have WS : Aside0 (closed_signal.f v = some true) := ⟨by rw [signal_f, h2]⟩
  have WT : Aside0 (control_Start.f 2 c.f0.f0 c.f0.f1 c.f0.f2 c.f0.f3 c.f0.f4 c.f0.f5 out = some (out, 0, 0)) := ⟨by rw [start_f c.f0 hg out, if_pos h1]⟩
  have HV := Aside0.mk (sg_is h2)
  have HO : Aside0 (-16777216 ≤ out ∧ out ≤ 16777216) := ⟨by have := ckG_is hg; omega⟩
  have HP := Aside0.mk hp
  clear hc hg hp h1 h2
  go_enter Try.func20, Try.ntmps20
  go_wp2_with (first | ((with_reducible refine gate_dst (N := 3) rfl ?_); refine box_event ?hg (N := 3) ?hd (cs := #[.int .i64 c.f0.f0, .int .i64 c.f0.f1, .int .i64 c.f0.f2, .int .i64 c.f0.f3, .int .i64 c.f0.f4, .int .i64 c.f0.f5, .int .i64 c.f1.f0, .int .i64 c.f1.f1, .int .i64 c.f1.f2]) (t := 27) ?hr ?_; (case hd => rfl); (case hg => rfl); (case hr => first | (go_simp; done) | (go_simp; rfl)); intro Mg1 hg_ Mw2 hbox_ hb_; have MB3 := Aside0.mk hbox_; have MG4 : Aside0 (w.heap.size ≤ Mg1) := ⟨by rw [hg_]; exact below_size HB.out⟩; have MH5 := Aside0.mk (below_step HB.out hb_); clear hbox_ hb_ hg_; have Mx6 : Mw2.cell? ⟨Mg1, 0, none⟩ = some (.int .i64 c.f0.f0) := (blk_cell MB3.out 0).trans rfl; have Mz7 := blk_frozen MB3.out 0; have Mx8 : Mw2.cell? ⟨Mg1, 1, none⟩ = some (.int .i64 c.f0.f1) := (blk_cell MB3.out 1).trans rfl; have Mz9 := blk_frozen MB3.out 1; have Mx10 : Mw2.cell? ⟨Mg1, 2, none⟩ = some (.int .i64 c.f0.f2) := (blk_cell MB3.out 2).trans rfl; have Mz11 := blk_frozen MB3.out 2; have Mx12 : Mw2.cell? ⟨Mg1, 3, none⟩ = some (.int .i64 c.f0.f3) := (blk_cell MB3.out 3).trans rfl; have Mz13 := blk_frozen MB3.out 3; have Mx14 : Mw2.cell? ⟨Mg1, 4, none⟩ = some (.int .i64 c.f0.f4) := (blk_cell MB3.out 4).trans rfl; have Mz15 := blk_frozen MB3.out 4; have Mx16 : Mw2.cell? ⟨Mg1, 5, none⟩ = some (.int .i64 c.f0.f5) := (blk_cell MB3.out 5).trans rfl; have Mz17 := blk_frozen MB3.out 5; have Mx18 : Mw2.cell? ⟨Mg1, 6, none⟩ = some (.int .i64 c.f1.f0) := (blk_cell MB3.out 6).trans rfl; have Mz19 := blk_frozen MB3.out 6; have Mx20 : Mw2.cell? ⟨Mg1, 7, none⟩ = some (.int .i64 c.f1.f1) := (blk_cell MB3.out 7).trans rfl; have Mz21 := blk_frozen MB3.out 7; have Mx22 : Mw2.cell? ⟨Mg1, 8, none⟩ = some (.int .i64 c.f1.f2) := (blk_cell MB3.out 8).trans rfl; have Mz23 := blk_frozen MB3.out 8) | ((go_at_call 21); ((with_reducible refine (closed_signal.calls v true _ WS.out).mono ?_); rintro e Mw24 ⟨rfl, hb0_⟩; have hb_ := hb0_.below; clear hb0_; have MB25 := Aside0.mk (blk_below MB3.out hb_); have MH26 := Aside0.mk (below_step MH5.out hb_); clear hb_; clear Mx6 Mz7 Mx8 Mz9 Mx10 Mz11 Mx12 Mz13 Mx14 Mz15 Mx16 Mz17 Mx18 Mz19 Mx20 Mz21 Mx22 Mz23; have Mx27 : Mw24.cell? ⟨Mg1, 0, none⟩ = some (.int .i64 c.f0.f0) := (blk_cell MB25.out 0).trans rfl; have Mz28 := blk_frozen MB25.out 0; have Mx29 : Mw24.cell? ⟨Mg1, 1, none⟩ = some (.int .i64 c.f0.f1) := (blk_cell MB25.out 1).trans rfl; have Mz30 := blk_frozen MB25.out 1; have Mx31 : Mw24.cell? ⟨Mg1, 2, none⟩ = some (.int .i64 c.f0.f2) := (blk_cell MB25.out 2).trans rfl; have Mz32 := blk_frozen MB25.out 2; have Mx33 : Mw24.cell? ⟨Mg1, 3, none⟩ = some (.int .i64 c.f0.f3) := (blk_cell MB25.out 3).trans rfl; have Mz34 := blk_frozen MB25.out 3; have Mx35 : Mw24.cell? ⟨Mg1, 4, none⟩ = some (.int .i64 c.f0.f4) := (blk_cell MB25.out 4).trans rfl; have Mz36 := blk_frozen MB25.out 4; have Mx37 : Mw24.cell? ⟨Mg1, 5, none⟩ = some (.int .i64 c.f0.f5) := (blk_cell MB25.out 5).trans rfl; have Mz38 := blk_frozen MB25.out 5; have Mx39 : Mw24.cell? ⟨Mg1, 6, none⟩ = some (.int .i64 c.f1.f0) := (blk_cell MB25.out 6).trans rfl; have Mz40 := blk_frozen MB25.out 6; have Mx41 : Mw24.cell? ⟨Mg1, 7, none⟩ = some (.int .i64 c.f1.f1) := (blk_cell MB25.out 7).trans rfl; have Mz42 := blk_frozen MB25.out 7; have Mx43 : Mw24.cell? ⟨Mg1, 8, none⟩ = some (.int .i64 c.f1.f2) := (blk_cell MB25.out 8).trans rfl; have Mz44 := blk_frozen MB25.out 8)) | ((go_at_call 28); ((with_reducible refine (control_Start.calls 2 c.f0.f0 c.f0.f1 c.f0.f2 c.f0.f3 c.f0.f4 c.f0.f5 out out 0 0 _ WT.out).mono ?_); rintro e Mw45 ⟨rfl, hb0_⟩; have hb_ := hb0_; clear hb0_; have MB46 := Aside0.mk (blk_below MB25.out hb_); have MH47 := Aside0.mk (below_step MH26.out hb_); clear hb_; clear Mx27 Mz28 Mx29 Mz30 Mx31 Mz32 Mx33 Mz34 Mx35 Mz36 Mx37 Mz38 Mx39 Mz40 Mx41 Mz42 Mx43 Mz44; have Mx48 : Mw45.cell? ⟨Mg1, 0, none⟩ = some (.int .i64 c.f0.f0) := (blk_cell MB46.out 0).trans rfl; have Mz49 := blk_frozen MB46.out 0; have Mx50 : Mw45.cell? ⟨Mg1, 1, none⟩ = some (.int .i64 c.f0.f1) := (blk_cell MB46.out 1).trans rfl; have Mz51 := blk_frozen MB46.out 1; have Mx52 : Mw45.cell? ⟨Mg1, 2, none⟩ = some (.int .i64 c.f0.f2) := (blk_cell MB46.out 2).trans rfl; have Mz53 := blk_frozen MB46.out 2; have Mx54 : Mw45.cell? ⟨Mg1, 3, none⟩ = some (.int .i64 c.f0.f3) := (blk_cell MB46.out 3).trans rfl; have Mz55 := blk_frozen MB46.out 3; have Mx56 : Mw45.cell? ⟨Mg1, 4, none⟩ = some (.int .i64 c.f0.f4) := (blk_cell MB46.out 4).trans rfl; have Mz57 := blk_frozen MB46.out 4; have Mx58 : Mw45.cell? ⟨Mg1, 5, none⟩ = some (.int .i64 c.f0.f5) := (blk_cell MB46.out 5).trans rfl; have Mz59 := blk_frozen MB46.out 5; have Mx60 : Mw45.cell? ⟨Mg1, 6, none⟩ = some (.int .i64 c.f1.f0) := (blk_cell MB46.out 6).trans rfl; have Mz61 := blk_frozen MB46.out 6; have Mx62 : Mw45.cell? ⟨Mg1, 7, none⟩ = some (.int .i64 c.f1.f1) := (blk_cell MB46.out 7).trans rfl; have Mz63 := blk_frozen MB46.out 7; have Mx64 : Mw45.cell? ⟨Mg1, 8, none⟩ = some (.int .i64 c.f1.f2) := (blk_cell MB46.out 8).trans rfl; have Mz65 := blk_frozen MB46.out 8)) | ((with_reducible refine gate_dst (N := 8) rfl ?_); refine box_event ?hg (N := 8) ?hd (cs := #[.int .i64 0, .int .i64 0]) (t := 82) ?hr ?_; (case hd => rfl); (case hg => rfl); (case hr => first | (go_simp; done) | (go_simp; rfl)); intro Mg66 hg_ Mw67 hbox_ hb_; have MB68 := Aside0.mk hbox_; have MG69 : Aside0 (w.heap.size ≤ Mg66) := ⟨by rw [hg_]; exact below_size MH47.out⟩; have MN70 : Aside0 (Mg1 ≠ Mg66) := ⟨by rw [hg_]; exact Nat.ne_of_lt (blk_lt MB46.out)⟩; have MB71 := Aside0.mk (blk_below MB46.out hb_); have MH72 := Aside0.mk (below_step MH47.out hb_); clear hbox_ hb_ hg_; clear Mx48 Mz49 Mx50 Mz51 Mx52 Mz53 Mx54 Mz55 Mx56 Mz57 Mx58 Mz59 Mx60 Mz61 Mx62 Mz63 Mx64 Mz65; have Mx73 : Mw67.cell? ⟨Mg1, 0, none⟩ = some (.int .i64 c.f0.f0) := (blk_cell MB71.out 0).trans rfl; have Mz74 := blk_frozen MB71.out 0; have Mx75 : Mw67.cell? ⟨Mg1, 1, none⟩ = some (.int .i64 c.f0.f1) := (blk_cell MB71.out 1).trans rfl; have Mz76 := blk_frozen MB71.out 1; have Mx77 : Mw67.cell? ⟨Mg1, 2, none⟩ = some (.int .i64 c.f0.f2) := (blk_cell MB71.out 2).trans rfl; have Mz78 := blk_frozen MB71.out 2; have Mx79 : Mw67.cell? ⟨Mg1, 3, none⟩ = some (.int .i64 c.f0.f3) := (blk_cell MB71.out 3).trans rfl; have Mz80 := blk_frozen MB71.out 3; have Mx81 : Mw67.cell? ⟨Mg1, 4, none⟩ = some (.int .i64 c.f0.f4) := (blk_cell MB71.out 4).trans rfl; have Mz82 := blk_frozen MB71.out 4; have Mx83 : Mw67.cell? ⟨Mg1, 5, none⟩ = some (.int .i64 c.f0.f5) := (blk_cell MB71.out 5).trans rfl; have Mz84 := blk_frozen MB71.out 5; have Mx85 : Mw67.cell? ⟨Mg1, 6, none⟩ = some (.int .i64 c.f1.f0) := (blk_cell MB71.out 6).trans rfl; have Mz86 := blk_frozen MB71.out 6; have Mx87 : Mw67.cell? ⟨Mg1, 7, none⟩ = some (.int .i64 c.f1.f1) := (blk_cell MB71.out 7).trans rfl; have Mz88 := blk_frozen MB71.out 7; have Mx89 : Mw67.cell? ⟨Mg1, 8, none⟩ = some (.int .i64 c.f1.f2) := (blk_cell MB71.out 8).trans rfl; have Mz90 := blk_frozen MB71.out 8; have Mx91 : Mw67.cell? ⟨Mg66, 0, none⟩ = some (.int .i64 0) := (blk_cell MB68.out 0).trans rfl; have Mz92 := blk_frozen MB68.out 0; have Mx93 : Mw67.cell? ⟨Mg66, 1, none⟩ = some (.int .i64 0) := (blk_cell MB68.out 1).trans rfl; have Mz94 := blk_frozen MB68.out 1) | ((with_reducible refine gate_store (t := 82) (p := 8) rfl ?_); refine store_event (t := 82) (p := 8) (v := ?vo_Mw95) (w1 := ((Mw67.setCell ⟨Mg66, 0, none⟩ (.int .i64 out)).setCell ⟨Mg66, 1, none⟩ (.int .i64 0))) ?hg ?ho ?hn ?hr ?_; (case ho => rfl); (case hg => rfl); (case hn => rfl); (case hr => first | (go_simp; done) | (go_simp; rfl)); intro Mw95 hw_; have MB96 : Aside0 (Mw95.heap[Mg1]? = some (.cells #[.int .i64 c.f0.f0, .int .i64 c.f0.f1, .int .i64 c.f0.f2, .int .i64 c.f0.f3, .int .i64 c.f0.f4, .int .i64 c.f0.f5, .int .i64 c.f1.f0, .int .i64 c.f1.f1, .int .i64 c.f1.f2] 27 (0, 0))) := ⟨by rw [hw_]; exact (blk_far (blk_far MB71.out MN70.out _) MN70.out _)⟩; have MB97 : Aside0 (Mw95.heap[Mg66]? = some (.cells #[.int .i64 out, .int .i64 0] 82 (0, 0))) := ⟨by rw [hw_]; exact (blk_put (blk_put MB68.out 0 _ rfl) 1 _ rfl)⟩; have MH98 : Aside0 (Below w.heap.size w Mw95) := ⟨by rw [hw_]; exact (below_set (below_set MH72.out MG69.out) MG69.out)⟩; clear hw_; clear Mx73 Mz74 Mx75 Mz76 Mx77 Mz78 Mx79 Mz80 Mx81 Mz82 Mx83 Mz84 Mx85 Mz86 Mx87 Mz88 Mx89 Mz90 Mx91 Mz92 Mx93 Mz94; have Mx99 : Mw95.cell? ⟨Mg1, 0, none⟩ = some (.int .i64 c.f0.f0) := (blk_cell MB96.out 0).trans rfl; have Mz100 := blk_frozen MB96.out 0; have Mx101 : Mw95.cell? ⟨Mg1, 1, none⟩ = some (.int .i64 c.f0.f1) := (blk_cell MB96.out 1).trans rfl; have Mz102 := blk_frozen MB96.out 1; have Mx103 : Mw95.cell? ⟨Mg1, 2, none⟩ = some (.int .i64 c.f0.f2) := (blk_cell MB96.out 2).trans rfl; have Mz104 := blk_frozen MB96.out 2; have Mx105 : Mw95.cell? ⟨Mg1, 3, none⟩ = some (.int .i64 c.f0.f3) := (blk_cell MB96.out 3).trans rfl; have Mz106 := blk_frozen MB96.out 3; have Mx107 : Mw95.cell? ⟨Mg1, 4, none⟩ = some (.int .i64 c.f0.f4) := (blk_cell MB96.out 4).trans rfl; have Mz108 := blk_frozen MB96.out 4; have Mx109 : Mw95.cell? ⟨Mg1, 5, none⟩ = some (.int .i64 c.f0.f5) := (blk_cell MB96.out 5).trans rfl; have Mz110 := blk_frozen MB96.out 5; have Mx111 : Mw95.cell? ⟨Mg1, 6, none⟩ = some (.int .i64 c.f1.f0) := (blk_cell MB96.out 6).trans rfl; have Mz112 := blk_frozen MB96.out 6; have Mx113 : Mw95.cell? ⟨Mg1, 7, none⟩ = some (.int .i64 c.f1.f1) := (blk_cell MB96.out 7).trans rfl; have Mz114 := blk_frozen MB96.out 7; have Mx115 : Mw95.cell? ⟨Mg1, 8, none⟩ = some (.int .i64 c.f1.f2) := (blk_cell MB96.out 8).trans rfl; have Mz116 := blk_frozen MB96.out 8; have Mx117 : Mw95.cell? ⟨Mg66, 0, none⟩ = some (.int .i64 out) := (blk_cell MB97.out 0).trans rfl; have Mz118 := blk_frozen MB97.out 0; have Mx119 : Mw95.cell? ⟨Mg66, 1, none⟩ = some (.int .i64 0) := (blk_cell MB97.out 1).trans rfl; have Mz120 := blk_frozen MB97.out 1) | ((go_at_call 29); ((with_reducible refine (PNew_calls c.f1 HP.out out v HO.out (by have := HV.out; omega) _).mono ?_); rintro e Mw121 ⟨gs, gk, vk, rfl, h1, h2, h3, h4, h5, ⟨h6, h7⟩, hb0_⟩; have hb_ := hb0_; clear hb0_; have MB122 := Aside0.mk (blk_below MB96.out hb_); have MB123 := Aside0.mk (blk_below MB97.out hb_); have MH124 := Aside0.mk (below_step MH98.out hb_); have HK1 := Aside0.mk h1; have HK2 := Aside0.mk h2; have HK3 := Aside0.mk (Kd.R_lower h3 (below_size MH98.out)); have HK4 := Aside0.mk h4; have HK5 := Aside0.mk h5; have HK6 : Aside0 (w.heap.size ≤ gs) := ⟨Nat.le_trans (below_size MH98.out) h6⟩; have HK7 : Aside0 (w.heap.size ≤ gk) := ⟨Nat.le_trans (below_size MH98.out) h7⟩; clear h1 h2 h3 h4 h5 h6 h7; clear hb_; clear Mx99 Mz100 Mx101 Mz102 Mx103 Mz104 Mx105 Mz106 Mx107 Mz108 Mx109 Mz110 Mx111 Mz112 Mx113 Mz114 Mx115 Mz116 Mx117 Mz118 Mx119 Mz120; have Mx125 : Mw121.cell? ⟨Mg1, 0, none⟩ = some (.int .i64 c.f0.f0) := (blk_cell MB122.out 0).trans rfl; have Mz126 := blk_frozen MB122.out 0; have Mx127 : Mw121.cell? ⟨Mg1, 1, none⟩ = some (.int .i64 c.f0.f1) := (blk_cell MB122.out 1).trans rfl; have Mz128 := blk_frozen MB122.out 1; have Mx129 : Mw121.cell? ⟨Mg1, 2, none⟩ = some (.int .i64 c.f0.f2) := (blk_cell MB122.out 2).trans rfl; have Mz130 := blk_frozen MB122.out 2; have Mx131 : Mw121.cell? ⟨Mg1, 3, none⟩ = some (.int .i64 c.f0.f3) := (blk_cell MB122.out 3).trans rfl; have Mz132 := blk_frozen MB122.out 3; have Mx133 : Mw121.cell? ⟨Mg1, 4, none⟩ = some (.int .i64 c.f0.f4) := (blk_cell MB122.out 4).trans rfl; have Mz134 := blk_frozen MB122.out 4; have Mx135 : Mw121.cell? ⟨Mg1, 5, none⟩ = some (.int .i64 c.f0.f5) := (blk_cell MB122.out 5).trans rfl; have Mz136 := blk_frozen MB122.out 5; have Mx137 : Mw121.cell? ⟨Mg1, 6, none⟩ = some (.int .i64 c.f1.f0) := (blk_cell MB122.out 6).trans rfl; have Mz138 := blk_frozen MB122.out 6; have Mx139 : Mw121.cell? ⟨Mg1, 7, none⟩ = some (.int .i64 c.f1.f1) := (blk_cell MB122.out 7).trans rfl; have Mz140 := blk_frozen MB122.out 7; have Mx141 : Mw121.cell? ⟨Mg1, 8, none⟩ = some (.int .i64 c.f1.f2) := (blk_cell MB122.out 8).trans rfl; have Mz142 := blk_frozen MB122.out 8; have Mx143 : Mw121.cell? ⟨Mg66, 0, none⟩ = some (.int .i64 out) := (blk_cell MB123.out 0).trans rfl; have Mz144 := blk_frozen MB123.out 0; have Mx145 : Mw121.cell? ⟨Mg66, 1, none⟩ = some (.int .i64 0) := (blk_cell MB123.out 1).trans rfl; have Mz146 := blk_frozen MB123.out 1)) | ((with_reducible refine gate_dst (N := 36) rfl ?_); refine box_event ?hg (N := 36) ?hd (cs := #[.pointer (some ⟨gs, 0, none⟩), .int .i64 c.f0.f0, .int .i64 c.f0.f1, .int .i64 c.f0.f2, .int .i64 c.f0.f3, .int .i64 c.f0.f4, .int .i64 c.f0.f5, .int .i64 out, .int .i64 0]) (t := 89) ?hr ?_; (case hd => rfl); (case hg => rfl); (case hr => first | (go_simp; done) | (go_simp; rfl)); intro Mg147 hg_ Mw148 hbox_ hb_; have MB149 := Aside0.mk hbox_; have MG150 : Aside0 (w.heap.size ≤ Mg147) := ⟨by rw [hg_]; exact below_size MH124.out⟩; have MN151 : Aside0 (Mg1 ≠ Mg147) := ⟨by rw [hg_]; exact Nat.ne_of_lt (blk_lt MB122.out)⟩; have MN152 : Aside0 (Mg66 ≠ Mg147) := ⟨by rw [hg_]; exact Nat.ne_of_lt (blk_lt MB123.out)⟩; have MN153 : Aside0 (gs ≠ Mg147) := ⟨by rw [hg_]; exact Nat.ne_of_lt (blk_lt HK1.out)⟩; have MN154 : Aside0 (gk ≠ Mg147) := ⟨by rw [hg_]; exact Nat.ne_of_lt (blk_lt HK2.out)⟩; have MA155 : Aside0 (∀ k_, (vk : Value).ownBlock = some k_ → k_ ≠ Mg147) := ⟨fun k_ hk_ => by rw [hg_]; exact Nat.ne_of_lt (Kd.R_lt HK3.out k_ hk_)⟩; have MB156 := Aside0.mk (blk_below MB122.out hb_); have MB157 := Aside0.mk (blk_below MB123.out hb_); have MB158 := Aside0.mk (blk_below HK1.out hb_); have MB159 := Aside0.mk (blk_below HK2.out hb_); have MR160 := Aside0.mk (Kd.R_below HK3.out hb_); have MH161 := Aside0.mk (below_step MH124.out hb_); clear hbox_ hb_ hg_; clear Mx125 Mz126 Mx127 Mz128 Mx129 Mz130 Mx131 Mz132 Mx133 Mz134 Mx135 Mz136 Mx137 Mz138 Mx139 Mz140 Mx141 Mz142 Mx143 Mz144 Mx145 Mz146; have Mx162 : Mw148.cell? ⟨Mg1, 0, none⟩ = some (.int .i64 c.f0.f0) := (blk_cell MB156.out 0).trans rfl; have Mz163 := blk_frozen MB156.out 0; have Mx164 : Mw148.cell? ⟨Mg1, 1, none⟩ = some (.int .i64 c.f0.f1) := (blk_cell MB156.out 1).trans rfl; have Mz165 := blk_frozen MB156.out 1; have Mx166 : Mw148.cell? ⟨Mg1, 2, none⟩ = some (.int .i64 c.f0.f2) := (blk_cell MB156.out 2).trans rfl; have Mz167 := blk_frozen MB156.out 2; have Mx168 : Mw148.cell? ⟨Mg1, 3, none⟩ = some (.int .i64 c.f0.f3) := (blk_cell MB156.out 3).trans rfl; have Mz169 := blk_frozen MB156.out 3; have Mx170 : Mw148.cell? ⟨Mg1, 4, none⟩ = some (.int .i64 c.f0.f4) := (blk_cell MB156.out 4).trans rfl; have Mz171 := blk_frozen MB156.out 4; have Mx172 : Mw148.cell? ⟨Mg1, 5, none⟩ = some (.int .i64 c.f0.f5) := (blk_cell MB156.out 5).trans rfl; have Mz173 := blk_frozen MB156.out 5; have Mx174 : Mw148.cell? ⟨Mg1, 6, none⟩ = some (.int .i64 c.f1.f0) := (blk_cell MB156.out 6).trans rfl; have Mz175 := blk_frozen MB156.out 6; have Mx176 : Mw148.cell? ⟨Mg1, 7, none⟩ = some (.int .i64 c.f1.f1) := (blk_cell MB156.out 7).trans rfl; have Mz177 := blk_frozen MB156.out 7; have Mx178 : Mw148.cell? ⟨Mg1, 8, none⟩ = some (.int .i64 c.f1.f2) := (blk_cell MB156.out 8).trans rfl; have Mz179 := blk_frozen MB156.out 8; have Mx180 : Mw148.cell? ⟨Mg66, 0, none⟩ = some (.int .i64 out) := (blk_cell MB157.out 0).trans rfl; have Mz181 := blk_frozen MB157.out 0; have Mx182 : Mw148.cell? ⟨Mg66, 1, none⟩ = some (.int .i64 0) := (blk_cell MB157.out 1).trans rfl; have Mz183 := blk_frozen MB157.out 1; have Mx184 : Mw148.cell? ⟨gs, 0, none⟩ = some (.int .i64 c.f1.f0) := (blk_cell MB158.out 0).trans rfl; have Mz185 := blk_frozen MB158.out 0; have Mx186 : Mw148.cell? ⟨gs, 1, none⟩ = some (.int .i64 c.f1.f1) := (blk_cell MB158.out 1).trans rfl; have Mz187 := blk_frozen MB158.out 1; have Mx188 : Mw148.cell? ⟨gs, 2, none⟩ = some (.int .i64 c.f1.f2) := (blk_cell MB158.out 2).trans rfl; have Mz189 := blk_frozen MB158.out 2; have Mx190 : Mw148.cell? ⟨gs, 3, none⟩ = some (.int .i64 v) := (blk_cell MB158.out 3).trans rfl; have Mz191 := blk_frozen MB158.out 3; have Mx192 : Mw148.cell? ⟨gs, 4, none⟩ = some (.pointer (some ⟨gk, 0, none⟩)) := (blk_cell MB158.out 4).trans rfl; have Mz193 := blk_frozen MB158.out 4; have Mx194 : Mw148.cell? ⟨gk, 0, none⟩ = some (vk) := (blk_cell MB159.out 0).trans rfl; have Mz195 := blk_frozen MB159.out 0; have Mx196 : Mw148.cell? ⟨Mg147, 0, none⟩ = some (.pointer (some ⟨gs, 0, none⟩)) := (blk_cell MB149.out 0).trans rfl; have Mz197 := blk_frozen MB149.out 0; have Mx198 : Mw148.cell? ⟨Mg147, 1, none⟩ = some (.int .i64 c.f0.f0) := (blk_cell MB149.out 1).trans rfl; have Mz199 := blk_frozen MB149.out 1; have Mx200 : Mw148.cell? ⟨Mg147, 2, none⟩ = some (.int .i64 c.f0.f1) := (blk_cell MB149.out 2).trans rfl; have Mz201 := blk_frozen MB149.out 2; have Mx202 : Mw148.cell? ⟨Mg147, 3, none⟩ = some (.int .i64 c.f0.f2) := (blk_cell MB149.out 3).trans rfl; have Mz203 := blk_frozen MB149.out 3; have Mx204 : Mw148.cell? ⟨Mg147, 4, none⟩ = some (.int .i64 c.f0.f3) := (blk_cell MB149.out 4).trans rfl; have Mz205 := blk_frozen MB149.out 4; have Mx206 : Mw148.cell? ⟨Mg147, 5, none⟩ = some (.int .i64 c.f0.f4) := (blk_cell MB149.out 5).trans rfl; have Mz207 := blk_frozen MB149.out 5; have Mx208 : Mw148.cell? ⟨Mg147, 6, none⟩ = some (.int .i64 c.f0.f5) := (blk_cell MB149.out 6).trans rfl; have Mz209 := blk_frozen MB149.out 6; have Mx210 : Mw148.cell? ⟨Mg147, 7, none⟩ = some (.int .i64 out) := (blk_cell MB149.out 7).trans rfl; have Mz211 := blk_frozen MB149.out 7; have Mx212 : Mw148.cell? ⟨Mg147, 8, none⟩ = some (.int .i64 0) := (blk_cell MB149.out 8).trans rfl; have Mz213 := blk_frozen MB149.out 8))
  go_ret2
  exact ⟨_, _, _, _, rfl, LAt.mk_ MB149.out MB158.out MB159.out MR160.out MA155.out HK5.out HK4.out ⟨MG150.out, HK6.out, HK7.out⟩, MH161.out⟩
set_option maxHeartbeats 16000000 in
set_option maxRecDepth 100000 in
theorem Begin_no (c : S27) (hc : ckC c = 0) (out v : Int) (hn : ¬ (sg v = true ∧ c.f0.f3 ≤ out ∧ out ≤ c.f0.f4)) (w : World) : Calls Try.prog 20 #[.agg #[.int .i64 c.f0.f0, .int .i64 c.f0.f1, .int .i64 c.f0.f2, .int .i64 c.f0.f3, .int .i64 c.f0.f4, .int .i64 c.f0.f5, .int .i64 c.f1.f0, .int .i64 c.f1.f1, .int .i64 c.f1.f2], .int .i64 out, .int .i64 v] w fun e w' => e = .returned (.tuple #[.pointer none, .bool false]) ∧ Below w.heap.size w w' := by
  have hu27 := Try.underlying27
  have hu25 := Try.underlying25
  have hu23 := Try.underlying23
  have hu82 := Try.underlying82
  have hu85 := Try.underlying85
  have hu98 := Try.underlying98
  have hu89 := Try.underlying89
  have hu3 := Try.underlying3
  have HB := Aside0.mk (Below.refl w.heap.size w)
  obtain ⟨hg, hp, _⟩ := ckC_is hc
  have WS := Aside0.mk (signal_f v)
  have WT := Aside0.mk (start_f c.f0 hg out)
  clear hc hp
  by_cases h2 : sg v = true
  · rw [if_neg (fun h => hn ⟨h2, h⟩)] at WT
    rw [h2] at WS
    clear hn h2 hg
    go_enter Try.func20, Try.ntmps20
    go_wp2_with (first | ((with_reducible refine gate_dst (N := 3) rfl ?_); refine box_event ?hg (N := 3) ?hd (cs := #[.int .i64 c.f0.f0, .int .i64 c.f0.f1, .int .i64 c.f0.f2, .int .i64 c.f0.f3, .int .i64 c.f0.f4, .int .i64 c.f0.f5, .int .i64 c.f1.f0, .int .i64 c.f1.f1, .int .i64 c.f1.f2]) (t := 27) ?hr ?_; (case hd => rfl); (case hg => rfl); (case hr => first | (go_simp; done) | (go_simp; rfl)); intro Mg1 hg_ Mw2 hbox_ hb_; have MB3 := Aside0.mk hbox_; have MG4 : Aside0 (w.heap.size ≤ Mg1) := ⟨by rw [hg_]; exact below_size HB.out⟩; have MH5 := Aside0.mk (below_step HB.out hb_); clear hbox_ hb_ hg_; have Mx6 : Mw2.cell? ⟨Mg1, 0, none⟩ = some (.int .i64 c.f0.f0) := (blk_cell MB3.out 0).trans rfl; have Mz7 := blk_frozen MB3.out 0; have Mx8 : Mw2.cell? ⟨Mg1, 1, none⟩ = some (.int .i64 c.f0.f1) := (blk_cell MB3.out 1).trans rfl; have Mz9 := blk_frozen MB3.out 1; have Mx10 : Mw2.cell? ⟨Mg1, 2, none⟩ = some (.int .i64 c.f0.f2) := (blk_cell MB3.out 2).trans rfl; have Mz11 := blk_frozen MB3.out 2; have Mx12 : Mw2.cell? ⟨Mg1, 3, none⟩ = some (.int .i64 c.f0.f3) := (blk_cell MB3.out 3).trans rfl; have Mz13 := blk_frozen MB3.out 3; have Mx14 : Mw2.cell? ⟨Mg1, 4, none⟩ = some (.int .i64 c.f0.f4) := (blk_cell MB3.out 4).trans rfl; have Mz15 := blk_frozen MB3.out 4; have Mx16 : Mw2.cell? ⟨Mg1, 5, none⟩ = some (.int .i64 c.f0.f5) := (blk_cell MB3.out 5).trans rfl; have Mz17 := blk_frozen MB3.out 5; have Mx18 : Mw2.cell? ⟨Mg1, 6, none⟩ = some (.int .i64 c.f1.f0) := (blk_cell MB3.out 6).trans rfl; have Mz19 := blk_frozen MB3.out 6; have Mx20 : Mw2.cell? ⟨Mg1, 7, none⟩ = some (.int .i64 c.f1.f1) := (blk_cell MB3.out 7).trans rfl; have Mz21 := blk_frozen MB3.out 7; have Mx22 : Mw2.cell? ⟨Mg1, 8, none⟩ = some (.int .i64 c.f1.f2) := (blk_cell MB3.out 8).trans rfl; have Mz23 := blk_frozen MB3.out 8) | ((go_at_call 21); ((with_reducible refine (closed_signal.calls v true _ WS.out).mono ?_); rintro e Mw24 ⟨rfl, hb0_⟩; have hb_ := hb0_.below; clear hb0_; have MB25 := Aside0.mk (blk_below MB3.out hb_); have MH26 := Aside0.mk (below_step MH5.out hb_); clear hb_; clear Mx6 Mz7 Mx8 Mz9 Mx10 Mz11 Mx12 Mz13 Mx14 Mz15 Mx16 Mz17 Mx18 Mz19 Mx20 Mz21 Mx22 Mz23; have Mx27 : Mw24.cell? ⟨Mg1, 0, none⟩ = some (.int .i64 c.f0.f0) := (blk_cell MB25.out 0).trans rfl; have Mz28 := blk_frozen MB25.out 0; have Mx29 : Mw24.cell? ⟨Mg1, 1, none⟩ = some (.int .i64 c.f0.f1) := (blk_cell MB25.out 1).trans rfl; have Mz30 := blk_frozen MB25.out 1; have Mx31 : Mw24.cell? ⟨Mg1, 2, none⟩ = some (.int .i64 c.f0.f2) := (blk_cell MB25.out 2).trans rfl; have Mz32 := blk_frozen MB25.out 2; have Mx33 : Mw24.cell? ⟨Mg1, 3, none⟩ = some (.int .i64 c.f0.f3) := (blk_cell MB25.out 3).trans rfl; have Mz34 := blk_frozen MB25.out 3; have Mx35 : Mw24.cell? ⟨Mg1, 4, none⟩ = some (.int .i64 c.f0.f4) := (blk_cell MB25.out 4).trans rfl; have Mz36 := blk_frozen MB25.out 4; have Mx37 : Mw24.cell? ⟨Mg1, 5, none⟩ = some (.int .i64 c.f0.f5) := (blk_cell MB25.out 5).trans rfl; have Mz38 := blk_frozen MB25.out 5; have Mx39 : Mw24.cell? ⟨Mg1, 6, none⟩ = some (.int .i64 c.f1.f0) := (blk_cell MB25.out 6).trans rfl; have Mz40 := blk_frozen MB25.out 6; have Mx41 : Mw24.cell? ⟨Mg1, 7, none⟩ = some (.int .i64 c.f1.f1) := (blk_cell MB25.out 7).trans rfl; have Mz42 := blk_frozen MB25.out 7; have Mx43 : Mw24.cell? ⟨Mg1, 8, none⟩ = some (.int .i64 c.f1.f2) := (blk_cell MB25.out 8).trans rfl; have Mz44 := blk_frozen MB25.out 8)) | ((go_at_call 28); ((with_reducible refine (control_Start.calls 2 c.f0.f0 c.f0.f1 c.f0.f2 c.f0.f3 c.f0.f4 c.f0.f5 out 0 0 1 _ WT.out).mono ?_); rintro e Mw45 ⟨rfl, hb0_⟩; have hb_ := hb0_; clear hb0_; have MB46 := Aside0.mk (blk_below MB25.out hb_); have MH47 := Aside0.mk (below_step MH26.out hb_); clear hb_; clear Mx27 Mz28 Mx29 Mz30 Mx31 Mz32 Mx33 Mz34 Mx35 Mz36 Mx37 Mz38 Mx39 Mz40 Mx41 Mz42 Mx43 Mz44; have Mx48 : Mw45.cell? ⟨Mg1, 0, none⟩ = some (.int .i64 c.f0.f0) := (blk_cell MB46.out 0).trans rfl; have Mz49 := blk_frozen MB46.out 0; have Mx50 : Mw45.cell? ⟨Mg1, 1, none⟩ = some (.int .i64 c.f0.f1) := (blk_cell MB46.out 1).trans rfl; have Mz51 := blk_frozen MB46.out 1; have Mx52 : Mw45.cell? ⟨Mg1, 2, none⟩ = some (.int .i64 c.f0.f2) := (blk_cell MB46.out 2).trans rfl; have Mz53 := blk_frozen MB46.out 2; have Mx54 : Mw45.cell? ⟨Mg1, 3, none⟩ = some (.int .i64 c.f0.f3) := (blk_cell MB46.out 3).trans rfl; have Mz55 := blk_frozen MB46.out 3; have Mx56 : Mw45.cell? ⟨Mg1, 4, none⟩ = some (.int .i64 c.f0.f4) := (blk_cell MB46.out 4).trans rfl; have Mz57 := blk_frozen MB46.out 4; have Mx58 : Mw45.cell? ⟨Mg1, 5, none⟩ = some (.int .i64 c.f0.f5) := (blk_cell MB46.out 5).trans rfl; have Mz59 := blk_frozen MB46.out 5; have Mx60 : Mw45.cell? ⟨Mg1, 6, none⟩ = some (.int .i64 c.f1.f0) := (blk_cell MB46.out 6).trans rfl; have Mz61 := blk_frozen MB46.out 6; have Mx62 : Mw45.cell? ⟨Mg1, 7, none⟩ = some (.int .i64 c.f1.f1) := (blk_cell MB46.out 7).trans rfl; have Mz63 := blk_frozen MB46.out 7; have Mx64 : Mw45.cell? ⟨Mg1, 8, none⟩ = some (.int .i64 c.f1.f2) := (blk_cell MB46.out 8).trans rfl; have Mz65 := blk_frozen MB46.out 8)) | ((with_reducible refine gate_dst (N := 8) rfl ?_); refine box_event ?hg (N := 8) ?hd (cs := #[.int .i64 0, .int .i64 0]) (t := 82) ?hr ?_; (case hd => rfl); (case hg => rfl); (case hr => first | (go_simp; done) | (go_simp; rfl)); intro Mg66 hg_ Mw67 hbox_ hb_; have MB68 := Aside0.mk hbox_; have MG69 : Aside0 (w.heap.size ≤ Mg66) := ⟨by rw [hg_]; exact below_size MH47.out⟩; have MN70 : Aside0 (Mg1 ≠ Mg66) := ⟨by rw [hg_]; exact Nat.ne_of_lt (blk_lt MB46.out)⟩; have MB71 := Aside0.mk (blk_below MB46.out hb_); have MH72 := Aside0.mk (below_step MH47.out hb_); clear hbox_ hb_ hg_; clear Mx48 Mz49 Mx50 Mz51 Mx52 Mz53 Mx54 Mz55 Mx56 Mz57 Mx58 Mz59 Mx60 Mz61 Mx62 Mz63 Mx64 Mz65; have Mx73 : Mw67.cell? ⟨Mg1, 0, none⟩ = some (.int .i64 c.f0.f0) := (blk_cell MB71.out 0).trans rfl; have Mz74 := blk_frozen MB71.out 0; have Mx75 : Mw67.cell? ⟨Mg1, 1, none⟩ = some (.int .i64 c.f0.f1) := (blk_cell MB71.out 1).trans rfl; have Mz76 := blk_frozen MB71.out 1; have Mx77 : Mw67.cell? ⟨Mg1, 2, none⟩ = some (.int .i64 c.f0.f2) := (blk_cell MB71.out 2).trans rfl; have Mz78 := blk_frozen MB71.out 2; have Mx79 : Mw67.cell? ⟨Mg1, 3, none⟩ = some (.int .i64 c.f0.f3) := (blk_cell MB71.out 3).trans rfl; have Mz80 := blk_frozen MB71.out 3; have Mx81 : Mw67.cell? ⟨Mg1, 4, none⟩ = some (.int .i64 c.f0.f4) := (blk_cell MB71.out 4).trans rfl; have Mz82 := blk_frozen MB71.out 4; have Mx83 : Mw67.cell? ⟨Mg1, 5, none⟩ = some (.int .i64 c.f0.f5) := (blk_cell MB71.out 5).trans rfl; have Mz84 := blk_frozen MB71.out 5; have Mx85 : Mw67.cell? ⟨Mg1, 6, none⟩ = some (.int .i64 c.f1.f0) := (blk_cell MB71.out 6).trans rfl; have Mz86 := blk_frozen MB71.out 6; have Mx87 : Mw67.cell? ⟨Mg1, 7, none⟩ = some (.int .i64 c.f1.f1) := (blk_cell MB71.out 7).trans rfl; have Mz88 := blk_frozen MB71.out 7; have Mx89 : Mw67.cell? ⟨Mg1, 8, none⟩ = some (.int .i64 c.f1.f2) := (blk_cell MB71.out 8).trans rfl; have Mz90 := blk_frozen MB71.out 8; have Mx91 : Mw67.cell? ⟨Mg66, 0, none⟩ = some (.int .i64 0) := (blk_cell MB68.out 0).trans rfl; have Mz92 := blk_frozen MB68.out 0; have Mx93 : Mw67.cell? ⟨Mg66, 1, none⟩ = some (.int .i64 0) := (blk_cell MB68.out 1).trans rfl; have Mz94 := blk_frozen MB68.out 1) | ((with_reducible refine gate_store (t := 82) (p := 8) rfl ?_); refine store_event (t := 82) (p := 8) (v := ?vo_Mw95) (w1 := ((Mw67.setCell ⟨Mg66, 0, none⟩ (.int .i64 0)).setCell ⟨Mg66, 1, none⟩ (.int .i64 0))) ?hg ?ho ?hn ?hr ?_; (case ho => rfl); (case hg => rfl); (case hn => rfl); (case hr => first | (go_simp; done) | (go_simp; rfl)); intro Mw95 hw_; have MB96 : Aside0 (Mw95.heap[Mg1]? = some (.cells #[.int .i64 c.f0.f0, .int .i64 c.f0.f1, .int .i64 c.f0.f2, .int .i64 c.f0.f3, .int .i64 c.f0.f4, .int .i64 c.f0.f5, .int .i64 c.f1.f0, .int .i64 c.f1.f1, .int .i64 c.f1.f2] 27 (0, 0))) := ⟨by rw [hw_]; exact (blk_far (blk_far MB71.out MN70.out _) MN70.out _)⟩; have MB97 : Aside0 (Mw95.heap[Mg66]? = some (.cells #[.int .i64 0, .int .i64 0] 82 (0, 0))) := ⟨by rw [hw_]; exact (blk_put (blk_put MB68.out 0 _ rfl) 1 _ rfl)⟩; have MH98 : Aside0 (Below w.heap.size w Mw95) := ⟨by rw [hw_]; exact (below_set (below_set MH72.out MG69.out) MG69.out)⟩; clear hw_; clear Mx73 Mz74 Mx75 Mz76 Mx77 Mz78 Mx79 Mz80 Mx81 Mz82 Mx83 Mz84 Mx85 Mz86 Mx87 Mz88 Mx89 Mz90 Mx91 Mz92 Mx93 Mz94; have Mx99 : Mw95.cell? ⟨Mg1, 0, none⟩ = some (.int .i64 c.f0.f0) := (blk_cell MB96.out 0).trans rfl; have Mz100 := blk_frozen MB96.out 0; have Mx101 : Mw95.cell? ⟨Mg1, 1, none⟩ = some (.int .i64 c.f0.f1) := (blk_cell MB96.out 1).trans rfl; have Mz102 := blk_frozen MB96.out 1; have Mx103 : Mw95.cell? ⟨Mg1, 2, none⟩ = some (.int .i64 c.f0.f2) := (blk_cell MB96.out 2).trans rfl; have Mz104 := blk_frozen MB96.out 2; have Mx105 : Mw95.cell? ⟨Mg1, 3, none⟩ = some (.int .i64 c.f0.f3) := (blk_cell MB96.out 3).trans rfl; have Mz106 := blk_frozen MB96.out 3; have Mx107 : Mw95.cell? ⟨Mg1, 4, none⟩ = some (.int .i64 c.f0.f4) := (blk_cell MB96.out 4).trans rfl; have Mz108 := blk_frozen MB96.out 4; have Mx109 : Mw95.cell? ⟨Mg1, 5, none⟩ = some (.int .i64 c.f0.f5) := (blk_cell MB96.out 5).trans rfl; have Mz110 := blk_frozen MB96.out 5; have Mx111 : Mw95.cell? ⟨Mg1, 6, none⟩ = some (.int .i64 c.f1.f0) := (blk_cell MB96.out 6).trans rfl; have Mz112 := blk_frozen MB96.out 6; have Mx113 : Mw95.cell? ⟨Mg1, 7, none⟩ = some (.int .i64 c.f1.f1) := (blk_cell MB96.out 7).trans rfl; have Mz114 := blk_frozen MB96.out 7; have Mx115 : Mw95.cell? ⟨Mg1, 8, none⟩ = some (.int .i64 c.f1.f2) := (blk_cell MB96.out 8).trans rfl; have Mz116 := blk_frozen MB96.out 8; have Mx117 : Mw95.cell? ⟨Mg66, 0, none⟩ = some (.int .i64 0) := (blk_cell MB97.out 0).trans rfl; have Mz118 := blk_frozen MB97.out 0; have Mx119 : Mw95.cell? ⟨Mg66, 1, none⟩ = some (.int .i64 0) := (blk_cell MB97.out 1).trans rfl; have Mz120 := blk_frozen MB97.out 1))
    go_ret2
    exact ⟨rfl, MH98.out⟩
  · rw [eq_false_of_ne_true h2] at WS
    clear hn h2 hg WT
    go_enter Try.func20, Try.ntmps20
    go_wp2_with (first | ((with_reducible refine gate_dst (N := 3) rfl ?_); refine box_event ?hg (N := 3) ?hd (cs := #[.int .i64 c.f0.f0, .int .i64 c.f0.f1, .int .i64 c.f0.f2, .int .i64 c.f0.f3, .int .i64 c.f0.f4, .int .i64 c.f0.f5, .int .i64 c.f1.f0, .int .i64 c.f1.f1, .int .i64 c.f1.f2]) (t := 27) ?hr ?_; (case hd => rfl); (case hg => rfl); (case hr => first | (go_simp; done) | (go_simp; rfl)); intro Mg1 hg_ Mw2 hbox_ hb_; have MB3 := Aside0.mk hbox_; have MG4 : Aside0 (w.heap.size ≤ Mg1) := ⟨by rw [hg_]; exact below_size HB.out⟩; have MH5 := Aside0.mk (below_step HB.out hb_); clear hbox_ hb_ hg_; have Mx6 : Mw2.cell? ⟨Mg1, 0, none⟩ = some (.int .i64 c.f0.f0) := (blk_cell MB3.out 0).trans rfl; have Mz7 := blk_frozen MB3.out 0; have Mx8 : Mw2.cell? ⟨Mg1, 1, none⟩ = some (.int .i64 c.f0.f1) := (blk_cell MB3.out 1).trans rfl; have Mz9 := blk_frozen MB3.out 1; have Mx10 : Mw2.cell? ⟨Mg1, 2, none⟩ = some (.int .i64 c.f0.f2) := (blk_cell MB3.out 2).trans rfl; have Mz11 := blk_frozen MB3.out 2; have Mx12 : Mw2.cell? ⟨Mg1, 3, none⟩ = some (.int .i64 c.f0.f3) := (blk_cell MB3.out 3).trans rfl; have Mz13 := blk_frozen MB3.out 3; have Mx14 : Mw2.cell? ⟨Mg1, 4, none⟩ = some (.int .i64 c.f0.f4) := (blk_cell MB3.out 4).trans rfl; have Mz15 := blk_frozen MB3.out 4; have Mx16 : Mw2.cell? ⟨Mg1, 5, none⟩ = some (.int .i64 c.f0.f5) := (blk_cell MB3.out 5).trans rfl; have Mz17 := blk_frozen MB3.out 5; have Mx18 : Mw2.cell? ⟨Mg1, 6, none⟩ = some (.int .i64 c.f1.f0) := (blk_cell MB3.out 6).trans rfl; have Mz19 := blk_frozen MB3.out 6; have Mx20 : Mw2.cell? ⟨Mg1, 7, none⟩ = some (.int .i64 c.f1.f1) := (blk_cell MB3.out 7).trans rfl; have Mz21 := blk_frozen MB3.out 7; have Mx22 : Mw2.cell? ⟨Mg1, 8, none⟩ = some (.int .i64 c.f1.f2) := (blk_cell MB3.out 8).trans rfl; have Mz23 := blk_frozen MB3.out 8) | ((go_at_call 21); ((with_reducible refine (closed_signal.calls v false _ WS.out).mono ?_); rintro e Mw24 ⟨rfl, hb0_⟩; have hb_ := hb0_.below; clear hb0_; have MB25 := Aside0.mk (blk_below MB3.out hb_); have MH26 := Aside0.mk (below_step MH5.out hb_); clear hb_; clear Mx6 Mz7 Mx8 Mz9 Mx10 Mz11 Mx12 Mz13 Mx14 Mz15 Mx16 Mz17 Mx18 Mz19 Mx20 Mz21 Mx22 Mz23; have Mx27 : Mw24.cell? ⟨Mg1, 0, none⟩ = some (.int .i64 c.f0.f0) := (blk_cell MB25.out 0).trans rfl; have Mz28 := blk_frozen MB25.out 0; have Mx29 : Mw24.cell? ⟨Mg1, 1, none⟩ = some (.int .i64 c.f0.f1) := (blk_cell MB25.out 1).trans rfl; have Mz30 := blk_frozen MB25.out 1; have Mx31 : Mw24.cell? ⟨Mg1, 2, none⟩ = some (.int .i64 c.f0.f2) := (blk_cell MB25.out 2).trans rfl; have Mz32 := blk_frozen MB25.out 2; have Mx33 : Mw24.cell? ⟨Mg1, 3, none⟩ = some (.int .i64 c.f0.f3) := (blk_cell MB25.out 3).trans rfl; have Mz34 := blk_frozen MB25.out 3; have Mx35 : Mw24.cell? ⟨Mg1, 4, none⟩ = some (.int .i64 c.f0.f4) := (blk_cell MB25.out 4).trans rfl; have Mz36 := blk_frozen MB25.out 4; have Mx37 : Mw24.cell? ⟨Mg1, 5, none⟩ = some (.int .i64 c.f0.f5) := (blk_cell MB25.out 5).trans rfl; have Mz38 := blk_frozen MB25.out 5; have Mx39 : Mw24.cell? ⟨Mg1, 6, none⟩ = some (.int .i64 c.f1.f0) := (blk_cell MB25.out 6).trans rfl; have Mz40 := blk_frozen MB25.out 6; have Mx41 : Mw24.cell? ⟨Mg1, 7, none⟩ = some (.int .i64 c.f1.f1) := (blk_cell MB25.out 7).trans rfl; have Mz42 := blk_frozen MB25.out 7; have Mx43 : Mw24.cell? ⟨Mg1, 8, none⟩ = some (.int .i64 c.f1.f2) := (blk_cell MB25.out 8).trans rfl; have Mz44 := blk_frozen MB25.out 8)))
    go_ret2
    exact ⟨rfl, MH26.out⟩
def beginB (c : S27) (out v : Int) : Bool := sg v && (decide (c.f0.f3 ≤ out) && decide (out ≤ c.f0.f4))
def st0 (c : S27) (out v : Int) : St := ⟨out, 0, v, List.replicate c.f1.f2.toNat out⟩
def stepB (a d : Int) : Bool := sg a && (decide (-65536 ≤ d) && decide (d ≤ 65536))
def okN (A D : List Int) : Nat → Bool
  | 0 => true
  | k + 1 => okN A D k && stepB (A.getD k 0) (D.getD k 0)
def stN (c : S27) (s : St) (A D : List Int) : Nat → St
  | 0 => s
  | k + 1 => (stN c s A D k).nx c (A.getD k 0) (D.getD k 0)
def smN (c : S27) (s : St) (A D : List Int) (k : Nat) : S62 := ⟨A.getD k 0, (stN c s A D k).o c (A.getD k 0), (stN c s A D (k + 1)).v⟩
def smL (c : S27) (s : St) (A D : List Int) : Nat → List S62
  | 0 => []
  | k + 1 => smL c s A D k ++ [smN c s A D k]
def runC (c : S27) (out v : Int) (A D : List Int) : List S62 × Int :=
  if ckC c = 0 then (if A.length ≤ 512 then (if D.length = A.length then (if (beginB c out v && okN A D A.length) = true then (smL c (st0 c out v) A D A.length, 0) else ([], 1)) else ([], 3)) else ([], 8)) else ([], ckC c)
theorem smL_length (c : S27) (s : St) (A D : List Int) : ∀ k, (smL c s A D k).length = k
  | 0 => rfl
  | k + 1 => by rw [smL, List.length_append, smL_length c s A D k]; rfl
theorem smL_get (c : S27) (s : St) (A D : List Int) (z : S62) : ∀ n k, k < n → (smL c s A D n).getD k z = smN c s A D k
  | 0, k, h => absurd h (Nat.not_lt_zero _)
  | n + 1, k, h => by
    have hl := smL_length c s A D n
    rw [smL, List.getD_eq_getElem?_getD]
    by_cases hk : k < n
    · rw [List.getElem?_append_left (by omega), ← List.getD_eq_getElem?_getD]
      exact smL_get c s A D z n k hk
    · obtain rfl : k = n := by omega
      rw [List.getElem?_append_right (by omega), hl, Nat.sub_self]; rfl
theorem stepB_is {a d : Int} (h : stepB a d = true) : sg a = true ∧ -65536 ≤ d ∧ d ≤ 65536 := by
  unfold stepB at h
  simp only [Bool.and_eq_true, decide_eq_true_eq] at h
  exact h
theorem beginB_is {c : S27} {out v : Int} (h : beginB c out v = true) : sg v = true ∧ c.f0.f3 ≤ out ∧ out ≤ c.f0.f4 := by
  unfold beginB at h
  simp only [Bool.and_eq_true, decide_eq_true_eq] at h
  exact h
theorem beginB_no {c : S27} {out v : Int} (h : ¬ beginB c out v = true) : ¬ (sg v = true ∧ c.f0.f3 ≤ out ∧ out ≤ c.f0.f4) := fun q => h (by unfold beginB; simp only [Bool.and_eq_true, decide_eq_true_eq]; exact q)
theorem okN_is (A D : List Int) : ∀ n, okN A D n = true → ∀ k, k < n → stepB (A.getD k 0) (D.getD k 0) = true
  | 0, _, k, h => absurd h (Nat.not_lt_zero _)
  | n + 1, h, k, hk => by
    rw [okN, Bool.and_eq_true] at h
    by_cases hkn : k < n
    · exact okN_is A D n h.1 k hkn
    · obtain rfl : k = n := by omega
      exact h.2
theorem st0_ok {c : S27} {out v : Int} (hc : ckC c = 0) (h : beginB c out v = true) : (st0 c out v).Ok c := by
  obtain ⟨h1, h2, h3⟩ := beginB_is h
  have hp := ckP_is (ckC_is hc).2.1
  have hv := sg_is h1
  refine ⟨⟨h2, h3⟩, ⟨by show (-67108864 : Int) ≤ 0; decide, by show (0 : Int) ≤ 67108864; decide⟩, ?_, ?_, ?_⟩
  · show -(16777216 + 65536 * c.f1.f1) ≤ v ∧ v ≤ 16777216 + 65536 * c.f1.f1
    omega
  · intro x hx
    have : x = out := (List.mem_replicate.1 hx).2
    rw [this]
    exact ⟨h2, h3⟩
  · show (List.replicate c.f1.f2.toNat out).length ≤ 32
    rw [List.length_replicate]
    omega
theorem stN_ok {c : S27} {s : St} (hc : ckC c = 0) (h : s.Ok c) (A D : List Int) : ∀ n, okN A D n = true → (stN c s A D n).Ok c
  | 0, _ => h
  | n + 1, hn => by
    rw [okN, Bool.and_eq_true] at hn
    obtain ⟨h1, h2⟩ := stepB_is hn.2
    exact (stN_ok hc h A D n hn.1).nx hc h1 h2
theorem okN_le (A D : List Int) : ∀ n, okN A D n = true → ∀ k, k ≤ n → okN A D k = true
  | 0, _, k, h => by rw [Nat.le_zero.1 h]; rfl
  | n + 1, h, k, hk => by
    rw [okN, Bool.and_eq_true] at h
    rcases Nat.lt_or_ge k (n + 1) with q | q
    · exact okN_le A D n h.1 k (by omega)
    · rw [show k = n + 1 by omega, okN, h.1, h.2]; rfl
theorem LAt.grown {base gl gs gk : Nat} {c : S27} {vk : Value} {w w' : World} {s : St} {row : Option Nat} (h : LAt base c gl gs gk vk w s) (hg : w.grownBy w' row) (hn : ∀ k, row = some k → ¬ LP gl gs gk vk k) : LAt base c gl gs gk vk w' s :=
  h.kept (S := fun k => row = some k) (Kept.of_grown hg (Kept.refl _ _) (fun k hk => .inl hk)) (fun k hk e => hn k e hk)
theorem info62 : (Try.prog.info? 62).map (fun i => (i.zero, i.size, i.bytes)) = some (some (.agg #[.int .i64 0, .int .i64 0, .int .i64 0]), 3, 24) := by kernel_rfl
theorem Begin_any (c : S27) (hc : ckC c = 0) (out v : Int) (b : Bool) (hb : beginB c out v = b) (w : World) : Calls Try.prog 20 #[.agg #[.int .i64 c.f0.f0, .int .i64 c.f0.f1, .int .i64 c.f0.f2, .int .i64 c.f0.f3, .int .i64 c.f0.f4, .int .i64 c.f0.f5, .int .i64 c.f1.f0, .int .i64 c.f1.f1, .int .i64 c.f1.f2], .int .i64 out, .int .i64 v] w fun e w' => ∃ p, e = .returned (.tuple #[p, .bool b]) ∧ (b = true → ∃ gl gs gk vk, p = .pointer (some ⟨gl, 0, none⟩) ∧ LAt w.heap.size c gl gs gk vk w' (st0 c out v)) ∧ Below w.heap.size w w' := by
  subst hb
  by_cases h : beginB c out v = true
  · obtain ⟨h1, h2⟩ := beginB_is h
    refine (Begin_ok c hc out v h2 h1 w).mono ?_
    rintro e w' ⟨gl, gs, gk, vk, rfl, hl, hb⟩
    exact ⟨_, by rw [h], fun _ => ⟨gl, gs, gk, vk, rfl, hl⟩, hb⟩
  · refine (Begin_no c hc out v (beginB_no h) w).mono ?_
    rintro e w' ⟨rfl, hb⟩
    exact ⟨_, by rw [eq_false_of_ne_true h], fun h2 => absurd h2 h, hb⟩
theorem nextO_calls {base gl gs gk : Nat} {c : S27} {vk : Value} {w : World} {s : St} (h : LAt base c gl gs gk vk w s) (hc : ckC c = 0) (hok : s.Ok c) (set dist : Int) (hs : sg set = true) (hd : -65536 ≤ dist ∧ dist ≤ 65536) (o v : Int) (s2 : St) (ho : s.o c set = o) (hs2 : s.nx c set dist = s2) (hv : s2.v = v) : Calls Try.prog 22 #[.pointer (some ⟨gl, 0, none⟩), .int .i64 set, .int .i64 dist] w fun e w' => e = .returned (.agg #[.int .i64 set, .int .i64 o, .int .i64 v]) ∧ LAt base c gl gs gk vk w' s2 ∧ KeptB w w' (LP gl gs gk vk) := by
  subst hv hs2 ho
  exact next_calls h hc hok set dist hs hd
def runR.T20 : Bool × List (List Nat × List Nat) := (true, [([], []), ([], []), ([], []), ([], []), ([2, 3], [2, 3]), ([4], [4]), ([], []), ([], []), ([6, 7], [6, 7]), ([8], [8]), ([1, 5, 9], [1, 5, 9]), ([10], [10]), ([0, 11, 10], [0, 11]), ([12, 12, 0, 1, 2, 3, 4, 5, 6, 7, 8, 9, 10, 11, 12], [0, 12])])
def runR.B20 : List Nat := [0, 0, 0, 0, 12, 28, 0, 0, 192, 448, 1022, 2046, 4095, 8191]
theorem runR.tab20 : rtab .any (opsOf Try.f14 20) = runR.T20 := by kernel_rfl
theorem runR.bits20 : waitsOk runR.T20.2 runR.B20 = true := by kernel_rfl
set_option maxHeartbeats 16000000 in
set_option maxRecDepth 100000 in
theorem RunC_calls (c : S27) (out v : Int) (A3 : Option Addr) (c3 : Nat) (A : List Int) (A4 : Option Addr) (c4 : Nat) (D : List Int) (w : World) (hr3 : (Kd.int .i64).C w A3 A.length A) (hc3 : A.length ≤ c3) (hr4 : (Kd.int .i64).C w A4 D.length D) (hc4 : D.length ≤ c4) : Calls Try.prog 14 #[.agg #[.int .i64 c.f0.f0, .int .i64 c.f0.f1, .int .i64 c.f0.f2, .int .i64 c.f0.f3, .int .i64 c.f0.f4, .int .i64 c.f0.f5, .int .i64 c.f1.f0, .int .i64 c.f1.f1, .int .i64 c.f1.f2], .int .i64 out, .int .i64 v, .slice A3 A.length c3, .slice A4 D.length c4] w fun e w' => ∃ v0 : Value, e = .returned (.tuple #[v0, .int .i64 (runC c out v A D).2]) ∧ Kd.R k62 62 w' w.heap.size (fun _ => True) v0 (runC c out v A D).1 ∧ Below w.heap.size w w' := by
  have hu27 := Try.underlying27
  have hu62 := Try.underlying62
  have hu56 := Try.underlying56
  have hu57 := Try.underlying57
  have hu70 := Try.underlying70
  have hu3 := Try.underlying3
  have HB := Aside0.mk (Below.refl w.heap.size w)
  rcases (Decidable.em (ckC c = 0)).symm with hc | hc
  · have hr : runC c out v A D = ([], ckC c) := if_neg hc
    rw [hr]
    have t1 : (ckC c != 0) = true := bne_iff_ne.2 hc
    clear hr hc hr3 hr4
    go_enter Try.func14, Try.ntmps14
    go_wp2_with (first | ((with_reducible refine gate_dst (N := 5) rfl ?_); refine box_event ?hg (N := 5) ?hd (cs := #[.int .i64 c.f0.f0, .int .i64 c.f0.f1, .int .i64 c.f0.f2, .int .i64 c.f0.f3, .int .i64 c.f0.f4, .int .i64 c.f0.f5, .int .i64 c.f1.f0, .int .i64 c.f1.f1, .int .i64 c.f1.f2]) (t := 27) ?hr ?_; (case hd => rfl); (case hg => rfl); (case hr => first | (go_simp; done) | (go_simp; rfl)); intro Mg1 hg_ Mw2 hbox_ hb_; have MB3 := Aside0.mk hbox_; have MG4 : Aside0 (w.heap.size ≤ Mg1) := ⟨by rw [hg_]; exact below_size HB.out⟩; have MH5 := Aside0.mk (below_step HB.out hb_); clear hbox_ hb_ hg_; have Mx6 : Mw2.cell? ⟨Mg1, 0, none⟩ = some (.int .i64 c.f0.f0) := (blk_cell MB3.out 0).trans rfl; have Mz7 := blk_frozen MB3.out 0; have Mx8 : Mw2.cell? ⟨Mg1, 1, none⟩ = some (.int .i64 c.f0.f1) := (blk_cell MB3.out 1).trans rfl; have Mz9 := blk_frozen MB3.out 1; have Mx10 : Mw2.cell? ⟨Mg1, 2, none⟩ = some (.int .i64 c.f0.f2) := (blk_cell MB3.out 2).trans rfl; have Mz11 := blk_frozen MB3.out 2; have Mx12 : Mw2.cell? ⟨Mg1, 3, none⟩ = some (.int .i64 c.f0.f3) := (blk_cell MB3.out 3).trans rfl; have Mz13 := blk_frozen MB3.out 3; have Mx14 : Mw2.cell? ⟨Mg1, 4, none⟩ = some (.int .i64 c.f0.f4) := (blk_cell MB3.out 4).trans rfl; have Mz15 := blk_frozen MB3.out 4; have Mx16 : Mw2.cell? ⟨Mg1, 5, none⟩ = some (.int .i64 c.f0.f5) := (blk_cell MB3.out 5).trans rfl; have Mz17 := blk_frozen MB3.out 5; have Mx18 : Mw2.cell? ⟨Mg1, 6, none⟩ = some (.int .i64 c.f1.f0) := (blk_cell MB3.out 6).trans rfl; have Mz19 := blk_frozen MB3.out 6; have Mx20 : Mw2.cell? ⟨Mg1, 7, none⟩ = some (.int .i64 c.f1.f1) := (blk_cell MB3.out 7).trans rfl; have Mz21 := blk_frozen MB3.out 7; have Mx22 : Mw2.cell? ⟨Mg1, 8, none⟩ = some (.int .i64 c.f1.f2) := (blk_cell MB3.out 8).trans rfl; have Mz23 := blk_frozen MB3.out 8) | ((go_at_call 16); ((with_reducible refine (CheckC_calls c _).mono ?_); rintro e Mw24 ⟨rfl, hb0_⟩; have hb_ := hb0_; clear hb0_; have MB25 := Aside0.mk (blk_below MB3.out hb_); have MH26 := Aside0.mk (below_step MH5.out hb_); clear hb_; clear Mx6 Mz7 Mx8 Mz9 Mx10 Mz11 Mx12 Mz13 Mx14 Mz15 Mx16 Mz17 Mx18 Mz19 Mx20 Mz21 Mx22 Mz23; have Mx27 : Mw24.cell? ⟨Mg1, 0, none⟩ = some (.int .i64 c.f0.f0) := (blk_cell MB25.out 0).trans rfl; have Mz28 := blk_frozen MB25.out 0; have Mx29 : Mw24.cell? ⟨Mg1, 1, none⟩ = some (.int .i64 c.f0.f1) := (blk_cell MB25.out 1).trans rfl; have Mz30 := blk_frozen MB25.out 1; have Mx31 : Mw24.cell? ⟨Mg1, 2, none⟩ = some (.int .i64 c.f0.f2) := (blk_cell MB25.out 2).trans rfl; have Mz32 := blk_frozen MB25.out 2; have Mx33 : Mw24.cell? ⟨Mg1, 3, none⟩ = some (.int .i64 c.f0.f3) := (blk_cell MB25.out 3).trans rfl; have Mz34 := blk_frozen MB25.out 3; have Mx35 : Mw24.cell? ⟨Mg1, 4, none⟩ = some (.int .i64 c.f0.f4) := (blk_cell MB25.out 4).trans rfl; have Mz36 := blk_frozen MB25.out 4; have Mx37 : Mw24.cell? ⟨Mg1, 5, none⟩ = some (.int .i64 c.f0.f5) := (blk_cell MB25.out 5).trans rfl; have Mz38 := blk_frozen MB25.out 5; have Mx39 : Mw24.cell? ⟨Mg1, 6, none⟩ = some (.int .i64 c.f1.f0) := (blk_cell MB25.out 6).trans rfl; have Mz40 := blk_frozen MB25.out 6; have Mx41 : Mw24.cell? ⟨Mg1, 7, none⟩ = some (.int .i64 c.f1.f1) := (blk_cell MB25.out 7).trans rfl; have Mz42 := blk_frozen MB25.out 7; have Mx43 : Mw24.cell? ⟨Mg1, 8, none⟩ = some (.int .i64 c.f1.f2) := (blk_cell MB25.out 8).trans rfl; have Mz44 := blk_frozen MB25.out 8)))
    go_ret2
    exact ⟨_, rfl, Kd.R_nil _ _ _ _ _, MH26.out⟩
  have HC := Aside0.mk hc
  rcases (Decidable.em (A.length ≤ 512)).symm with h512 | h512
  · have hr : runC c out v A D = ([], 8) := by unfold runC; rw [if_pos hc, if_neg h512]
    rw [hr]
    have t1 : decide (512 < (A.length : Int)) = true := decide_eq_true (by omega)
    have t2 : decide (512 < A.length) = true := decide_eq_true (by omega)
    clear hr hc hr3 hr4 h512
    go_enter Try.func14, Try.ntmps14
    go_wp2_with (first | ((with_reducible refine gate_dst (N := 5) rfl ?_); refine box_event ?hg (N := 5) ?hd (cs := #[.int .i64 c.f0.f0, .int .i64 c.f0.f1, .int .i64 c.f0.f2, .int .i64 c.f0.f3, .int .i64 c.f0.f4, .int .i64 c.f0.f5, .int .i64 c.f1.f0, .int .i64 c.f1.f1, .int .i64 c.f1.f2]) (t := 27) ?hr ?_; (case hd => rfl); (case hg => rfl); (case hr => first | (go_simp; done) | (go_simp; rfl)); intro Mg1 hg_ Mw2 hbox_ hb_; have MB3 := Aside0.mk hbox_; have MG4 : Aside0 (w.heap.size ≤ Mg1) := ⟨by rw [hg_]; exact below_size HB.out⟩; have MH5 := Aside0.mk (below_step HB.out hb_); clear hbox_ hb_ hg_; have Mx6 : Mw2.cell? ⟨Mg1, 0, none⟩ = some (.int .i64 c.f0.f0) := (blk_cell MB3.out 0).trans rfl; have Mz7 := blk_frozen MB3.out 0; have Mx8 : Mw2.cell? ⟨Mg1, 1, none⟩ = some (.int .i64 c.f0.f1) := (blk_cell MB3.out 1).trans rfl; have Mz9 := blk_frozen MB3.out 1; have Mx10 : Mw2.cell? ⟨Mg1, 2, none⟩ = some (.int .i64 c.f0.f2) := (blk_cell MB3.out 2).trans rfl; have Mz11 := blk_frozen MB3.out 2; have Mx12 : Mw2.cell? ⟨Mg1, 3, none⟩ = some (.int .i64 c.f0.f3) := (blk_cell MB3.out 3).trans rfl; have Mz13 := blk_frozen MB3.out 3; have Mx14 : Mw2.cell? ⟨Mg1, 4, none⟩ = some (.int .i64 c.f0.f4) := (blk_cell MB3.out 4).trans rfl; have Mz15 := blk_frozen MB3.out 4; have Mx16 : Mw2.cell? ⟨Mg1, 5, none⟩ = some (.int .i64 c.f0.f5) := (blk_cell MB3.out 5).trans rfl; have Mz17 := blk_frozen MB3.out 5; have Mx18 : Mw2.cell? ⟨Mg1, 6, none⟩ = some (.int .i64 c.f1.f0) := (blk_cell MB3.out 6).trans rfl; have Mz19 := blk_frozen MB3.out 6; have Mx20 : Mw2.cell? ⟨Mg1, 7, none⟩ = some (.int .i64 c.f1.f1) := (blk_cell MB3.out 7).trans rfl; have Mz21 := blk_frozen MB3.out 7; have Mx22 : Mw2.cell? ⟨Mg1, 8, none⟩ = some (.int .i64 c.f1.f2) := (blk_cell MB3.out 8).trans rfl; have Mz23 := blk_frozen MB3.out 8) | ((go_at_call 16); ((with_reducible refine (CheckC_calls c _).mono ?_); rintro e Mw24 ⟨rfl, hb0_⟩; have hb_ := hb0_; clear hb0_; rw [HC.out]; have MB25 := Aside0.mk (blk_below MB3.out hb_); have MH26 := Aside0.mk (below_step MH5.out hb_); clear hb_; clear Mx6 Mz7 Mx8 Mz9 Mx10 Mz11 Mx12 Mz13 Mx14 Mz15 Mx16 Mz17 Mx18 Mz19 Mx20 Mz21 Mx22 Mz23; have Mx27 : Mw24.cell? ⟨Mg1, 0, none⟩ = some (.int .i64 c.f0.f0) := (blk_cell MB25.out 0).trans rfl; have Mz28 := blk_frozen MB25.out 0; have Mx29 : Mw24.cell? ⟨Mg1, 1, none⟩ = some (.int .i64 c.f0.f1) := (blk_cell MB25.out 1).trans rfl; have Mz30 := blk_frozen MB25.out 1; have Mx31 : Mw24.cell? ⟨Mg1, 2, none⟩ = some (.int .i64 c.f0.f2) := (blk_cell MB25.out 2).trans rfl; have Mz32 := blk_frozen MB25.out 2; have Mx33 : Mw24.cell? ⟨Mg1, 3, none⟩ = some (.int .i64 c.f0.f3) := (blk_cell MB25.out 3).trans rfl; have Mz34 := blk_frozen MB25.out 3; have Mx35 : Mw24.cell? ⟨Mg1, 4, none⟩ = some (.int .i64 c.f0.f4) := (blk_cell MB25.out 4).trans rfl; have Mz36 := blk_frozen MB25.out 4; have Mx37 : Mw24.cell? ⟨Mg1, 5, none⟩ = some (.int .i64 c.f0.f5) := (blk_cell MB25.out 5).trans rfl; have Mz38 := blk_frozen MB25.out 5; have Mx39 : Mw24.cell? ⟨Mg1, 6, none⟩ = some (.int .i64 c.f1.f0) := (blk_cell MB25.out 6).trans rfl; have Mz40 := blk_frozen MB25.out 6; have Mx41 : Mw24.cell? ⟨Mg1, 7, none⟩ = some (.int .i64 c.f1.f1) := (blk_cell MB25.out 7).trans rfl; have Mz42 := blk_frozen MB25.out 7; have Mx43 : Mw24.cell? ⟨Mg1, 8, none⟩ = some (.int .i64 c.f1.f2) := (blk_cell MB25.out 8).trans rfl; have Mz44 := blk_frozen MB25.out 8)))
    go_ret2
    exact ⟨_, rfl, Kd.R_nil _ _ _ _ _, MH26.out⟩
  have t1 : decide (512 < (A.length : Int)) = false := decide_eq_false (by omega)
  have t2 : decide (512 < A.length) = false := decide_eq_false (by omega)
  rcases (Decidable.em (D.length = A.length)).symm with hl | hl
  · have hr : runC c out v A D = ([], 3) := by unfold runC; rw [if_pos hc, if_pos h512, if_neg hl]
    rw [hr]
    have t3 : ((D.length : Int) != (A.length : Int)) = true := bne_iff_ne.2 (by omega)
    have t4 : (D.length != A.length) = true := bne_iff_ne.2 hl
    have t5 : ((D.length : Int) == (A.length : Int)) = false := beq_eq_false_iff_ne.2 (by omega)
    have t6 : (D.length == A.length) = false := beq_eq_false_iff_ne.2 hl
    clear hr hc hr3 hr4 h512 hl
    go_enter Try.func14, Try.ntmps14
    go_wp2_with (first | ((with_reducible refine gate_dst (N := 5) rfl ?_); refine box_event ?hg (N := 5) ?hd (cs := #[.int .i64 c.f0.f0, .int .i64 c.f0.f1, .int .i64 c.f0.f2, .int .i64 c.f0.f3, .int .i64 c.f0.f4, .int .i64 c.f0.f5, .int .i64 c.f1.f0, .int .i64 c.f1.f1, .int .i64 c.f1.f2]) (t := 27) ?hr ?_; (case hd => rfl); (case hg => rfl); (case hr => first | (go_simp; done) | (go_simp; rfl)); intro Mg1 hg_ Mw2 hbox_ hb_; have MB3 := Aside0.mk hbox_; have MG4 : Aside0 (w.heap.size ≤ Mg1) := ⟨by rw [hg_]; exact below_size HB.out⟩; have MH5 := Aside0.mk (below_step HB.out hb_); clear hbox_ hb_ hg_; have Mx6 : Mw2.cell? ⟨Mg1, 0, none⟩ = some (.int .i64 c.f0.f0) := (blk_cell MB3.out 0).trans rfl; have Mz7 := blk_frozen MB3.out 0; have Mx8 : Mw2.cell? ⟨Mg1, 1, none⟩ = some (.int .i64 c.f0.f1) := (blk_cell MB3.out 1).trans rfl; have Mz9 := blk_frozen MB3.out 1; have Mx10 : Mw2.cell? ⟨Mg1, 2, none⟩ = some (.int .i64 c.f0.f2) := (blk_cell MB3.out 2).trans rfl; have Mz11 := blk_frozen MB3.out 2; have Mx12 : Mw2.cell? ⟨Mg1, 3, none⟩ = some (.int .i64 c.f0.f3) := (blk_cell MB3.out 3).trans rfl; have Mz13 := blk_frozen MB3.out 3; have Mx14 : Mw2.cell? ⟨Mg1, 4, none⟩ = some (.int .i64 c.f0.f4) := (blk_cell MB3.out 4).trans rfl; have Mz15 := blk_frozen MB3.out 4; have Mx16 : Mw2.cell? ⟨Mg1, 5, none⟩ = some (.int .i64 c.f0.f5) := (blk_cell MB3.out 5).trans rfl; have Mz17 := blk_frozen MB3.out 5; have Mx18 : Mw2.cell? ⟨Mg1, 6, none⟩ = some (.int .i64 c.f1.f0) := (blk_cell MB3.out 6).trans rfl; have Mz19 := blk_frozen MB3.out 6; have Mx20 : Mw2.cell? ⟨Mg1, 7, none⟩ = some (.int .i64 c.f1.f1) := (blk_cell MB3.out 7).trans rfl; have Mz21 := blk_frozen MB3.out 7; have Mx22 : Mw2.cell? ⟨Mg1, 8, none⟩ = some (.int .i64 c.f1.f2) := (blk_cell MB3.out 8).trans rfl; have Mz23 := blk_frozen MB3.out 8) | ((go_at_call 16); ((with_reducible refine (CheckC_calls c _).mono ?_); rintro e Mw24 ⟨rfl, hb0_⟩; have hb_ := hb0_; clear hb0_; rw [HC.out]; have MB25 := Aside0.mk (blk_below MB3.out hb_); have MH26 := Aside0.mk (below_step MH5.out hb_); clear hb_; clear Mx6 Mz7 Mx8 Mz9 Mx10 Mz11 Mx12 Mz13 Mx14 Mz15 Mx16 Mz17 Mx18 Mz19 Mx20 Mz21 Mx22 Mz23; have Mx27 : Mw24.cell? ⟨Mg1, 0, none⟩ = some (.int .i64 c.f0.f0) := (blk_cell MB25.out 0).trans rfl; have Mz28 := blk_frozen MB25.out 0; have Mx29 : Mw24.cell? ⟨Mg1, 1, none⟩ = some (.int .i64 c.f0.f1) := (blk_cell MB25.out 1).trans rfl; have Mz30 := blk_frozen MB25.out 1; have Mx31 : Mw24.cell? ⟨Mg1, 2, none⟩ = some (.int .i64 c.f0.f2) := (blk_cell MB25.out 2).trans rfl; have Mz32 := blk_frozen MB25.out 2; have Mx33 : Mw24.cell? ⟨Mg1, 3, none⟩ = some (.int .i64 c.f0.f3) := (blk_cell MB25.out 3).trans rfl; have Mz34 := blk_frozen MB25.out 3; have Mx35 : Mw24.cell? ⟨Mg1, 4, none⟩ = some (.int .i64 c.f0.f4) := (blk_cell MB25.out 4).trans rfl; have Mz36 := blk_frozen MB25.out 4; have Mx37 : Mw24.cell? ⟨Mg1, 5, none⟩ = some (.int .i64 c.f0.f5) := (blk_cell MB25.out 5).trans rfl; have Mz38 := blk_frozen MB25.out 5; have Mx39 : Mw24.cell? ⟨Mg1, 6, none⟩ = some (.int .i64 c.f1.f0) := (blk_cell MB25.out 6).trans rfl; have Mz40 := blk_frozen MB25.out 6; have Mx41 : Mw24.cell? ⟨Mg1, 7, none⟩ = some (.int .i64 c.f1.f1) := (blk_cell MB25.out 7).trans rfl; have Mz42 := blk_frozen MB25.out 7; have Mx43 : Mw24.cell? ⟨Mg1, 8, none⟩ = some (.int .i64 c.f1.f2) := (blk_cell MB25.out 8).trans rfl; have Mz44 := blk_frozen MB25.out 8)))
    go_ret2
    exact ⟨_, rfl, Kd.R_nil _ _ _ _ _, MH26.out⟩
  obtain ⟨R, hR⟩ : ∃ R, runC c out v A D = R := ⟨_, rfl⟩
  rw [hR]
  unfold runC at hR
  rw [if_pos hc, if_pos h512, if_pos hl] at hR
  obtain ⟨b0, hb0⟩ : ∃ b0, beginB c out v = b0 := ⟨_, rfl⟩
  rw [hb0] at hR
  have HB0 := Aside0.mk hb0
  obtain ⟨n, hn⟩ : ∃ n, A.length = n := ⟨_, rfl⟩
  rw [hl, hn] at hr4
  rw [hn] at hr3 hR h512 t1 t2
  rw [hl, hn]
  have hNA := Aside0.mk hn
  have hND := Aside0.mk (hl.trans hn)
  have HR := Aside0.mk hR
  have HA := Aside0.mk hr3
  have HD := Aside0.mk hr4
  clear hc hr3 hr4 hc3 hc4 hR hb0 hl hn
  go_enter Try.func14, Try.ntmps14
  go_wp2_with (first | ((with_reducible refine gate_dst (N := 5) rfl ?_); refine box_event ?hg (N := 5) ?hd (cs := #[.int .i64 c.f0.f0, .int .i64 c.f0.f1, .int .i64 c.f0.f2, .int .i64 c.f0.f3, .int .i64 c.f0.f4, .int .i64 c.f0.f5, .int .i64 c.f1.f0, .int .i64 c.f1.f1, .int .i64 c.f1.f2]) (t := 27) ?hr ?_; (case hd => rfl); (case hg => rfl); (case hr => first | (go_simp; done) | (go_simp; rfl)); intro Mg1 hg_ Mw2 hbox_ hb_; have MB3 := Aside0.mk hbox_; have MG4 : Aside0 (w.heap.size ≤ Mg1) := ⟨by rw [hg_]; exact below_size HB.out⟩; have MH5 := Aside0.mk (below_step HB.out hb_); clear hbox_ hb_ hg_; have Mx6 : Mw2.cell? ⟨Mg1, 0, none⟩ = some (.int .i64 c.f0.f0) := (blk_cell MB3.out 0).trans rfl; have Mz7 := blk_frozen MB3.out 0; have Mx8 : Mw2.cell? ⟨Mg1, 1, none⟩ = some (.int .i64 c.f0.f1) := (blk_cell MB3.out 1).trans rfl; have Mz9 := blk_frozen MB3.out 1; have Mx10 : Mw2.cell? ⟨Mg1, 2, none⟩ = some (.int .i64 c.f0.f2) := (blk_cell MB3.out 2).trans rfl; have Mz11 := blk_frozen MB3.out 2; have Mx12 : Mw2.cell? ⟨Mg1, 3, none⟩ = some (.int .i64 c.f0.f3) := (blk_cell MB3.out 3).trans rfl; have Mz13 := blk_frozen MB3.out 3; have Mx14 : Mw2.cell? ⟨Mg1, 4, none⟩ = some (.int .i64 c.f0.f4) := (blk_cell MB3.out 4).trans rfl; have Mz15 := blk_frozen MB3.out 4; have Mx16 : Mw2.cell? ⟨Mg1, 5, none⟩ = some (.int .i64 c.f0.f5) := (blk_cell MB3.out 5).trans rfl; have Mz17 := blk_frozen MB3.out 5; have Mx18 : Mw2.cell? ⟨Mg1, 6, none⟩ = some (.int .i64 c.f1.f0) := (blk_cell MB3.out 6).trans rfl; have Mz19 := blk_frozen MB3.out 6; have Mx20 : Mw2.cell? ⟨Mg1, 7, none⟩ = some (.int .i64 c.f1.f1) := (blk_cell MB3.out 7).trans rfl; have Mz21 := blk_frozen MB3.out 7; have Mx22 : Mw2.cell? ⟨Mg1, 8, none⟩ = some (.int .i64 c.f1.f2) := (blk_cell MB3.out 8).trans rfl; have Mz23 := blk_frozen MB3.out 8) | ((go_at_call 16); ((with_reducible refine (CheckC_calls c _).mono ?_); rintro e Mw24 ⟨rfl, hb0_⟩; have hb_ := hb0_; clear hb0_; rw [HC.out]; have MB25 := Aside0.mk (blk_below MB3.out hb_); have MH26 := Aside0.mk (below_step MH5.out hb_); clear hb_; clear Mx6 Mz7 Mx8 Mz9 Mx10 Mz11 Mx12 Mz13 Mx14 Mz15 Mx16 Mz17 Mx18 Mz19 Mx20 Mz21 Mx22 Mz23; have Mx27 : Mw24.cell? ⟨Mg1, 0, none⟩ = some (.int .i64 c.f0.f0) := (blk_cell MB25.out 0).trans rfl; have Mz28 := blk_frozen MB25.out 0; have Mx29 : Mw24.cell? ⟨Mg1, 1, none⟩ = some (.int .i64 c.f0.f1) := (blk_cell MB25.out 1).trans rfl; have Mz30 := blk_frozen MB25.out 1; have Mx31 : Mw24.cell? ⟨Mg1, 2, none⟩ = some (.int .i64 c.f0.f2) := (blk_cell MB25.out 2).trans rfl; have Mz32 := blk_frozen MB25.out 2; have Mx33 : Mw24.cell? ⟨Mg1, 3, none⟩ = some (.int .i64 c.f0.f3) := (blk_cell MB25.out 3).trans rfl; have Mz34 := blk_frozen MB25.out 3; have Mx35 : Mw24.cell? ⟨Mg1, 4, none⟩ = some (.int .i64 c.f0.f4) := (blk_cell MB25.out 4).trans rfl; have Mz36 := blk_frozen MB25.out 4; have Mx37 : Mw24.cell? ⟨Mg1, 5, none⟩ = some (.int .i64 c.f0.f5) := (blk_cell MB25.out 5).trans rfl; have Mz38 := blk_frozen MB25.out 5; have Mx39 : Mw24.cell? ⟨Mg1, 6, none⟩ = some (.int .i64 c.f1.f0) := (blk_cell MB25.out 6).trans rfl; have Mz40 := blk_frozen MB25.out 6; have Mx41 : Mw24.cell? ⟨Mg1, 7, none⟩ = some (.int .i64 c.f1.f1) := (blk_cell MB25.out 7).trans rfl; have Mz42 := blk_frozen MB25.out 7; have Mx43 : Mw24.cell? ⟨Mg1, 8, none⟩ = some (.int .i64 c.f1.f2) := (blk_cell MB25.out 8).trans rfl; have Mz44 := blk_frozen MB25.out 8)) | ((go_at_call 20); ((with_reducible refine (Begin_any c HC.out out v b0 HB0.out _).mono ?_); rintro e Mw45 ⟨p, rfl, hp_, hb0_⟩; have hb_ := hb0_; clear hb0_; have MB46 := Aside0.mk (blk_below MB25.out hb_); have MH47 := Aside0.mk (below_step MH26.out hb_); have HP := Aside0.mk hp_; clear hp_; clear hb_; clear Mx27 Mz28 Mx29 Mz30 Mx31 Mz32 Mx33 Mz34 Mx35 Mz36 Mx37 Mz38 Mx39 Mz40 Mx41 Mz42 Mx43 Mz44; have Mx48 : Mw45.cell? ⟨Mg1, 0, none⟩ = some (.int .i64 c.f0.f0) := (blk_cell MB46.out 0).trans rfl; have Mz49 := blk_frozen MB46.out 0; have Mx50 : Mw45.cell? ⟨Mg1, 1, none⟩ = some (.int .i64 c.f0.f1) := (blk_cell MB46.out 1).trans rfl; have Mz51 := blk_frozen MB46.out 1; have Mx52 : Mw45.cell? ⟨Mg1, 2, none⟩ = some (.int .i64 c.f0.f2) := (blk_cell MB46.out 2).trans rfl; have Mz53 := blk_frozen MB46.out 2; have Mx54 : Mw45.cell? ⟨Mg1, 3, none⟩ = some (.int .i64 c.f0.f3) := (blk_cell MB46.out 3).trans rfl; have Mz55 := blk_frozen MB46.out 3; have Mx56 : Mw45.cell? ⟨Mg1, 4, none⟩ = some (.int .i64 c.f0.f4) := (blk_cell MB46.out 4).trans rfl; have Mz57 := blk_frozen MB46.out 4; have Mx58 : Mw45.cell? ⟨Mg1, 5, none⟩ = some (.int .i64 c.f0.f5) := (blk_cell MB46.out 5).trans rfl; have Mz59 := blk_frozen MB46.out 5; have Mx60 : Mw45.cell? ⟨Mg1, 6, none⟩ = some (.int .i64 c.f1.f0) := (blk_cell MB46.out 6).trans rfl; have Mz61 := blk_frozen MB46.out 6; have Mx62 : Mw45.cell? ⟨Mg1, 7, none⟩ = some (.int .i64 c.f1.f1) := (blk_cell MB46.out 7).trans rfl; have Mz63 := blk_frozen MB46.out 7; have Mx64 : Mw45.cell? ⟨Mg1, 8, none⟩ = some (.int .i64 c.f1.f2) := (blk_cell MB46.out 8).trans rfl; have Mz65 := blk_frozen MB46.out 8)))
  clear Mx48 Mz49 Mx50 Mz51 Mx52 Mz53 Mx54 Mz55 Mx56 Mz57 Mx58 Mz59 Mx60 Mz61 Mx62 Mz63 Mx64 Mz65 t1 t2
  go_loopg [14, 40] n (fun gg v14 v40 wr => ∃ (kk : Nat) (b : Bool), kk ≤ n ∧ n - kk ≤ gg ∧ v40 = .int .i64 kk ∧ v14 = .bool b ∧ Aside0 (b = (b0 && okN A D kk)) ∧ Aside0 (Below Mw45.heap.size Mw45 wr))
  case atStart => exact ⟨0, b0, Nat.zero_le _, by omega, rfl, rfl, ⟨by rw [okN, Bool.and_true]⟩, ⟨Below.refl _ _⟩⟩
  case round =>
    obtain ⟨kk, b, hkk, hg, rfl, rfl, HBK, HB2⟩ := hrel
    by_cases hlt : kk < n
    · have hltz : (kk : Int) < (n : Int) := by omega
      obtain ⟨ad, e, h0⟩ := Kd.at_int (Kd.C_below HA.out (below_step MH47.out HB2.out)) (kk : Int) (by omega) hltz
      subst e
      obtain ⟨ae, e, h1⟩ := Kd.at_int (Kd.C_below HD.out (below_step MH47.out HB2.out)) (kk : Int) (by omega) hltz
      subst e
      have ha : rd A (kk : Int) = A.getD kk 0 := by simp [rd]
      have hd : rd D (kk : Int) = D.getD kk 0 := by simp [rd]
      rw [ha] at h0
      rw [hd] at h1
      rw [Int.toNat_natCast] at h0 h1
      have hok : (b0 && okN A D (kk + 1)) = (b && stepB (A.getD kk 0) (D.getD kk 0)) := by rw [HBK.out, okN, Bool.and_assoc]
      generalize A.getD kk 0 = a at h0 hok
      generalize D.getD kk 0 = d at h1 hok
      have HOK := Aside0.mk hok
      clear ha hd hok HBK
      cases b with
      | false =>
        go_wp2_with fail
        go_roundg (n - (kk + 1))
        case measure => omega
        case rel => exact ⟨kk + 1, false, by omega, by omega, by go_num, rfl, ⟨by rw [HOK.out]; rfl⟩, HB2⟩
      | true =>
        cases hs : sg a with
        | false =>
          have WS : Aside0 (closed_signal.f a = some false) := ⟨by rw [signal_f, hs]⟩
          have HS := Aside0.mk hs
          clear hs
          go_wp2_with ((go_at_call 21); (with_reducible refine (closed_signal.calls a false _ WS.out).mono ?_; rintro e w2 ⟨rfl, hb0_⟩; have hb := hb0_.below; clear hb0_; have HB3 := Aside0.mk (below_step HB2.out hb); replace h0 := pw_cell_below hb h0; replace h1 := pw_cell_below hb h1; clear hb))
          go_roundg (n - (kk + 1))
          case measure => omega
          case rel => exact ⟨kk + 1, false, by omega, by omega, by go_num, rfl, ⟨by rw [HOK.out]; unfold stepB; rw [HS.out]; rfl⟩, HB3⟩
        | true =>
          have WS : Aside0 (closed_signal.f a = some true) := ⟨by rw [signal_f, hs]⟩
          have HS := Aside0.mk hs
          clear hs
          by_cases d1 : -65536 ≤ d
          · have d1b : decide (-65536 ≤ d) = true := decide_eq_true d1
            by_cases d2 : d ≤ 65536
            · have d2b : decide (d ≤ 65536) = true := decide_eq_true d2
              have HE : Aside0 (stepB a d = true) := ⟨by unfold stepB; rw [HS.out, d1b, d2b]; rfl⟩
              clear d1 d2
              go_wp2_with ((go_at_call 21); (with_reducible refine (closed_signal.calls a true _ WS.out).mono ?_; rintro e w2 ⟨rfl, hb0_⟩; have hb := hb0_.below; clear hb0_; have HB3 := Aside0.mk (below_step HB2.out hb); replace h0 := pw_cell_below hb h0; replace h1 := pw_cell_below hb h1; clear hb))
              go_roundg (n - (kk + 1))
              case measure => omega
              case rel => exact ⟨kk + 1, true, by omega, by omega, by go_num, rfl, ⟨by rw [HOK.out]; rw [HE.out]; rfl⟩, HB3⟩
            · have d2b : decide (d ≤ 65536) = false := decide_eq_false d2
              have HE : Aside0 (stepB a d = false) := ⟨by unfold stepB; rw [HS.out, d1b, d2b]; rfl⟩
              clear d1 d2
              go_wp2_with ((go_at_call 21); (with_reducible refine (closed_signal.calls a true _ WS.out).mono ?_; rintro e w2 ⟨rfl, hb0_⟩; have hb := hb0_.below; clear hb0_; have HB3 := Aside0.mk (below_step HB2.out hb); replace h0 := pw_cell_below hb h0; replace h1 := pw_cell_below hb h1; clear hb))
              go_roundg (n - (kk + 1))
              case measure => omega
              case rel => exact ⟨kk + 1, false, by omega, by omega, by go_num, rfl, ⟨by rw [HOK.out]; rw [HE.out]; rfl⟩, HB3⟩
          · have d1b : decide (-65536 ≤ d) = false := decide_eq_false d1
            have HE : Aside0 (stepB a d = false) := ⟨by unfold stepB; rw [HS.out, d1b]; rfl⟩
            clear d1
            go_wp2_with ((go_at_call 21); (with_reducible refine (closed_signal.calls a true _ WS.out).mono ?_; rintro e w2 ⟨rfl, hb0_⟩; have hb := hb0_.below; clear hb0_; have HB3 := Aside0.mk (below_step HB2.out hb); replace h0 := pw_cell_below hb h0; replace h1 := pw_cell_below hb h1; clear hb))
            go_roundg (n - (kk + 1))
            case measure => omega
            case rel => exact ⟨kk + 1, false, by omega, by omega, by go_num, rfl, ⟨by rw [HOK.out]; rw [HE.out]; rfl⟩, HB3⟩
    · have hltz : ¬ (kk : Int) < (n : Int) := by omega
      obtain rfl : kk = n := by omega
      have hb : (b0 && okN A D kk) = b := HBK.out.symm
      have hRR := HR.out
      rw [hb] at hRR
      cases b with
      | false =>
        have HE : Aside0 (R = ([], 1)) := ⟨by rw [← hRR]; exact if_neg Bool.false_ne_true⟩
        clear hb hRR
        go_wp2
        go_ret2
        rw [HE.out]
        exact ⟨_, rfl, Kd.R_nil _ _ _ _ _, below_step MH47.out HB2.out⟩
      | true =>
        have HE : Aside0 (R = (smL c (st0 c out v) A D kk, 0)) := ⟨by rw [← hRR]; exact if_pos rfl⟩
        obtain ⟨hb1, hb2⟩ := (Bool.and_eq_true _ _).mp hb
        obtain ⟨gl, gs, gq, vk, rfl, hl⟩ := HP.out hb1
        have HLr := Aside0.mk (hl.below HB2.out)
        have HBr := Aside0.mk (below_step MH47.out HB2.out)
        have HOKN := Aside0.mk hb2
        have HST := Aside0.mk (st0_ok HC.out (HB0.out.trans hb1))
        have HSZ : Aside0 (w.heap.size ≤ Mw24.heap.size) := ⟨below_size MH26.out⟩
        clear hb hRR hb1 hb2 hl HP HBK HB0 HR
        generalize st0 c out v = s0 at HE HLr HST
        go_wp2_with fail
        go_loopg [16, 70] kk (fun gg v16 v70 wr2 => ∃ jj : Nat, jj ≤ kk ∧ kk - jj ≤ gg ∧ v70 = .int .i64 jj ∧ Aside0 (Kd.R k62 62 wr2 w.heap.size (fun k => ¬ LP gl gs gq vk k) v16 (smL c s0 A D jj)) ∧ Aside0 (LAt Mw24.heap.size c gl gs gq vk wr2 (stN c s0 A D jj)) ∧ Aside0 (Below w.heap.size w wr2))
        case atStart => exact ⟨0, Nat.zero_le _, by omega, rfl, ⟨Kd.R_nil _ _ _ _ _⟩, HLr, HBr⟩
        case round =>
          obtain ⟨jj, hjj, hg2, rfl, HO, HL, HB4⟩ := hrel
          by_cases hlt : jj < kk
          · have hltz : (jj : Int) < (kk : Int) := by omega
            obtain ⟨ad, e, h0⟩ := Kd.at_int (Kd.C_below HA.out HB4.out) (jj : Int) (by omega) hltz
            subst e
            obtain ⟨ae, e, h1⟩ := Kd.at_int (Kd.C_below HD.out HB4.out) (jj : Int) (by omega) hltz
            subst e
            have ha : rd A (jj : Int) = A.getD jj 0 := by simp [rd]
            have hd : rd D (jj : Int) = D.getD jj 0 := by simp [rd]
            rw [ha] at h0
            rw [hd] at h1
            rw [Int.toNat_natCast] at h0 h1
            obtain ⟨hs, hd2⟩ := stepB_is (okN_is A D kk HOKN.out jj hlt)
            have hok := stN_ok HC.out HST.out A D jj (okN_le A D kk HOKN.out jj (by omega))
            have hx : smL c s0 A D (jj + 1) = smL c s0 A D jj ++ [⟨A.getD jj 0, (stN c s0 A D jj).o c (A.getD jj 0), (stN c s0 A D (jj + 1)).v⟩] := rfl
            have hn2 : (stN c s0 A D jj).nx c (A.getD jj 0) (D.getD jj 0) = stN c s0 A D (jj + 1) := rfl
            have hln : (smL c s0 A D jj).length ≤ 512 := by rw [smL_length]; omega
            obtain ⟨o, ho⟩ : ∃ o, (stN c s0 A D jj).o c (A.getD jj 0) = o := ⟨_, rfl⟩
            rw [ho] at hx
            obtain ⟨u, hu⟩ : ∃ u, (stN c s0 A D (jj + 1)).v = u := ⟨_, rfl⟩
            rw [hu] at hx
            generalize A.getD jj 0 = a at h0 hs hx hn2 ho hd2
            generalize D.getD jj 0 = d at h1 hd2 hn2
            have HX := Aside0.mk hx
            have HN2 := Aside0.mk hn2
            have HOo := Aside0.mk ho
            have HU := Aside0.mk hu
            have HOK := Aside0.mk hok
            have HSa := Aside0.mk hs
            have HDd := Aside0.mk hd2
            have HLN := Aside0.mk hln
            clear hx hn2 ho hu hok hs hd2 hln ha hd
            obtain ⟨Ao, co, eo⟩ := Kd.R_slice HO.out
            subst eo
            generalize hsl : smL c s0 A D jj = L at HO HX HLN
            clear hsl
            go_wp2_with fail
            refine start_ (n := 14) (S := fun w' => w'.cell? (ad.add jj) = some (.int .i64 a) ∧ w'.cell? (ae.add jj) = some (.int .i64 d)) (ds := [10, 11, 12]) #[false, false, false, false, false, false, false, false, false, false, false, false, false, false] (by kernel_rfl) rfl rfl ⟨pw_cell_below (below_drew1 (Below.refl _ _)) h0, pw_cell_below (below_drew1 (Below.refl _ _)) h1⟩ (fun hHeld => ?_); refine with_tabW runR.tab20 runR.bits20 (fun HT_ HW_ => ?_)
            have HB5 := Aside0.mk (HB4.out.trans (Below.drew (Below.refl _ wr))); have HL5 := Aside0.mk HL.out.drew; have HO5 := Aside0.mk (Kd.R_below HO.out (below_drew1 (Below.refl _ wr))); generalize wr.drew = w5 at HB5 HL5 HO5 hHeld ⊢
            refine pure_ (i := 0) (N := some 73) (v := ?_) (a' := ?_) #[true, false, false, false, false, false, false, false, false, false, false, false, false, false] rfl rfl (any_of HT_.out (by kernel_rfl)) (fun _ _ _ h => h) (Or.inl ⟨by rfl, ?_⟩) ?_ ?_
            rotate_left
            · intro w'
              go_simp
              with_reducible rfl
            rotate_left
            · simp only [Act.put, List.setIfInBounds_toArray, List.set_cons_zero, List.set_cons_succ, i64_w, i32_w]
              rfl
            refine pure_ (i := 1) (N := some 74) (v := ?_) (a' := ?_) #[true, true, false, false, false, false, false, false, false, false, false, false, false, false] rfl rfl (any_of HT_.out (by kernel_rfl)) (fun _ _ _ h => h) (Or.inl ⟨by rfl, ?_⟩) ?_ ?_
            rotate_left
            · intro w'
              go_simp
              with_reducible rfl
            rotate_left
            · simp only [Act.put, List.setIfInBounds_toArray, List.set_cons_zero, List.set_cons_succ, i64_w, i32_w]
              rfl
            refine pure_ (i := 2) (N := some 75) (v := ?_) (a' := ?_) #[true, true, true, false, false, false, false, false, false, false, false, false, false, false] rfl rfl (any_of HT_.out (by kernel_rfl)) (fun _ _ _ h => h) (Or.inl ⟨by rfl, ?_⟩) ?_ ?_
            rotate_left
            · intro w'
              go_simp
              with_reducible rfl
            rotate_left
            · simp only [Act.put, List.setIfInBounds_toArray, List.set_cons_zero, List.set_cons_succ, i64_w, i32_w]
              rfl
            refine pure_ (i := 3) (N := some 76) (v := ?_) (a' := ?_) #[true, true, true, true, false, false, false, false, false, false, false, false, false, false] rfl rfl (any_of HT_.out (by kernel_rfl)) (fun _ _ _ h => h) (Or.inl ⟨by rfl, ?_⟩) ?_ ?_
            rotate_left
            · intro w'
              go_simp
              with_reducible rfl
            rotate_left
            · simp only [Act.put, List.setIfInBounds_toArray, List.set_cons_zero, List.set_cons_succ, i64_w, i32_w]
              rfl
            refine pure_ (i := 4) (N := some 77) (v := ?_) (a' := ?_) #[true, true, true, true, true, false, false, false, false, false, false, false, false, false] rfl rfl (any_of HT_.out (by kernel_rfl)) (fun _ _ _ h => h) (Or.inl ⟨by rfl, ?_⟩) ?_ ?_
            rotate_left
            · intro w'
              go_simp
              with_reducible rfl
            rotate_left
            · simp only [Act.put, List.setIfInBounds_toArray, List.set_cons_zero, List.set_cons_succ, i64_w, i32_w]
              rfl
            refine pure_ (i := 6) (N := some 79) (v := ?_) (a' := ?_) #[true, true, true, true, true, false, true, false, false, false, false, false, false, false] rfl rfl (any_of HT_.out (by kernel_rfl)) (fun _ _ _ h => h) (Or.inl ⟨by rfl, ?_⟩) ?_ ?_
            rotate_left
            · intro w'
              go_simp
              with_reducible rfl
            rotate_left
            · simp only [Act.put, List.setIfInBounds_toArray, List.set_cons_zero, List.set_cons_succ, i64_w, i32_w]
              rfl
            refine pure_ (i := 7) (N := some 80) (v := ?_) (a' := ?_) #[true, true, true, true, true, false, true, true, false, false, false, false, false, false] rfl rfl (any_of HT_.out (by kernel_rfl)) (fun _ _ _ h => h) (Or.inl ⟨by rfl, ?_⟩) ?_ ?_
            rotate_left
            · intro w'
              go_simp
              with_reducible rfl
            rotate_left
            · simp only [Act.put, List.setIfInBounds_toArray, List.set_cons_zero, List.set_cons_succ, i64_w, i32_w]
              rfl
            refine pure_ (i := 8) (N := some 81) (v := ?_) (a' := ?_) #[true, true, true, true, true, false, true, true, true, false, false, false, false, false] rfl rfl (any_of HT_.out (by kernel_rfl)) (fun _ _ _ h => h) (Or.inl ⟨by rfl, ?_⟩) ?_ ?_
            rotate_left
            · intro w'
              go_simp
              with_reducible rfl
            rotate_left
            · simp only [Act.put, List.setIfInBounds_toArray, List.set_cons_zero, List.set_cons_succ, i64_w, i32_w]
              rfl
            refine take_ (i := 5) (N := some 78) (v := ?_) (a' := ?_) #[true, true, true, true, true, true, true, true, true, false, false, false, false, false] rfl rfl (take_ofW HT_.out HW_.out (by kernel_rfl)) (fun _ _ _ h => h) (Or.inl ⟨by rfl, ?_⟩) hHeld ?_ ?_
            rotate_left
            · rintro w' ⟨s0, s1⟩
              go_simp
              with_reducible rfl
            rotate_left
            · simp only [Act.put, List.setIfInBounds_toArray, List.set_cons_zero, List.set_cons_succ, i64_w, i32_w]
              rfl
            refine take_ (i := 9) (N := some 82) (v := ?_) (a' := ?_) #[true, true, true, true, true, true, true, true, true, true, false, false, false, false] rfl rfl (take_ofW HT_.out HW_.out (by kernel_rfl)) (fun _ _ _ h => h) (Or.inl ⟨by rfl, ?_⟩) hHeld ?_ ?_
            rotate_left
            · rintro w' ⟨s0, s1⟩
              go_simp
              with_reducible rfl
            rotate_left
            · simp only [Act.put, List.setIfInBounds_toArray, List.set_cons_zero, List.set_cons_succ, i64_w, i32_w]
              rfl
            refine last_ (i := 10) (N := some 83) #[true, true, true, true, true, true, true, true, true, true, true, false, false, false] rfl rfl (one_of HT_.out (by kernel_rfl)) (by decide) (fun K hK => ?_)
            refine goes_ Try.func22 (by kernel_rfl) rfl #[.pointer (some ⟨gl, 0, none⟩), .int .i64 a, .int .i64 d] (by rfl) rfl rfl (by simp only [List.map_toArray, List.map_cons, List.map_nil]; rfl) ?_
            with_reducible refine (nextO_calls HL5.out HC.out HOK.out a d HSa.out HDd.out o u _ HOo.out HN2.out HU.out).mono ?_
            rintro e w6 ⟨rfl, hl, hk⟩
            refine ⟨_, rfl, ?_⟩
            have HL6 := Aside0.mk hl
            have HO6 := Aside0.mk (Kd.R_kept HO5.out hk.k (fun k hk => hk))
            have HB6 := Aside0.mk (HB5.out.trans (hk.below (fun k hk => Nat.le_trans HSZ.out (HL5.out.lo k hk).1) HB5.out.size))
            clear hl hk
            refine hK.out _ _ ?_
            clear hK K
            refine norm_ (a' := ?_) ?_ ?_
            rotate_left
            · show Act.put _ (some 83) _ = _
              simp only [Act.put, List.setIfInBounds_toArray, List.set_cons_zero, List.set_cons_succ, i64_w, i32_w]
              rfl
            refine last_ (i := 11) (N := some 84) #[true, true, true, true, true, true, true, true, true, true, true, true, false, false] rfl rfl (one_of HT_.out (by kernel_rfl)) (by decide) (fun K hK => ?_)
            refine value_ (w1 := ?_) (v := ?_) (by rfl) rfl ?_ ?_
            rotate_left 2
            · go_simp
              constructor
              · rfl
              · rfl
            refine hK.out _ _ ?_
            clear hK K
            refine norm_ (a' := ?_) ?_ ?_
            rotate_left
            · show Act.put _ (some 84) _ = _
              simp only [Act.put, List.setIfInBounds_toArray, List.set_cons_zero, List.set_cons_succ, i64_w, i32_w]
              rfl
            refine last_ (i := 12) (N := some 85) #[true, true, true, true, true, true, true, true, true, true, true, true, true, false] rfl rfl (one_of HT_.out (by kernel_rfl)) (by decide) (fun K hK => ?_)
            refine Kd.R_append_step k62 (w0 := w6) w.heap.size (by rfl) (.tmp 73) (.tmp 84) 57 62 (.agg #[.int .i64 0, .int .i64 0, .int .i64 0]) 24 rfl Try.underlying57 info62 rfl (by decide) (by omega) (.slice Ao L.length co) L ⟨a, o, u⟩ [.int .i64 a, .int .i64 o, .int .i64 u] (fun k => ¬ LP gl gs gq vk k) (fun _ => False) rfl (by first | (go_simp; done) | (go_simp; rfl)) ?aP (fun _ hk => hk.elim) ?aF HO6.out (Below.refl _ _) HB6.out.size ?aL ?_
            (case aP => exact k62_mkM _ _ _ (⟨a, o, u⟩ : S62))
            (case aF => exact fun k hk h => by have := (HL6.out.lo k h).2; omega)
            (case aL => have := HLN.out; omega)
            intro va w9 ho hb hg hat
            rw [← HX.out] at ho
            have HO9 := Aside0.mk ho
            have HL9 := Aside0.mk (HL6.out.grown hg (fun k e => (HO6.out.1 k e)))
            have HB9 := Aside0.mk (HB6.out.trans hb)
            clear ho hb hg hat
            refine hK.out _ _ ?_
            clear hK K
            refine norm_ (a' := ?_) ?_ ?_
            rotate_left
            · show Act.put _ (some 85) _ = _
              simp only [Act.put, List.setIfInBounds_toArray, List.set_cons_zero, List.set_cons_succ, i64_w, i32_w]
              rfl
            refine pure_ (i := 13) (N := some 16) (v := ?_) (a' := ?_) #[true, true, true, true, true, true, true, true, true, true, true, true, true, true] rfl rfl (any_of HT_.out (by kernel_rfl)) (fun _ _ _ h => h) (Or.inl ⟨by rfl, ?_⟩) ?_ ?_
            rotate_left
            · intro w'
              go_simp
              with_reducible rfl
            rotate_left
            · simp only [Act.put, List.setIfInBounds_toArray, List.set_cons_zero, List.set_cons_succ, i64_w, i32_w]
              rfl
            refine done_ (done_of HT_.out (by kernel_rfl)) ?_
            go_wp2_with fail
            go_roundg (kk - (jj + 1))
            case measure => omega
            case rel => exact ⟨jj + 1, by omega, by omega, by go_num, HO9, HL9, HB9⟩
          · have hltz : ¬ (jj : Int) < (kk : Int) := by omega
            obtain rfl : jj = kk := by omega
            go_wp2
            go_ret2
            rw [HE.out]
            exact ⟨_, rfl, Kd.R_mono HO.out (fun _ _ => trivial), HB4.out⟩
end Go.Proofs.Ytpfilkfdnjbejaa.Q
