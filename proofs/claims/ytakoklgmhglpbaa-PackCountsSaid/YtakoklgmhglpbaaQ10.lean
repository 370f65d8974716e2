/- Plain Lean functions of the Go functions, and proofs that the Go calls come to them; laid out by this session's program wip/tools/hp.py. -/
import Derived.Test.YtakoklgmhglpbaaQ0
import Derived.Test.YtakoklgmhglpbaaQ4
import Derived.Test.YtakoklgmhglpbaaQ5
import Derived.Test.YtakoklgmhglpbaaQ7
import Derived.Test.YtakoklgmhglpbaaQ8
import Derived.Test.YtakoklgmhglpbaaQ9
namespace Go.Proofs.Ytakoklgmhglpbaa.Q
open Go.RowKit Go.Proofs.YtakoklgmhglpbaaW.PrintWords Go.Proofs.YtakoklgmhglpbaaW.PrintLast Go.Proofs.YtakoklgmhglpbaaW.PrintMore
attribute [local go_sem] max2_int min2_int max_two min_two max_three min_three max_four min_four   -- for this text's walks alone
set_option linter.unusedVariables false
set_option linter.unusedSimpArgs false

/-! ### papermilllaw53_awake: function 10, by hand -/
def bt_ (r f t : Int) : S43 := ⟨r, ⟨f, t⟩⟩
def awL : List S43 := [bt_ 7 0 4, bt_ 9 10 12, bt_ 7 4 7]
def awA : List S38 := [⟨[bt_ 7 0 4, bt_ 9 10 11]⟩]
def awB : List S43 := [bt_ 9 11 12, bt_ 7 4 7]
def awP : List S43 := [bt_ 7 0 4, bt_ 9 10 11]
def awC : List S38 := [⟨[bt_ 7 0 3]⟩, ⟨[bt_ 7 3 4, bt_ 9 10 12]⟩, ⟨[bt_ 7 4 7]⟩]
def awD : List S43 := [bt_ 7 3 4, bt_ 9 10 12]
def aw1 : List S43 := [bt_ 7 0 3]
def aw3 : List S43 := [bt_ 7 4 7]
def awR : List Int := [7, 9]
theorem aw_batch (a b c : Int) (w : World) : Calls Try.prog 26 #[.int .i64 a, .int .i64 b, .int .i64 c] w fun e w' => e = .returned (.agg #[.int .i64 a, .int .i64 b, .int .i64 c]) ∧ Below w.heap.size w w' := papermilllaw53_batch.calls a b c a b c w (by kernel_rfl)
/-- A literal's block reads as its list. -/
theorem C_lit {α : Type} {d : Kd α} {W : World} {g : Nat} {cs : Array Value} {t : TypeId} {fr : Nat × Nat} (xs : List α) (enc : List (List Value)) (hl : xs.length ≤ 9223372036854775807) (hh : W.heap[g]? = some (.cells cs t fr)) (hcs : cs = enc.flatten.toArray)
    (hK : ∀ (j : Nat) x, xs[j]? = some x → ∃ c, enc[j]? = some c ∧ d.K W x c) (hsz : ∀ c ∈ enc, c.length = d.sz) : d.C W (some ⟨g, 0, none⟩) xs.length xs := by
  refine ⟨rfl, hl, fun _ => ⟨_, rfl, fun j p hp => ?_⟩⟩
  obtain ⟨c, hc, hk⟩ := hK j p hp
  refine ⟨c, d.K_len hk, hk, fun i u hu => ?_⟩
  have hil : i < c.length := (List.getElem?_eq_some_iff.1 hu).1
  rw [add_plain]
  have : W.cell? ⟨g, j * d.sz + i, none⟩ = cs[j * d.sz + i]? := by simp [World.cell?, hh]
  rw [this, hcs]
  simp only [List.getElem?_toArray]
  clear this hh hK hp hk hcs
  induction enc generalizing j with
  | nil => simp at hc
  | cons e enc ih =>
    have he : e.length = d.sz := hsz e List.mem_cons_self
    have hsz' : ∀ c ∈ enc, c.length = d.sz := fun c hc => hsz c (List.mem_cons_of_mem _ hc)
    cases j with
    | zero =>
      simp only [List.getElem?_cons_zero, Option.some.injEq] at hc
      subst hc
      rw [List.flatten_cons, Nat.zero_mul, Nat.zero_add, List.getElem?_append_left (by omega)]
      exact hu
    | succ j =>
      rw [List.flatten_cons, List.getElem?_append_right (by rw [he, Nat.succ_mul]; omega), he, show (j + 1) * d.sz + i - d.sz = j * d.sz + i by rw [Nat.succ_mul]; omega]
      exact ih hsz' j (by simpa using hc)
def enc43 (x : S43) : List Value := [.int .i64 x.f0, .int .i64 x.f1.f0, .int .i64 x.f1.f1]
/-- A block of batches. -/
theorem C_batches {W : World} {g : Nat} {cs : Array Value} {t : TypeId} {fr : Nat × Nat} (xs : List S43) (hl : xs.length ≤ 9223372036854775807) (hh : W.heap[g]? = some (.cells cs t fr)) (hcs : cs = (xs.map enc43).flatten.toArray) : k43.C W (some ⟨g, 0, none⟩) xs.length xs :=
  C_lit xs (xs.map enc43) hl hh hcs (fun j x hx => ⟨enc43 x, by simp [hx], k43_mk W x⟩) (fun c hc => by obtain ⟨x, _, rfl⟩ := List.mem_map.1 hc; rfl)
/-- pack.Reams at the example. -/
theorem aw_reams5 (A : Option Addr) (c : Nat) (w : World) (h : k43.C w A 3 awL) (hc : 3 ≤ c) :
    Calls Try.prog 11 #[.slice A 3 c, .int .i64 5] w fun e w' => ∃ A1 c1 A2 c2, e = .returned (.tuple #[.slice A1 1 c1, .slice A2 2 c2, .int .i64 0]) ∧ (k38.C w' A1 1 awA ∧ 1 ≤ c1) ∧ (k43.C w' A2 2 awB ∧ 2 ≤ c2) ∧ Below w.heap.size w w' := by
  refine (pack_Reams.calls 20 A c awL 5 awA awB 0 w h hc (by kernel_rfl)).mono ?_
  rintro e w' ⟨v0, v1, rfl, h0, h1, hb⟩
  obtain ⟨A1, c1, rfl, hl1, hC1⟩ := Kd.R_reads (Kd.S_R h0)
  obtain ⟨A2, c2, rfl, hl2, hC2⟩ := Kd.R_reads h1
  exact ⟨A1, c1, A2, c2, rfl, ⟨hC1, hl1⟩, ⟨hC2, hl2⟩, hb⟩
theorem aw_reams3 (A : Option Addr) (c : Nat) (w : World) (h : k43.C w A 3 awL) (hc : 3 ≤ c) :
    Calls Try.prog 11 #[.slice A 3 c, .int .i64 3] w fun e w' => ∃ A1 c1 A2 c2, e = .returned (.tuple #[.slice A1 3 c1, .slice A2 0 c2, .int .i64 0]) ∧ (k38.C w' A1 3 awC ∧ 3 ≤ c1) ∧ Below w.heap.size w w' := by
  refine (pack_Reams.calls 20 A c awL 3 awC [] 0 w h hc (by kernel_rfl)).mono ?_
  rintro e w' ⟨v0, v1, rfl, h0, h1, hb⟩
  obtain ⟨A1, c1, rfl, hl1, hC1⟩ := Kd.R_reads (Kd.S_R h0)
  obtain ⟨A2, c2, rfl, hl2, hC2⟩ := Kd.R_reads h1
  exact ⟨A1, c1, A2, c2, rfl, ⟨hC1, hl1⟩, hb⟩
theorem aw_where1 (A : Option Addr) (c : Nat) (w : World) (h : k38.C w A 3 awC) (hc : 3 ≤ c) : Calls Try.prog 16 #[.slice A 3 c, .int .i64 9, .int .i64 11] w fun e w' => e = .returned (.tuple #[.int .i64 1, .int .i64 2, .int .i64 0]) ∧ Below w.heap.size w w' :=
  pack_Where.calls 20 A c awC 9 11 1 2 0 w h hc (by kernel_rfl)
theorem aw_where2 (A : Option Addr) (c : Nat) (w : World) (h : k38.C w A 3 awC) (hc : 3 ≤ c) : Calls Try.prog 16 #[.slice A 3 c, .int .i64 9, .int .i64 12] w fun e w' => e = .returned (.tuple #[.int .i64 0, .int .i64 0, .int .i64 7]) ∧ Below w.heap.size w w' :=
  pack_Where.calls 20 A c awC 9 12 0 0 7 w h hc (by kernel_rfl)
theorem aw_rolls (A : Option Addr) (c : Nat) (w : World) (h : k43.C w A 2 awD) (hc : 2 ≤ c) : Calls Try.prog 22 #[.agg #[.slice A 2 c]] w fun e w' => ∃ A1 c1, e = .returned (.tuple #[.slice A1 2 c1, .int .i64 0]) ∧ ((Kd.int .i64).C w' A1 2 awR ∧ 2 ≤ c1) ∧ Below w.heap.size w w' := by
  refine (pack_Rolls.calls 20 A c awD awR 0 w h hc (by kernel_rfl)).mono ?_
  rintro e w' ⟨v0, rfl, h0, hb⟩
  obtain ⟨A1, c1, rfl, hl1, hC1⟩ := Kd.R_reads h0
  exact ⟨A1, c1, rfl, ⟨hC1, hl1⟩, hb⟩
theorem aw_pallets (w : World) : Calls Try.prog 19 #[.int .i64 17, .int .i64 5] w fun e w' => e = .returned (.tuple #[.int .i64 3, .int .i64 2, .int .i64 0]) ∧ Below w.heap.size w w' :=
  (pack_Pallets.calls 17 5 3 2 0 w (by kernel_rfl)).mono fun e w' ⟨he, hd⟩ => ⟨he, hd.below⟩
theorem aw_batches2 (A : Option Addr) (c : Nat) (A' : Option Addr) (c' : Nat) (l : List S43) (w : World) (h : k43.C w A 2 l) (hc : 2 ≤ c) (h' : k43.C w A' 2 l) (hc' : 2 ≤ c') (hl : l.length = 2) (hr : papermillref53_Batches.f 20 l l = some true) : Calls Try.prog 14 #[.slice A 2 c, .slice A' 2 c'] w fun e w' => e = .returned (.bool true) ∧ Below w.heap.size w w' := by
  have := papermillref53_Batches.calls 20 A c l A' c' l true w (hl.symm ▸ h) (hl.symm ▸ hc) (hl.symm ▸ h') (hl.symm ▸ hc') hr
  rw [hl] at this
  exact this.mono fun e w' ⟨he, hd⟩ => ⟨he, hd.below⟩
theorem aw_same (A : Option Addr) (c : Nat) (A' : Option Addr) (c' : Nat) (w : World) (h : k38.C w A 3 awC) (hc : 3 ≤ c) (h' : k38.C w A' 3 awC) (hc' : 3 ≤ c') : Calls Try.prog 13 #[.slice A 3 c, .slice A' 3 c'] w fun e w' => e = .returned (.bool true) ∧ Below w.heap.size w w' :=
  (papermillref53_Same.calls 20 A c awC A' c' awC true w h hc h' hc' (by kernel_rfl)).mono fun e w' ⟨he, hd⟩ => ⟨he, hd.below⟩
theorem aw_ints (A : Option Addr) (c : Nat) (A' : Option Addr) (c' : Nat) (w : World) (h : (Kd.int .i64).C w A 2 awR) (hc : 2 ≤ c) (h' : (Kd.int .i64).C w A' 2 awR) (hc' : 2 ≤ c') : Calls Try.prog 25 #[.slice A 2 c, .slice A' 2 c'] w fun e w' => e = .returned (.bool true) ∧ Below w.heap.size w w' :=
  (papermillref12_Same.calls 20 A c awR A' c' awR true w h hc h' hc' (by kernel_rfl)).mono fun e w' ⟨he, hd⟩ => ⟨he, hd.below⟩
open Mono
theorem not_dst {ops : Array Oper} {s : Tmp} (h : ((List.range ops.size).all fun i => dstOf ops i != some s) = true) : ∀ i, dstOf ops i ≠ some s := fun i e => by
  have := List.all_eq_true.1 h i (List.mem_range.2 (dstOf_lt e))
  rw [e] at this
  simp at this
theorem getq {a : Act} {n s : Nat} {v : Value} (hn : a.tmps.size = n) (hs : s < n) (h : a.tmps.getD s undef = v) : a.tmps[s]? = some v := by
  rw [← h, Array.getD_eq_getD_getElem?, Array.getElem?_eq_getElem (by omega)]
  rfl
def awF (ada : Addr) (ca : Nat) (Ab : Option Addr) (cb : Nat) (adc : Addr) (cc : Nat) (Ar : Option Addr) (cr : Nat) (Aq : Option Addr) (cq : Nat) : Nat → Value → World → Prop
  | 0, v, w => v = .slice (some ada) 1 ca
  | 1, v, w => v = .pointer (some ada)
  | 2, v, w => v = .pointer (some ada)
  | 3, v, w => v = .slice Aq 2 cq
  | 4, v, w => v = .agg #[.int .i64 7, .int .i64 0, .int .i64 4]
  | 5, v, w => v = .agg #[.int .i64 9, .int .i64 10, .int .i64 11]
  | 6, v, w => ∃ A c, v = .slice A 2 c ∧ 2 ≤ c ∧ k43.C w A 2 awP
  | 7, v, w => v = .bool true
  | 8, v, w => v = .bool true
  | 9, v, w => v = .slice Ab 2 cb
  | 10, v, w => v = .agg #[.int .i64 9, .int .i64 11, .int .i64 12]
  | 11, v, w => v = .agg #[.int .i64 7, .int .i64 4, .int .i64 7]
  | 12, v, w => ∃ A c, v = .slice A 2 c ∧ 2 ≤ c ∧ k43.C w A 2 awB
  | 13, v, w => v = .bool true
  | 14, v, w => v = .bool true
  | 15, v, w => v = .bool true
  | 16, v, w => v = .slice (some adc) 3 cc
  | 17, v, w => v = .agg #[.int .i64 7, .int .i64 0, .int .i64 3]
  | 18, v, w => ∃ A c, v = .slice A 1 c ∧ 1 ≤ c ∧ k43.C w A 1 aw1
  | 19, v, w => ∃ A c, v = .agg #[.slice A 1 c] ∧ 1 ≤ c ∧ k43.C w A 1 aw1
  | 20, v, w => v = .agg #[.int .i64 7, .int .i64 3, .int .i64 4]
  | 21, v, w => v = .agg #[.int .i64 9, .int .i64 10, .int .i64 12]
  | 22, v, w => ∃ A c, v = .slice A 2 c ∧ 2 ≤ c ∧ k43.C w A 2 awD
  | 23, v, w => ∃ A c, v = .agg #[.slice A 2 c] ∧ 2 ≤ c ∧ k43.C w A 2 awD
  | 24, v, w => v = .agg #[.int .i64 7, .int .i64 4, .int .i64 7]
  | 25, v, w => ∃ A c, v = .slice A 1 c ∧ 1 ≤ c ∧ k43.C w A 1 aw3
  | 26, v, w => ∃ A c, v = .agg #[.slice A 1 c] ∧ 1 ≤ c ∧ k43.C w A 1 aw3
  | 27, v, w => ∃ A c, v = .slice A 3 c ∧ 3 ≤ c ∧ k38.C w A 3 awC
  | 28, v, w => v = .bool true
  | 29, v, w => v = .bool true
  | 30, v, w => v = .bool true
  | 31, v, w => v = .slice Ar 2 cr
  | 32, v, w => ∃ A c, v = .slice A 2 c ∧ 2 ≤ c ∧ (Kd.int .i64).C w A 2 awR
  | 33, v, w => v = .bool true
  | 34, v, w => v = .bool true
  | 35, v, w => v = .bool true
  | _, _, _ => True
def awI (w0 : World) (ada : Addr) (ca : Nat) (Ab : Option Addr) (cb : Nat) (adc : Addr) (cc : Nat) (Ar : Option Addr) (cr : Nat) (Aq : Option Addr) (cq : Nat) (w : World) : Prop := w.cell? ada = some (.slice Aq 2 cq) ∧ 2 ≤ cq ∧ k43.C w Aq 2 awP ∧ k43.C w Ab 2 awB ∧ 2 ≤ cb ∧ k38.C w (some adc) 3 awC ∧ 3 ≤ cc ∧ (Kd.int .i64).C w Ar 2 awR ∧ 2 ≤ cr ∧ Below w0.heap.size w0 w
theorem awI_mono {w0 : World} {ada : Addr} {ca : Nat} {Ab : Option Addr} {cb : Nat} {adc : Addr} {cc : Nat} {Ar : Option Addr} {cr : Nat} {Aq : Option Addr} {cq : Nat} (w w' : World) (hb : Below w.heap.size w w') (h : awI w0 ada ca Ab cb adc cc Ar cr Aq cq w) : awI w0 ada ca Ab cb adc cc Ar cr Aq cq w' := by
  obtain ⟨h1, h2, h3, h4, h5, h6, h7, h8, h9, h10⟩ := h
  exact ⟨pw_cell_below hb h1, h2, Kd.C_below h3 hb, Kd.C_below h4 hb, h5, Kd.C_below h6 hb, h7, Kd.C_below h8 hb, h9, below_step h10 hb⟩
theorem awF_mono {ada : Addr} {ca : Nat} {Ab : Option Addr} {cb : Nat} {adc : Addr} {cc : Nat} {Ar : Option Addr} {cr : Nat} {Aq : Option Addr} {cq : Nat} (i : Nat) (v : Value) (w w' : World) (hb : Below w.heap.size w w') (h : awF ada ca Ab cb adc cc Ar cr Aq cq i v w) : awF ada ca Ab cb adc cc Ar cr Aq cq i v w' := by
  rcases Nat.lt_or_ge i 36 with hi | hi
  · obtain rfl | rfl | rfl | rfl | rfl | rfl | rfl | rfl | rfl | rfl | rfl | rfl | rfl | rfl | rfl | rfl | rfl | rfl | rfl | rfl | rfl | rfl | rfl | rfl | rfl | rfl | rfl | rfl | rfl | rfl | rfl | rfl | rfl | rfl | rfl | rfl : i = 0 ∨ i = 1 ∨ i = 2 ∨ i = 3 ∨ i = 4 ∨ i = 5 ∨ i = 6 ∨ i = 7 ∨ i = 8 ∨ i = 9 ∨ i = 10 ∨ i = 11 ∨ i = 12 ∨ i = 13 ∨ i = 14 ∨ i = 15 ∨ i = 16 ∨ i = 17 ∨ i = 18 ∨ i = 19 ∨ i = 20 ∨ i = 21 ∨ i = 22 ∨ i = 23 ∨ i = 24 ∨ i = 25 ∨ i = 26 ∨ i = 27 ∨ i = 28 ∨ i = 29 ∨ i = 30 ∨ i = 31 ∨ i = 32 ∨ i = 33 ∨ i = 34 ∨ i = 35 := by omega
    · exact h
    · exact h
    · exact h
    · exact h
    · exact h
    · exact h
    · obtain ⟨A, c, e, hc, hC⟩ := h
      exact ⟨A, c, e, hc, Kd.C_below hC hb⟩
    · exact h
    · exact h
    · exact h
    · exact h
    · exact h
    · obtain ⟨A, c, e, hc, hC⟩ := h
      exact ⟨A, c, e, hc, Kd.C_below hC hb⟩
    · exact h
    · exact h
    · exact h
    · exact h
    · exact h
    · obtain ⟨A, c, e, hc, hC⟩ := h
      exact ⟨A, c, e, hc, Kd.C_below hC hb⟩
    · obtain ⟨A, c, e, hc, hC⟩ := h
      exact ⟨A, c, e, hc, Kd.C_below hC hb⟩
    · exact h
    · exact h
    · obtain ⟨A, c, e, hc, hC⟩ := h
      exact ⟨A, c, e, hc, Kd.C_below hC hb⟩
    · obtain ⟨A, c, e, hc, hC⟩ := h
      exact ⟨A, c, e, hc, Kd.C_below hC hb⟩
    · exact h
    · obtain ⟨A, c, e, hc, hC⟩ := h
      exact ⟨A, c, e, hc, Kd.C_below hC hb⟩
    · obtain ⟨A, c, e, hc, hC⟩ := h
      exact ⟨A, c, e, hc, Kd.C_below hC hb⟩
    · obtain ⟨A, c, e, hc, hC⟩ := h
      exact ⟨A, c, e, hc, Kd.C_below hC hb⟩
    · exact h
    · exact h
    · exact h
    · exact h
    · obtain ⟨A, c, e, hc, hC⟩ := h
      exact ⟨A, c, e, hc, Kd.C_below hC hb⟩
    · exact h
    · exact h
    · exact h
  · obtain ⟨j, rfl⟩ : ∃ j, i = j + 36 := ⟨i - 36, by omega⟩
    exact trivial
set_option maxHeartbeats 4000000 in
set_option maxRecDepth 100000 in
theorem aw_all (w : World) : Calls Try.prog 10 #[] w fun e w' => e = .returned (.bool true) ∧ Below w.heap.size w w' := by
  have hu38 := Try.underlying38
  have hu43 := Try.underlying43
  go_enter Try.func10, Try.ntmps10
  go_wp2_with fail
  refine (aw_batch _ _ _ _).mono ?_
  rintro e w1 ⟨rfl, hb1⟩
  go_wp2_with fail
  refine (aw_batch _ _ _ _).mono ?_
  rintro e w2 ⟨rfl, hb2⟩
  go_wp2_with fail
  refine (aw_batch _ _ _ _).mono ?_
  rintro e w3 ⟨rfl, hb3⟩
  have HB := Aside0.mk (below_step (below_step hb1 hb2) hb3)
  clear hb1 hb2 hb3
  go_wp2_with fail
  have HL : k43.C (w3.alloc (.cells #[.int .i64 7, .int .i64 0, .int .i64 4, .int .i64 9, .int .i64 10, .int .i64 12, .int .i64 7, .int .i64 4, .int .i64 7] 43)) (some ⟨w3.heap.size, 0, none⟩) 3 awL :=
    C_batches awL (by decide) (heap_alloc_new w3 _) rfl
  have HB' := Aside0.mk (below_alloc HB.out (.cells #[.int .i64 7, .int .i64 0, .int .i64 4, .int .i64 9, .int .i64 10, .int .i64 12, .int .i64 7, .int .i64 4, .int .i64 7] 43))
  clear HB
  generalize hg : some (⟨w3.heap.size, 0, none⟩ : Addr) = A0 at HL ⊢
  clear hg
  generalize w3.alloc (.cells #[.int .i64 7, .int .i64 0, .int .i64 4, .int .i64 9, .int .i64 10, .int .i64 12, .int .i64 7, .int .i64 4, .int .i64 7] 43) = w4 at HL HB' ⊢
  refine (aw_reams5 A0 3 w4 HL (Nat.le_refl _)).mono ?_
  rintro e w5 ⟨Aa, ca, Ab, cb, rfl, hA, hB, hb⟩
  have HA := Aside0.mk hA
  have HC := Aside0.mk hB
  have HBB := Aside0.mk (below_step HB'.out hb)
  replace HL := Aside0.mk (Kd.C_below HL hb)
  clear hA hB hb HB'
  go_wp2_with fail
  refine (aw_reams3 A0 3 w5 HL.out (Nat.le_refl _)).mono ?_
  rintro e w6 ⟨Ac, cc, Ad, cd, rfl, hA, hb⟩
  replace HA := Aside0.mk (And.intro (Kd.C_below HA.out.1 hb) HA.out.2)
  replace HC := Aside0.mk (And.intro (Kd.C_below HC.out.1 hb) HC.out.2)
  have HD := Aside0.mk hA
  replace HBB := Aside0.mk (below_step HBB.out hb)
  clear hA hb HL
  go_wp2_with fail
  refine (aw_where1 Ac cc w6 HD.out.1 HD.out.2).mono ?_
  rintro e w7 ⟨rfl, hb⟩
  replace HA := Aside0.mk (And.intro (Kd.C_below HA.out.1 hb) HA.out.2)
  replace HC := Aside0.mk (And.intro (Kd.C_below HC.out.1 hb) HC.out.2)
  replace HD := Aside0.mk (And.intro (Kd.C_below HD.out.1 hb) HD.out.2)
  replace HBB := Aside0.mk (below_step HBB.out hb)
  clear hb
  go_wp2_with fail
  refine (aw_where2 Ac cc w7 HD.out.1 HD.out.2).mono ?_
  rintro e w8 ⟨rfl, hb⟩
  replace HA := Aside0.mk (And.intro (Kd.C_below HA.out.1 hb) HA.out.2)
  replace HC := Aside0.mk (And.intro (Kd.C_below HC.out.1 hb) HC.out.2)
  replace HD := Aside0.mk (And.intro (Kd.C_below HD.out.1 hb) HD.out.2)
  replace HBB := Aside0.mk (below_step HBB.out hb)
  clear hb
  obtain ⟨adc, Ap, cp, rfl, hcell, hcp, hCp⟩ := at_T38 HD.out.1 1 (by decide) (by decide)
  have hcp' : 2 ≤ cp := hcp
  have hCp' : k43.C w8 Ap 2 awD := hCp
  have hcell' : w8.cell? ⟨adc.block, adc.off + 1, none⟩ = some (.slice Ap 2 cp) := hcell
  have HP := Aside0.mk hCp'
  clear hcp hCp hcell hCp'
  go_wp2_with fail
  refine (aw_rolls Ap cp w8 HP.out hcp').mono ?_
  rintro e w9 ⟨Ar, cr, rfl, hR, hb⟩
  replace HA := Aside0.mk (And.intro (Kd.C_below HA.out.1 hb) HA.out.2)
  replace HC := Aside0.mk (And.intro (Kd.C_below HC.out.1 hb) HC.out.2)
  replace HD := Aside0.mk (And.intro (Kd.C_below HD.out.1 hb) HD.out.2)
  have HR := Aside0.mk hR
  replace HBB := Aside0.mk (below_step HBB.out hb)
  clear hb hR HP hcp' hcell'
  go_wp2_with fail
  refine (aw_pallets w9).mono ?_
  rintro e w10 ⟨rfl, hb⟩
  replace HA := Aside0.mk (And.intro (Kd.C_below HA.out.1 hb) HA.out.2)
  replace HC := Aside0.mk (And.intro (Kd.C_below HC.out.1 hb) HC.out.2)
  replace HD := Aside0.mk (And.intro (Kd.C_below HD.out.1 hb) HD.out.2)
  replace HR := Aside0.mk (And.intro (Kd.C_below HR.out.1 hb) HR.out.2)
  replace HBB := Aside0.mk (below_step HBB.out hb)
  clear hb
  obtain ⟨ada, Aq, cq, rfl, hcell, hcq, hCq⟩ := at_T38 HA.out.1 0 (by decide) (by decide)
  have HQ : Aside0 (w10.cell? ada = some (.slice Aq 2 cq) ∧ 2 ≤ cq ∧ k43.C w10 Aq 2 awP) := ⟨hcell, hcq, hCq⟩
  clear hcell hcq hCq HA
  go_wp2
  refine Mono.start (fun ops hops => ?_)
  have HOPS := Aside0.mk hops
  clear hops
  have hB0 : okB ops 145 = true := by rw [HOPS.out]; kernel_rfl
  refine Reg.wp (Φ := awF ada ca Ab cb adc cc Ar cr Aq cq) (Inv := awI w ada ca Ab cb adc cc Ar cr Aq cq) (Reg.ofB rfl hB0 (fun i v w w' => awF_mono i v w w') (fun w w' => awI_mono w w') ?_) (by kernel_rfl) ⟨HQ.out.1, HQ.out.2.1, HQ.out.2.2, HC.out.1, HC.out.2, HD.out.1, HD.out.2, HR.out.1, HR.out.2, below_drew HBB.out⟩ ?_
  · intro i o d ho hd a w hf hI hk
    have hN : a.tmps.size = 145 := hf.size.trans rfl
    have hi : i < 36 := by
      have := (Array.getElem?_eq_some_iff.1 ho).1
      rw [HOPS.out] at this
      exact this
    obtain rfl | rfl | rfl | rfl | rfl | rfl | rfl | rfl | rfl | rfl | rfl | rfl | rfl | rfl | rfl | rfl | rfl | rfl | rfl | rfl | rfl | rfl | rfl | rfl | rfl | rfl | rfl | rfl | rfl | rfl | rfl | rfl | rfl | rfl | rfl | rfl : i = 0 ∨ i = 1 ∨ i = 2 ∨ i = 3 ∨ i = 4 ∨ i = 5 ∨ i = 6 ∨ i = 7 ∨ i = 8 ∨ i = 9 ∨ i = 10 ∨ i = 11 ∨ i = 12 ∨ i = 13 ∨ i = 14 ∨ i = 15 ∨ i = 16 ∨ i = 17 ∨ i = 18 ∨ i = 19 ∨ i = 20 ∨ i = 21 ∨ i = 22 ∨ i = 23 ∨ i = 24 ∨ i = 25 ∨ i = 26 ∨ i = 27 ∨ i = 28 ∨ i = 29 ∨ i = 30 ∨ i = 31 ∨ i = 32 ∨ i = 33 ∨ i = 34 ∨ i = 35 := by omega
    · -- operation 0
      have h := ho
      rw [HOPS.out] at ho
      simp only [List.getElem?_toArray, List.getElem?_cons_succ, List.getElem?_cons_zero, Option.some.injEq] at ho
      subst ho
      obtain rfl := Option.some.inj hd
      have b2 : a.tmps.getD 2 undef = .slice (some ada) 1 ca := (hf.same 2 (by rw [HOPS.out]; exact not_dst (by kernel_rfl))).trans rfl
      exact step_value h rfl (wanted_none rfl) (run_move rfl) b2 (Below.refl _ _)
    · -- operation 1
      have h := ho
      rw [HOPS.out] at ho
      simp only [List.getElem?_toArray, List.getElem?_cons_succ, List.getElem?_cons_zero, Option.some.injEq] at ho
      subst ho
      obtain rfl := Option.some.inj hd
      have e0 : a.tmps.getD 110 undef = .slice (some ada) 1 ca := (hk 0 (by kernel_rfl)).out (d := 110) (by rw [HOPS.out]; rfl)
      refine step_value h rfl (wanted_none rfl) (v := .pointer (some ada)) (w1 := w) ?_ rfl (Below.refl _ _)
      clear hk h
      go_simp
    · -- operation 2
      have h := ho
      rw [HOPS.out] at ho
      simp only [List.getElem?_toArray, List.getElem?_cons_succ, List.getElem?_cons_zero, Option.some.injEq] at ho
      subst ho
      obtain rfl := Option.some.inj hd
      have e1 : a.tmps.getD 111 undef = .pointer (some ada) := (hk 1 (by kernel_rfl)).out (d := 111) (by rw [HOPS.out]; rfl)
      refine step_value h rfl (wanted_none rfl) (v := .pointer (some ada)) (w1 := w) ?_ rfl (Below.refl _ _)
      clear hk h
      go_simp
    · -- operation 3
      have h := ho
      rw [HOPS.out] at ho
      simp only [List.getElem?_toArray, List.getElem?_cons_succ, List.getElem?_cons_zero, Option.some.injEq] at ho
      subst ho
      obtain rfl := Option.some.inj hd
      have e2 : a.tmps.getD 112 undef = .pointer (some ada) := (hk 2 (by kernel_rfl)).out (d := 112) (by rw [HOPS.out]; rfl)
      have hcell := hI.1
      refine step_value h rfl (wanted_none rfl) (v := .slice Aq 2 cq) (w1 := w) ?_ rfl (Below.refl _ _)
      clear hk h
      go_simp
    · -- operation 4
      have h := ho
      rw [HOPS.out] at ho
      simp only [List.getElem?_toArray, List.getElem?_cons_succ, List.getElem?_cons_zero, Option.some.injEq] at ho
      subst ho
      obtain rfl := Option.some.inj hd
      exact step_call h rfl (wanted_none rfl) Try.func26 (by kernel_rfl) rfl #[.int .i64 7, .int .i64 0, .int .i64 4] rfl (by simp only [List.map_toArray, List.map_cons, List.map_nil, Act.eval]) ((aw_batch 7 0 4 w).mono fun e w' ⟨he, hb⟩ => ⟨_, he, rfl, hb⟩)
    · -- operation 5
      have h := ho
      rw [HOPS.out] at ho
      simp only [List.getElem?_toArray, List.getElem?_cons_succ, List.getElem?_cons_zero, Option.some.injEq] at ho
      subst ho
      obtain rfl := Option.some.inj hd
      exact step_call h rfl (wanted_none rfl) Try.func26 (by kernel_rfl) rfl #[.int .i64 9, .int .i64 10, .int .i64 11] rfl (by simp only [List.map_toArray, List.map_cons, List.map_nil, Act.eval]) ((aw_batch 9 10 11 w).mono fun e w' ⟨he, hb⟩ => ⟨_, he, rfl, hb⟩)
    · -- operation 6
      have h := ho
      rw [HOPS.out] at ho
      simp only [List.getElem?_toArray, List.getElem?_cons_succ, List.getElem?_cons_zero, Option.some.injEq] at ho
      subst ho
      obtain rfl := Option.some.inj hd
      have e4 : a.tmps.getD 114 undef = .agg #[.int .i64 7, .int .i64 0, .int .i64 4] := (hk 4 (by kernel_rfl)).out (d := 114) (by rw [HOPS.out]; rfl)
      have e5 : a.tmps.getD 115 undef = .agg #[.int .i64 9, .int .i64 10, .int .i64 11] := (hk 5 (by kernel_rfl)).out (d := 115) (by rw [HOPS.out]; rfl)
      refine step_value h rfl (wanted_none rfl) (v := (.slice (some ⟨w.heap.size, 0, none⟩) 2 2)) (w1 := (w.alloc (.cells #[.int .i64 7, .int .i64 0, .int .i64 4, .int .i64 9, .int .i64 10, .int .i64 11] 43))) ?_ ⟨_, _, rfl, Nat.le_refl _, C_batches awP (by decide) (heap_alloc_new w _) rfl⟩ (below_alloc (Below.refl _ _) _)
      have q4 := getq hN (by decide) e4
      have q5 := getq hN (by decide) e5
      clear hk h hN hf hI
      go_simp
    · -- operation 7
      have h := ho
      rw [HOPS.out] at ho
      simp only [List.getElem?_toArray, List.getElem?_cons_succ, List.getElem?_cons_zero, Option.some.injEq] at ho
      subst ho
      obtain rfl := Option.some.inj hd
      have e3 : a.tmps.getD 113 undef = .slice Aq 2 cq := (hk 3 (by kernel_rfl)).out (d := 113) (by rw [HOPS.out]; rfl)
      have e6 : ∃ A c, a.tmps.getD 116 undef = .slice A 2 c ∧ 2 ≤ c ∧ k43.C w A 2 awP := (hk 6 (by kernel_rfl)).out (d := 116) (by rw [HOPS.out]; rfl)
      obtain ⟨A6, c6, e6, hc6, hC6⟩ := e6
      exact step_call h rfl (wanted_none rfl) Try.func14 (by kernel_rfl) rfl #[.slice Aq 2 cq, .slice A6 2 c6] rfl (by simp only [List.map_toArray, List.map_cons, List.map_nil, Act.eval, e3, e6]) ((aw_batches2 Aq cq A6 c6 awP w hI.2.2.1 hI.2.1 hC6 hc6 rfl (by kernel_rfl)).mono fun e w' ⟨he, hb⟩ => ⟨_, he, rfl, hb⟩)
    · -- operation 8
      have h := ho
      rw [HOPS.out] at ho
      simp only [List.getElem?_toArray, List.getElem?_cons_succ, List.getElem?_cons_zero, Option.some.injEq] at ho
      subst ho
      obtain rfl := Option.some.inj hd
      have e7 : a.tmps.getD 117 undef = .bool true := (hk 7 (by kernel_rfl)).out (d := 117) (by rw [HOPS.out]; rfl)
      exact step_value h rfl (wanted_none rfl) (run_move rfl) e7 (Below.refl _ _)
    · -- operation 9
      have h := ho
      rw [HOPS.out] at ho
      simp only [List.getElem?_toArray, List.getElem?_cons_succ, List.getElem?_cons_zero, Option.some.injEq] at ho
      subst ho
      obtain rfl := Option.some.inj hd
      have e8 : a.tmps.getD 118 undef = .bool true := (hk 8 (by kernel_rfl)).out (d := 118) (by rw [HOPS.out]; rfl)
      have b3 : a.tmps.getD 3 undef = .slice Ab 2 cb := (hf.same 3 (by rw [HOPS.out]; exact not_dst (by kernel_rfl))).trans rfl
      exact step_value h rfl (wanted_some rfl (show dstOf ops 8 = some 118 by rw [HOPS.out]; rfl) (by rw [hN]; decide) e8) (run_move rfl) b3 (Below.refl _ _)
    · -- operation 10
      have h := ho
      rw [HOPS.out] at ho
      simp only [List.getElem?_toArray, List.getElem?_cons_succ, List.getElem?_cons_zero, Option.some.injEq] at ho
      subst ho
      obtain rfl := Option.some.inj hd
      have e8 : a.tmps.getD 118 undef = .bool true := (hk 8 (by kernel_rfl)).out (d := 118) (by rw [HOPS.out]; rfl)
      exact step_call h rfl (wanted_some rfl (show dstOf ops 8 = some 118 by rw [HOPS.out]; rfl) (by rw [hN]; decide) e8) Try.func26 (by kernel_rfl) rfl #[.int .i64 9, .int .i64 11, .int .i64 12] rfl (by simp only [List.map_toArray, List.map_cons, List.map_nil, Act.eval]) ((aw_batch 9 11 12 w).mono fun e w' ⟨he, hb⟩ => ⟨_, he, rfl, hb⟩)
    · -- operation 11
      have h := ho
      rw [HOPS.out] at ho
      simp only [List.getElem?_toArray, List.getElem?_cons_succ, List.getElem?_cons_zero, Option.some.injEq] at ho
      subst ho
      obtain rfl := Option.some.inj hd
      have e8 : a.tmps.getD 118 undef = .bool true := (hk 8 (by kernel_rfl)).out (d := 118) (by rw [HOPS.out]; rfl)
      exact step_call h rfl (wanted_some rfl (show dstOf ops 8 = some 118 by rw [HOPS.out]; rfl) (by rw [hN]; decide) e8) Try.func26 (by kernel_rfl) rfl #[.int .i64 7, .int .i64 4, .int .i64 7] rfl (by simp only [List.map_toArray, List.map_cons, List.map_nil, Act.eval]) ((aw_batch 7 4 7 w).mono fun e w' ⟨he, hb⟩ => ⟨_, he, rfl, hb⟩)
    · -- operation 12
      have h := ho
      rw [HOPS.out] at ho
      simp only [List.getElem?_toArray, List.getElem?_cons_succ, List.getElem?_cons_zero, Option.some.injEq] at ho
      subst ho
      obtain rfl := Option.some.inj hd
      have e8 : a.tmps.getD 118 undef = .bool true := (hk 8 (by kernel_rfl)).out (d := 118) (by rw [HOPS.out]; rfl)
      have e10 : a.tmps.getD 120 undef = .agg #[.int .i64 9, .int .i64 11, .int .i64 12] := (hk 10 (by kernel_rfl)).out (d := 120) (by rw [HOPS.out]; rfl)
      have e11 : a.tmps.getD 121 undef = .agg #[.int .i64 7, .int .i64 4, .int .i64 7] := (hk 11 (by kernel_rfl)).out (d := 121) (by rw [HOPS.out]; rfl)
      refine step_value h rfl (wanted_some rfl (show dstOf ops 8 = some 118 by rw [HOPS.out]; rfl) (by rw [hN]; decide) e8) (v := (.slice (some ⟨w.heap.size, 0, none⟩) 2 2)) (w1 := (w.alloc (.cells #[.int .i64 9, .int .i64 11, .int .i64 12, .int .i64 7, .int .i64 4, .int .i64 7] 43))) ?_ ⟨_, _, rfl, Nat.le_refl _, C_batches awB (by decide) (heap_alloc_new w _) rfl⟩ (below_alloc (Below.refl _ _) _)
      have q10 := getq hN (by decide) e10
      have q11 := getq hN (by decide) e11
      clear hk h hN hf hI
      go_simp
    · -- operation 13
      have h := ho
      rw [HOPS.out] at ho
      simp only [List.getElem?_toArray, List.getElem?_cons_succ, List.getElem?_cons_zero, Option.some.injEq] at ho
      subst ho
      obtain rfl := Option.some.inj hd
      have e8 : a.tmps.getD 118 undef = .bool true := (hk 8 (by kernel_rfl)).out (d := 118) (by rw [HOPS.out]; rfl)
      have e9 : a.tmps.getD 119 undef = .slice Ab 2 cb := (hk 9 (by kernel_rfl)).out (d := 119) (by rw [HOPS.out]; rfl)
      have e12 : ∃ A c, a.tmps.getD 122 undef = .slice A 2 c ∧ 2 ≤ c ∧ k43.C w A 2 awB := (hk 12 (by kernel_rfl)).out (d := 122) (by rw [HOPS.out]; rfl)
      obtain ⟨A12, c12, e12, hc12, hC12⟩ := e12
      exact step_call h rfl (wanted_some rfl (show dstOf ops 8 = some 118 by rw [HOPS.out]; rfl) (by rw [hN]; decide) e8) Try.func14 (by kernel_rfl) rfl #[.slice Ab 2 cb, .slice A12 2 c12] rfl (by simp only [List.map_toArray, List.map_cons, List.map_nil, Act.eval, e9, e12]) ((aw_batches2 Ab cb A12 c12 awB w hI.2.2.2.1 hI.2.2.2.2.1 hC12 hc12 rfl (by kernel_rfl)).mono fun e w' ⟨he, hb⟩ => ⟨_, he, rfl, hb⟩)
    · -- operation 14
      have h := ho
      rw [HOPS.out] at ho
      simp only [List.getElem?_toArray, List.getElem?_cons_succ, List.getElem?_cons_zero, Option.some.injEq] at ho
      subst ho
      obtain rfl := Option.some.inj hd
      have e8 : a.tmps.getD 118 undef = .bool true := (hk 8 (by kernel_rfl)).out (d := 118) (by rw [HOPS.out]; rfl)
      have e13 : a.tmps.getD 123 undef = .bool true := (hk 13 (by kernel_rfl)).out (d := 123) (by rw [HOPS.out]; rfl)
      exact step_value h rfl (wanted_none rfl) (run_pick rfl e8) e13 (Below.refl _ _)
    · -- operation 15
      have h := ho
      rw [HOPS.out] at ho
      simp only [List.getElem?_toArray, List.getElem?_cons_succ, List.getElem?_cons_zero, Option.some.injEq] at ho
      subst ho
      obtain rfl := Option.some.inj hd
      have e14 : a.tmps.getD 124 undef = .bool true := (hk 14 (by kernel_rfl)).out (d := 124) (by rw [HOPS.out]; rfl)
      exact step_value h rfl (wanted_none rfl) (run_move rfl) e14 (Below.refl _ _)
    · -- operation 16
      have h := ho
      rw [HOPS.out] at ho
      simp only [List.getElem?_toArray, List.getElem?_cons_succ, List.getElem?_cons_zero, Option.some.injEq] at ho
      subst ho
      obtain rfl := Option.some.inj hd
      have e15 : a.tmps.getD 125 undef = .bool true := (hk 15 (by kernel_rfl)).out (d := 125) (by rw [HOPS.out]; rfl)
      have b5 : a.tmps.getD 5 undef = .slice (some adc) 3 cc := (hf.same 5 (by rw [HOPS.out]; exact not_dst (by kernel_rfl))).trans rfl
      exact step_value h rfl (wanted_some rfl (show dstOf ops 15 = some 125 by rw [HOPS.out]; rfl) (by rw [hN]; decide) e15) (run_move rfl) b5 (Below.refl _ _)
    · -- operation 17
      have h := ho
      rw [HOPS.out] at ho
      simp only [List.getElem?_toArray, List.getElem?_cons_succ, List.getElem?_cons_zero, Option.some.injEq] at ho
      subst ho
      obtain rfl := Option.some.inj hd
      have e15 : a.tmps.getD 125 undef = .bool true := (hk 15 (by kernel_rfl)).out (d := 125) (by rw [HOPS.out]; rfl)
      exact step_call h rfl (wanted_some rfl (show dstOf ops 15 = some 125 by rw [HOPS.out]; rfl) (by rw [hN]; decide) e15) Try.func26 (by kernel_rfl) rfl #[.int .i64 7, .int .i64 0, .int .i64 3] rfl (by simp only [List.map_toArray, List.map_cons, List.map_nil, Act.eval]) ((aw_batch 7 0 3 w).mono fun e w' ⟨he, hb⟩ => ⟨_, he, rfl, hb⟩)
    · -- operation 18
      have h := ho
      rw [HOPS.out] at ho
      simp only [List.getElem?_toArray, List.getElem?_cons_succ, List.getElem?_cons_zero, Option.some.injEq] at ho
      subst ho
      obtain rfl := Option.some.inj hd
      have e15 : a.tmps.getD 125 undef = .bool true := (hk 15 (by kernel_rfl)).out (d := 125) (by rw [HOPS.out]; rfl)
      have e17 : a.tmps.getD 127 undef = .agg #[.int .i64 7, .int .i64 0, .int .i64 3] := (hk 17 (by kernel_rfl)).out (d := 127) (by rw [HOPS.out]; rfl)
      refine step_value h rfl (wanted_some rfl (show dstOf ops 15 = some 125 by rw [HOPS.out]; rfl) (by rw [hN]; decide) e15) (v := (.slice (some ⟨w.heap.size, 0, none⟩) 1 1)) (w1 := (w.alloc (.cells #[.int .i64 7, .int .i64 0, .int .i64 3] 43))) ?_ ⟨_, _, rfl, Nat.le_refl _, C_batches aw1 (by decide) (heap_alloc_new w _) rfl⟩ (below_alloc (Below.refl _ _) _)
      have q17 := getq hN (by decide) e17
      clear hk h hN hf hI
      go_simp
    · -- operation 19
      have h := ho
      rw [HOPS.out] at ho
      simp only [List.getElem?_toArray, List.getElem?_cons_succ, List.getElem?_cons_zero, Option.some.injEq] at ho
      subst ho
      obtain rfl := Option.some.inj hd
      have e15 : a.tmps.getD 125 undef = .bool true := (hk 15 (by kernel_rfl)).out (d := 125) (by rw [HOPS.out]; rfl)
      have e18 : ∃ A c, a.tmps.getD 128 undef = .slice A 1 c ∧ 1 ≤ c ∧ k43.C w A 1 aw1 := (hk 18 (by kernel_rfl)).out (d := 128) (by rw [HOPS.out]; rfl)
      obtain ⟨A18, c18, e18, hc18, hC18⟩ := e18
      refine step_value h rfl (wanted_some rfl (show dstOf ops 15 = some 125 by rw [HOPS.out]; rfl) (by rw [hN]; decide) e15) (v := .agg #[.slice A18 1 c18]) (w1 := w) ?_ ⟨A18, c18, rfl, hc18, hC18⟩ (Below.refl _ _)
      have q18 := getq hN (by decide) e18
      clear hk h hN hf hI
      go_simp
    · -- operation 20
      have h := ho
      rw [HOPS.out] at ho
      simp only [List.getElem?_toArray, List.getElem?_cons_succ, List.getElem?_cons_zero, Option.some.injEq] at ho
      subst ho
      obtain rfl := Option.some.inj hd
      have e15 : a.tmps.getD 125 undef = .bool true := (hk 15 (by kernel_rfl)).out (d := 125) (by rw [HOPS.out]; rfl)
      exact step_call h rfl (wanted_some rfl (show dstOf ops 15 = some 125 by rw [HOPS.out]; rfl) (by rw [hN]; decide) e15) Try.func26 (by kernel_rfl) rfl #[.int .i64 7, .int .i64 3, .int .i64 4] rfl (by simp only [List.map_toArray, List.map_cons, List.map_nil, Act.eval]) ((aw_batch 7 3 4 w).mono fun e w' ⟨he, hb⟩ => ⟨_, he, rfl, hb⟩)
    · -- operation 21
      have h := ho
      rw [HOPS.out] at ho
      simp only [List.getElem?_toArray, List.getElem?_cons_succ, List.getElem?_cons_zero, Option.some.injEq] at ho
      subst ho
      obtain rfl := Option.some.inj hd
      have e15 : a.tmps.getD 125 undef = .bool true := (hk 15 (by kernel_rfl)).out (d := 125) (by rw [HOPS.out]; rfl)
      exact step_call h rfl (wanted_some rfl (show dstOf ops 15 = some 125 by rw [HOPS.out]; rfl) (by rw [hN]; decide) e15) Try.func26 (by kernel_rfl) rfl #[.int .i64 9, .int .i64 10, .int .i64 12] rfl (by simp only [List.map_toArray, List.map_cons, List.map_nil, Act.eval]) ((aw_batch 9 10 12 w).mono fun e w' ⟨he, hb⟩ => ⟨_, he, rfl, hb⟩)
    · -- operation 22
      have h := ho
      rw [HOPS.out] at ho
      simp only [List.getElem?_toArray, List.getElem?_cons_succ, List.getElem?_cons_zero, Option.some.injEq] at ho
      subst ho
      obtain rfl := Option.some.inj hd
      have e15 : a.tmps.getD 125 undef = .bool true := (hk 15 (by kernel_rfl)).out (d := 125) (by rw [HOPS.out]; rfl)
      have e20 : a.tmps.getD 130 undef = .agg #[.int .i64 7, .int .i64 3, .int .i64 4] := (hk 20 (by kernel_rfl)).out (d := 130) (by rw [HOPS.out]; rfl)
      have e21 : a.tmps.getD 131 undef = .agg #[.int .i64 9, .int .i64 10, .int .i64 12] := (hk 21 (by kernel_rfl)).out (d := 131) (by rw [HOPS.out]; rfl)
      refine step_value h rfl (wanted_some rfl (show dstOf ops 15 = some 125 by rw [HOPS.out]; rfl) (by rw [hN]; decide) e15) (v := (.slice (some ⟨w.heap.size, 0, none⟩) 2 2)) (w1 := (w.alloc (.cells #[.int .i64 7, .int .i64 3, .int .i64 4, .int .i64 9, .int .i64 10, .int .i64 12] 43))) ?_ ⟨_, _, rfl, Nat.le_refl _, C_batches awD (by decide) (heap_alloc_new w _) rfl⟩ (below_alloc (Below.refl _ _) _)
      have q20 := getq hN (by decide) e20
      have q21 := getq hN (by decide) e21
      clear hk h hN hf hI
      go_simp
    · -- operation 23
      have h := ho
      rw [HOPS.out] at ho
      simp only [List.getElem?_toArray, List.getElem?_cons_succ, List.getElem?_cons_zero, Option.some.injEq] at ho
      subst ho
      obtain rfl := Option.some.inj hd
      have e15 : a.tmps.getD 125 undef = .bool true := (hk 15 (by kernel_rfl)).out (d := 125) (by rw [HOPS.out]; rfl)
      have e22 : ∃ A c, a.tmps.getD 132 undef = .slice A 2 c ∧ 2 ≤ c ∧ k43.C w A 2 awD := (hk 22 (by kernel_rfl)).out (d := 132) (by rw [HOPS.out]; rfl)
      obtain ⟨A22, c22, e22, hc22, hC22⟩ := e22
      refine step_value h rfl (wanted_some rfl (show dstOf ops 15 = some 125 by rw [HOPS.out]; rfl) (by rw [hN]; decide) e15) (v := .agg #[.slice A22 2 c22]) (w1 := w) ?_ ⟨A22, c22, rfl, hc22, hC22⟩ (Below.refl _ _)
      have q22 := getq hN (by decide) e22
      clear hk h hN hf hI
      go_simp
    · -- operation 24
      have h := ho
      rw [HOPS.out] at ho
      simp only [List.getElem?_toArray, List.getElem?_cons_succ, List.getElem?_cons_zero, Option.some.injEq] at ho
      subst ho
      obtain rfl := Option.some.inj hd
      have e15 : a.tmps.getD 125 undef = .bool true := (hk 15 (by kernel_rfl)).out (d := 125) (by rw [HOPS.out]; rfl)
      exact step_call h rfl (wanted_some rfl (show dstOf ops 15 = some 125 by rw [HOPS.out]; rfl) (by rw [hN]; decide) e15) Try.func26 (by kernel_rfl) rfl #[.int .i64 7, .int .i64 4, .int .i64 7] rfl (by simp only [List.map_toArray, List.map_cons, List.map_nil, Act.eval]) ((aw_batch 7 4 7 w).mono fun e w' ⟨he, hb⟩ => ⟨_, he, rfl, hb⟩)
    · -- operation 25
      have h := ho
      rw [HOPS.out] at ho
      simp only [List.getElem?_toArray, List.getElem?_cons_succ, List.getElem?_cons_zero, Option.some.injEq] at ho
      subst ho
      obtain rfl := Option.some.inj hd
      have e15 : a.tmps.getD 125 undef = .bool true := (hk 15 (by kernel_rfl)).out (d := 125) (by rw [HOPS.out]; rfl)
      have e24 : a.tmps.getD 134 undef = .agg #[.int .i64 7, .int .i64 4, .int .i64 7] := (hk 24 (by kernel_rfl)).out (d := 134) (by rw [HOPS.out]; rfl)
      refine step_value h rfl (wanted_some rfl (show dstOf ops 15 = some 125 by rw [HOPS.out]; rfl) (by rw [hN]; decide) e15) (v := (.slice (some ⟨w.heap.size, 0, none⟩) 1 1)) (w1 := (w.alloc (.cells #[.int .i64 7, .int .i64 4, .int .i64 7] 43))) ?_ ⟨_, _, rfl, Nat.le_refl _, C_batches aw3 (by decide) (heap_alloc_new w _) rfl⟩ (below_alloc (Below.refl _ _) _)
      have q24 := getq hN (by decide) e24
      clear hk h hN hf hI
      go_simp
    · -- operation 26
      have h := ho
      rw [HOPS.out] at ho
      simp only [List.getElem?_toArray, List.getElem?_cons_succ, List.getElem?_cons_zero, Option.some.injEq] at ho
      subst ho
      obtain rfl := Option.some.inj hd
      have e15 : a.tmps.getD 125 undef = .bool true := (hk 15 (by kernel_rfl)).out (d := 125) (by rw [HOPS.out]; rfl)
      have e25 : ∃ A c, a.tmps.getD 135 undef = .slice A 1 c ∧ 1 ≤ c ∧ k43.C w A 1 aw3 := (hk 25 (by kernel_rfl)).out (d := 135) (by rw [HOPS.out]; rfl)
      obtain ⟨A25, c25, e25, hc25, hC25⟩ := e25
      refine step_value h rfl (wanted_some rfl (show dstOf ops 15 = some 125 by rw [HOPS.out]; rfl) (by rw [hN]; decide) e15) (v := .agg #[.slice A25 1 c25]) (w1 := w) ?_ ⟨A25, c25, rfl, hc25, hC25⟩ (Below.refl _ _)
      have q25 := getq hN (by decide) e25
      clear hk h hN hf hI
      go_simp
    · -- operation 27
      have h := ho
      rw [HOPS.out] at ho
      simp only [List.getElem?_toArray, List.getElem?_cons_succ, List.getElem?_cons_zero, Option.some.injEq] at ho
      subst ho
      obtain rfl := Option.some.inj hd
      have e15 : a.tmps.getD 125 undef = .bool true := (hk 15 (by kernel_rfl)).out (d := 125) (by rw [HOPS.out]; rfl)
      have e19 : ∃ A c, a.tmps.getD 129 undef = .agg #[.slice A 1 c] ∧ 1 ≤ c ∧ k43.C w A 1 aw1 := (hk 19 (by kernel_rfl)).out (d := 129) (by rw [HOPS.out]; rfl)
      obtain ⟨A19, c19, e19, hc19, hC19⟩ := e19
      have e23 : ∃ A c, a.tmps.getD 133 undef = .agg #[.slice A 2 c] ∧ 2 ≤ c ∧ k43.C w A 2 awD := (hk 23 (by kernel_rfl)).out (d := 133) (by rw [HOPS.out]; rfl)
      obtain ⟨A23, c23, e23, hc23, hC23⟩ := e23
      have e26 : ∃ A c, a.tmps.getD 136 undef = .agg #[.slice A 1 c] ∧ 1 ≤ c ∧ k43.C w A 1 aw3 := (hk 26 (by kernel_rfl)).out (d := 136) (by rw [HOPS.out]; rfl)
      obtain ⟨A26, c26, e26, hc26, hC26⟩ := e26
      have hbw := below_alloc (Below.refl w.heap.size w) (.cells #[.slice A19 1 c19, .slice A23 2 c23, .slice A26 1 c26] 38)
      refine step_value h rfl (wanted_some rfl (show dstOf ops 15 = some 125 by rw [HOPS.out]; rfl) (by rw [hN]; decide) e15) (v := (.slice (some ⟨w.heap.size, 0, none⟩) 3 3)) (w1 := (w.alloc (.cells #[.slice A19 1 c19, .slice A23 2 c23, .slice A26 1 c26] 38))) ?_ ⟨_, _, rfl, Nat.le_refl _, C_lit awC [[.slice A19 1 c19], [.slice A23 2 c23], [.slice A26 1 c26]] (by decide) (heap_alloc_new w _) rfl (fun j x hx => by
        match j, hx with
        | 0, hx => obtain rfl := Option.some.inj hx; exact ⟨_, rfl, k38_mk _ ⟨aw1⟩ hc19 (Kd.C_below hC19 hbw)⟩
        | 1, hx => obtain rfl := Option.some.inj hx; exact ⟨_, rfl, k38_mk _ ⟨awD⟩ hc23 (Kd.C_below hC23 hbw)⟩
        | 2, hx => obtain rfl := Option.some.inj hx; exact ⟨_, rfl, k38_mk _ ⟨aw3⟩ hc26 (Kd.C_below hC26 hbw)⟩
        | j + 3, hx => simp [awC] at hx) (by intro c hc; simp at hc; rcases hc with rfl | rfl | rfl <;> rfl)⟩ hbw
      have q19 := getq hN (by decide) e19
      have q23 := getq hN (by decide) e23
      have q26 := getq hN (by decide) e26
      clear hk h hN hf hI
      go_simp
    · -- operation 28
      have h := ho
      rw [HOPS.out] at ho
      simp only [List.getElem?_toArray, List.getElem?_cons_succ, List.getElem?_cons_zero, Option.some.injEq] at ho
      subst ho
      obtain rfl := Option.some.inj hd
      have e15 : a.tmps.getD 125 undef = .bool true := (hk 15 (by kernel_rfl)).out (d := 125) (by rw [HOPS.out]; rfl)
      have e16 : a.tmps.getD 126 undef = .slice (some adc) 3 cc := (hk 16 (by kernel_rfl)).out (d := 126) (by rw [HOPS.out]; rfl)
      have e27 : ∃ A c, a.tmps.getD 137 undef = .slice A 3 c ∧ 3 ≤ c ∧ k38.C w A 3 awC := (hk 27 (by kernel_rfl)).out (d := 137) (by rw [HOPS.out]; rfl)
      obtain ⟨A27, c27, e27, hc27, hC27⟩ := e27
      exact step_call h rfl (wanted_some rfl (show dstOf ops 15 = some 125 by rw [HOPS.out]; rfl) (by rw [hN]; decide) e15) Try.func13 (by kernel_rfl) rfl #[.slice (some adc) 3 cc, .slice A27 3 c27] rfl (by simp only [List.map_toArray, List.map_cons, List.map_nil, Act.eval, e16, e27]) ((aw_same (some adc) cc A27 c27 w hI.2.2.2.2.2.1 hI.2.2.2.2.2.2.1 hC27 hc27).mono fun e w' ⟨he, hb⟩ => ⟨_, he, rfl, hb⟩)
    · -- operation 29
      have h := ho
      rw [HOPS.out] at ho
      simp only [List.getElem?_toArray, List.getElem?_cons_succ, List.getElem?_cons_zero, Option.some.injEq] at ho
      subst ho
      obtain rfl := Option.some.inj hd
      have e15 : a.tmps.getD 125 undef = .bool true := (hk 15 (by kernel_rfl)).out (d := 125) (by rw [HOPS.out]; rfl)
      have e28 : a.tmps.getD 138 undef = .bool true := (hk 28 (by kernel_rfl)).out (d := 138) (by rw [HOPS.out]; rfl)
      exact step_value h rfl (wanted_none rfl) (run_pick rfl e15) e28 (Below.refl _ _)
    · -- operation 30
      have h := ho
      rw [HOPS.out] at ho
      simp only [List.getElem?_toArray, List.getElem?_cons_succ, List.getElem?_cons_zero, Option.some.injEq] at ho
      subst ho
      obtain rfl := Option.some.inj hd
      have e29 : a.tmps.getD 139 undef = .bool true := (hk 29 (by kernel_rfl)).out (d := 139) (by rw [HOPS.out]; rfl)
      exact step_value h rfl (wanted_none rfl) (run_move rfl) e29 (Below.refl _ _)
    · -- operation 31
      have h := ho
      rw [HOPS.out] at ho
      simp only [List.getElem?_toArray, List.getElem?_cons_succ, List.getElem?_cons_zero, Option.some.injEq] at ho
      subst ho
      obtain rfl := Option.some.inj hd
      have e30 : a.tmps.getD 140 undef = .bool true := (hk 30 (by kernel_rfl)).out (d := 140) (by rw [HOPS.out]; rfl)
      have b14 : a.tmps.getD 14 undef = .slice Ar 2 cr := (hf.same 14 (by rw [HOPS.out]; exact not_dst (by kernel_rfl))).trans rfl
      exact step_value h rfl (wanted_some rfl (show dstOf ops 30 = some 140 by rw [HOPS.out]; rfl) (by rw [hN]; decide) e30) (run_move rfl) b14 (Below.refl _ _)
    · -- operation 32
      have h := ho
      rw [HOPS.out] at ho
      simp only [List.getElem?_toArray, List.getElem?_cons_succ, List.getElem?_cons_zero, Option.some.injEq] at ho
      subst ho
      obtain rfl := Option.some.inj hd
      have e30 : a.tmps.getD 140 undef = .bool true := (hk 30 (by kernel_rfl)).out (d := 140) (by rw [HOPS.out]; rfl)
      refine step_value h rfl (wanted_some rfl (show dstOf ops 30 = some 140 by rw [HOPS.out]; rfl) (by rw [hN]; decide) e30) (v := (.slice (some ⟨w.heap.size, 0, none⟩) 2 2)) (w1 := (w.alloc (.cells #[.int .i64 7, .int .i64 9] 3))) ?_ ⟨_, _, rfl, Nat.le_refl _, C_lit awR [[.int .i64 7], [.int .i64 9]] (by decide) (heap_alloc_new w _) rfl (fun j x hx => by
        match j, hx with
        | 0, hx => obtain rfl := Option.some.inj hx; exact ⟨_, rfl, rfl⟩
        | 1, hx => obtain rfl := Option.some.inj hx; exact ⟨_, rfl, rfl⟩
        | j + 2, hx => simp [awR] at hx) (by intro c hc; simp at hc; rcases hc with rfl | rfl <;> rfl)⟩ (below_alloc (Below.refl _ _) _)
      clear hk h hN hf hI
      go_simp
    · -- operation 33
      have h := ho
      rw [HOPS.out] at ho
      simp only [List.getElem?_toArray, List.getElem?_cons_succ, List.getElem?_cons_zero, Option.some.injEq] at ho
      subst ho
      obtain rfl := Option.some.inj hd
      have e30 : a.tmps.getD 140 undef = .bool true := (hk 30 (by kernel_rfl)).out (d := 140) (by rw [HOPS.out]; rfl)
      have e31 : a.tmps.getD 141 undef = .slice Ar 2 cr := (hk 31 (by kernel_rfl)).out (d := 141) (by rw [HOPS.out]; rfl)
      have e32 : ∃ A c, a.tmps.getD 142 undef = .slice A 2 c ∧ 2 ≤ c ∧ (Kd.int .i64).C w A 2 awR := (hk 32 (by kernel_rfl)).out (d := 142) (by rw [HOPS.out]; rfl)
      obtain ⟨A32, c32, e32, hc32, hC32⟩ := e32
      exact step_call h rfl (wanted_some rfl (show dstOf ops 30 = some 140 by rw [HOPS.out]; rfl) (by rw [hN]; decide) e30) Try.func25 (by kernel_rfl) rfl #[.slice Ar 2 cr, .slice A32 2 c32] rfl (by simp only [List.map_toArray, List.map_cons, List.map_nil, Act.eval, e31, e32]) ((aw_ints Ar cr A32 c32 w hI.2.2.2.2.2.2.2.1 hI.2.2.2.2.2.2.2.2.1 hC32 hc32).mono fun e w' ⟨he, hb⟩ => ⟨_, he, rfl, hb⟩)
    · -- operation 34
      have h := ho
      rw [HOPS.out] at ho
      simp only [List.getElem?_toArray, List.getElem?_cons_succ, List.getElem?_cons_zero, Option.some.injEq] at ho
      subst ho
      obtain rfl := Option.some.inj hd
      have e30 : a.tmps.getD 140 undef = .bool true := (hk 30 (by kernel_rfl)).out (d := 140) (by rw [HOPS.out]; rfl)
      have e33 : a.tmps.getD 143 undef = .bool true := (hk 33 (by kernel_rfl)).out (d := 143) (by rw [HOPS.out]; rfl)
      exact step_value h rfl (wanted_none rfl) (run_pick rfl e30) e33 (Below.refl _ _)
    · -- operation 35
      have h := ho
      rw [HOPS.out] at ho
      simp only [List.getElem?_toArray, List.getElem?_cons_succ, List.getElem?_cons_zero, Option.some.injEq] at ho
      subst ho
      obtain rfl := Option.some.inj hd
      have e34 : a.tmps.getD 144 undef = .bool true := (hk 34 (by kernel_rfl)).out (d := 144) (by rw [HOPS.out]; rfl)
      exact step_value h rfl (wanted_none rfl) (run_assign rfl) e34 (Below.refl _ _)
  · intro a w' hf hI hk
    have e0 : a.tmps.getD 0 undef = .bool true := (hk 35 (by rw [HOPS.out]; decide)).out (d := 0) (by rw [HOPS.out]; rfl)
    have hbw := hI.2.2.2.2.2.2.2.2.2
    have q0 := getq (hf.size.trans rfl : a.tmps.size = 145) (by decide) e0
    have hd0 := hf.defers
    clear hI hk hf
    go_wp2
    exact ⟨hd0, .bool true, by simp [results, Try.results10, go_sem, q0], rfl, hbw⟩
def papermilllaw53_awake.f : Option Bool := some true
theorem papermilllaw53_awake.calls (r : Bool) (w : World) (h : papermilllaw53_awake.f = some r) : Calls Try.prog 10 #[] w fun e w' => e = .returned (.bool r) ∧ Below w.heap.size w w' := by
  obtain rfl := Option.some.inj (show some true = some r from h)
  exact aw_all w

end Go.Proofs.Ytakoklgmhglpbaa.Q
