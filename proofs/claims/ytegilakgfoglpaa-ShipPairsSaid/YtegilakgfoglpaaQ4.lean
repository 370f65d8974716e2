/- Plain Lean functions of the Go functions, and proofs that the Go calls come to them; laid out by this session's program wip/tools/hp.py. -/
import Derived.Test.YtegilakgfoglpaaQ0
import Derived.Test.YtegilakgfoglpaaQ2
import Derived.Test.YtegilakgfoglpaaQ3
namespace Go.Proofs.Ytegilakgfoglpaa.Q
open Go.RowKit Go.Proofs.YtegilakgfoglpaaW.PrintWords Go.Proofs.YtegilakgfoglpaaW.PrintLast Go.Proofs.YtegilakgfoglpaaW.PrintMore
attribute [local go_sem] max2_int min2_int max_two min_two max_three min_three max_four min_four   -- for this text's walks alone
set_option linter.unusedVariables false
set_option linter.unusedSimpArgs false

/-! ### ship_Load: function 16, by hand -/
set_option maxHeartbeats 1000000 in
theorem clone_calls (A : Option Addr) (c : Nat) (l : List Int) (w : World) (hr : Kd.C (Kd.int .i64) w A l.length l) (hc : l.length ≤ c) (hs : l.length < 1000) :
    Calls Try.prog 32 #[.slice A l.length c] w fun e w' => ∃ v0_ : Value, e = .returned v0_ ∧ Kd.R (Kd.int .i64) 3 w' w.heap.size (fun _ => True) v0_ l ∧ Below w.heap.size w w' := by
  have HR := Aside0.mk hr
  have HC := Aside0.mk hc
  have HS := Aside0.mk hs
  have he : ∀ W : World, (binOp .eql 37 (.slice A l.length c) (.slice none 0 0)).run Try.prog W = .ok (.bool A.isNone) W := fun W => Lib.run_eql_slice_nil W 37 3 _ _ _ _ _ Try.underlying37
  cases A with
  | none =>
    have hl : l = [] := by
      by_cases h0 : 0 < l.length
      · obtain ⟨ad, e, _⟩ := Kd.at_int hr 0 (by omega) (by omega)
        cases e
      · exact List.eq_nil_of_length_eq_zero (by omega)
    clear hr hc hs
    have HL := Aside0.mk hl
    clear hl
    go_enter Try.func32, Try.ntmps32
    go_wp2
    go_ret
    exact ⟨_, rfl, by rw [HL.out]; exact Kd.R_nil _ _ _ _ _, Below.refl _ _⟩
  | some ad =>
    clear hr hc hs
    go_enter Try.func32, Try.ntmps32
    go_wp2_with (first | ((with_reducible refine gate_dst (N := 5) rfl ?_); refine Kd.R_lit (Kd.int .i64) _ 3 ?hg (N := 5) ?hd (xs := ([] : List Int)) (inner := []) (ok := fun _ => True) (okp := fun _ => True) ?hr ?hp (fun _ hk => hk) trivial (Below.refl _ _) (Nat.le_refl _) (by simp) ?_; (case hd => rfl); (case hg => rfl); (case hr => first | (go_simp; done) | (go_simp; rfl)); (case hp => exact (Reps.none _ _)); intro v1 w1 ho hb hg_ hnew_; clear hg_ hnew_; have HO := Aside0.mk ho; have HB := Aside0.mk hb; clear ho hb) | ((with_reducible refine gate_builtin (b := .append) (xs := #[.tmp 5, .tmp 6]) rfl ?_); at_builtin; refine Kd.R_append_rows (Kd.int .i64) (w0 := w) w.heap.size rfl (.tmp 5) (.tmp 6) 37 3 (.int .i64 0) 8 rfl Try.underlying37 info3 rfl (by decide) (by omega) v1 [] l _ _ _ (fun _ => True) (fun _ => False) rfl rfl ?aO ?aR (fun _ _ h => h) (fun _ h => h.elim) (fun _ _ => trivial) ?aB ?aS ?aL ?_; (case aR => exact Kd.C_below HR.out HB.out); (case aB => exact HB.out); (case aO => exact HO.out); (case aS => exact below_size HB.out); (case aL => have := HS.out; simp; omega); intro v2 w2 ho hb hg hat; clear hg hat; have HO2 := Aside0.mk ho; have HB2 := Aside0.mk hb; clear ho hb))
    go_ret
    exact ⟨_, rfl, HO2.out, HB2.out⟩

/-- What the search keeps: the best loading, its trucks, the loading so far, what each of its trucks may still carry. -/
structure LSt where
  best : List Int
  least : Int
  which : List Int
  free : List Int
/-- The search's memory: four variables of its own, and what it captures besides. -/
structure LM (W0 : World) (A : Option Addr) (c : Nat) (l : List S39) (most : Int) (pf ps pl pw pb pg pm : Nat) (vf vw vb : Value) (w : World) (s : LSt) : Prop where
  f : w.heap[pf]? = some (.cells #[vf] 37 (0, 0))
  wh : w.heap[pw]? = some (.cells #[vw] 37 (0, 0))
  be : w.heap[pb]? = some (.cells #[vb] 37 (0, 0))
  le : w.heap[ps]? = some (.cells #[.int .i64 s.least] 3 (0, 0))
  ll : w.heap[pl]? = some (.cells #[.slice A l.length c] 30 (0, 0))
  g : w.heap[pg]? = some (.cells #[.func (.func 31) #[] #[.pointer (some ⟨pf, 0, none⟩), .pointer (some ⟨ps, 0, none⟩), .pointer (some ⟨pl, 0, none⟩), .pointer (some ⟨pw, 0, none⟩), .pointer (some ⟨pb, 0, none⟩), .pointer (some ⟨pg, 0, none⟩), .pointer (some ⟨pm, 0, none⟩)]] 52 (0, 0))
  m : w.heap[pm]? = some (.cells #[.int .i64 most] 3 (0, 0))
  rf : Kd.R (Kd.int .i64) 3 w W0.heap.size (fun k => some k ≠ vw.ownBlock ∧ some k ≠ vb.ownBlock ∧ k ≠ ps ∧ k ≠ pm) vf s.free
  rw : Kd.R (Kd.int .i64) 3 w W0.heap.size (fun k => some k ≠ vf.ownBlock ∧ some k ≠ vb.ownBlock ∧ k ≠ ps ∧ k ≠ pm) vw s.which
  rb : Kd.R (Kd.int .i64) 3 w W0.heap.size (fun k => some k ≠ vf.ownBlock ∧ some k ≠ vw.ownBlock ∧ k ≠ ps ∧ k ≠ pm) vb s.best
  b : Below W0.heap.size W0 w
  ge : W0.heap.size ≤ pf ∧ W0.heap.size ≤ ps ∧ W0.heap.size ≤ pw ∧ W0.heap.size ≤ pb
  ne : pf ≠ pw ∧ pf ≠ pb ∧ pw ≠ pb ∧ ps ≠ pm
section
variable {W0 : World} {A : Option Addr} {c : Nat} {l : List S39} {most : Int} {pf ps pl pw pb pg pm : Nat} {vf vw vb : Value} {w w' : World} {s : LSt}
theorem LM.below (h : LM W0 A c l most pf ps pl pw pb pg pm vf vw vb w s) (hb : Below w.heap.size w w') : LM W0 A c l most pf ps pl pw pb pg pm vf vw vb w' s :=
  ⟨blk_below h.f hb, blk_below h.wh hb, blk_below h.be hb, blk_below h.le hb, blk_below h.ll hb, blk_below h.g hb, blk_below h.m hb, Kd.R_below h.rf hb, Kd.R_below h.rw hb, Kd.R_below h.rb hb, below_step h.b hb, h.ge, h.ne⟩
theorem LM.drew (h : LM W0 A c l most pf ps pl pw pb pg pm vf vw vb w s) : LM W0 A c l most pf ps pl pw pb pg pm vf vw vb w.drew s := h.below (below_drew1 (Below.refl _ _))
/-- A row (a block of numbers) of the search's own is written: what is not that row stays. -/
theorem LM.rest {gx : Nat} (h : LM W0 A c l most pf ps pl pw pb pg pm vf vw vb w s) (hg : w.grownBy w' (some gx)) (hx : ∃ cs, w.heap[gx]? = some (.cells cs 3 (0, 0))) (hs : gx ≠ ps) (hm : gx ≠ pm) (h0 : W0.heap.size ≤ gx) :
    w'.heap[pf]? = some (.cells #[vf] 37 (0, 0)) ∧ w'.heap[pw]? = some (.cells #[vw] 37 (0, 0)) ∧ w'.heap[pb]? = some (.cells #[vb] 37 (0, 0)) ∧ w'.heap[ps]? = some (.cells #[.int .i64 s.least] 3 (0, 0)) ∧ w'.heap[pl]? = some (.cells #[.slice A l.length c] 30 (0, 0)) ∧ w'.heap[pg]? = some (.cells #[.func (.func 31) #[] #[.pointer (some ⟨pf, 0, none⟩), .pointer (some ⟨ps, 0, none⟩), .pointer (some ⟨pl, 0, none⟩), .pointer (some ⟨pw, 0, none⟩), .pointer (some ⟨pb, 0, none⟩), .pointer (some ⟨pg, 0, none⟩), .pointer (some ⟨pm, 0, none⟩)]] 52 (0, 0)) ∧ w'.heap[pm]? = some (.cells #[.int .i64 most] 3 (0, 0)) ∧ Below W0.heap.size W0 w' := by
  obtain ⟨cs, hx⟩ := hx
  have ne : ∀ {g t : Nat} {cs' : Array Value}, w.heap[g]? = some (.cells cs' t (0, 0)) → t ≠ 3 → (some g : Option Nat) ≠ some gx := fun hb ht e => by
    injection e with e; exact blk_ne hb hx ht e
  exact ⟨blk_grown h.f hg (ne h.f (by decide)), blk_grown h.wh hg (ne h.wh (by decide)), blk_grown h.be hg (ne h.be (by decide)), blk_grown h.le hg (fun e => hs (by injection e with e; exact e.symm)), blk_grown h.ll hg (ne h.ll (by decide)), blk_grown h.g hg (ne h.g (by decide)), blk_grown h.m hg (fun e => hm (by injection e with e; exact e.symm)), h.b.grown hg (below_size h.b) (fun k hk => by cases hk; exact h0)⟩
theorem LM.setW {gw cw : Nat} (h : LM W0 A c l most pf ps pl pw pb pg pm vf (.slice (some ⟨gw, 0, none⟩) s.which.length cw) vb w s) (i x : Int) :
    LM W0 A c l most pf ps pl pw pb pg pm vf (.slice (some ⟨gw, 0, none⟩) s.which.length cw) vb (w.setCell ⟨gw, i.toNat, none⟩ (.int .i64 x)) { s with which := s.which.set i.toNat x } := by
  obtain ⟨h1, h2⟩ := Kd.R_putg h.rw i x
  have ho := h.rw.1 gw rfl
  obtain ⟨q1, q2, q3, q4, q5, q6, q7, q8⟩ := h.rest h2 (Kd.R_typed h.rw gw rfl) ho.2.2.1 ho.2.2.2 (Kd.R_base h.rw gw rfl)
  exact ⟨q1, q2, q3, q4, q5, q6, q7, Kd.R_grown h.rf h2 (fun k hk => hk.1), h1, Kd.R_grown h.rb h2 (fun k hk => hk.2.1), q8, h.ge, h.ne⟩
theorem LM.setF {gf cf n : Nat} (h : LM W0 A c l most pf ps pl pw pb pg pm (.slice (some ⟨gf, 0, none⟩) n cf) vw vb w s) (i x : Int) :
    LM W0 A c l most pf ps pl pw pb pg pm (.slice (some ⟨gf, 0, none⟩) n cf) vw vb (w.setCell ⟨gf, i.toNat, none⟩ (.int .i64 x)) { s with free := s.free.set i.toNat x } := by
  obtain ⟨h1, h2⟩ := Kd.R_putg h.rf i x
  have ho := h.rf.1 gf rfl
  obtain ⟨q1, q2, q3, q4, q5, q6, q7, q8⟩ := h.rest h2 (Kd.R_typed h.rf gf rfl) ho.2.2.1 ho.2.2.2 (Kd.R_base h.rf gf rfl)
  exact ⟨q1, q2, q3, q4, q5, q6, q7, h1, Kd.R_grown h.rw h2 (fun k hk => hk.1), Kd.R_grown h.rb h2 (fun k hk => hk.1), q8, h.ge, h.ne⟩
/-- A new best: a copy of the loading, and its trucks. -/
theorem LM.setB {v : Value} {w3 : World} (h : LM W0 A c l most pf ps pl pw pb pg pm vf vw vb w s) (hb : Below w.heap.size w w3) (hv : Kd.R (Kd.int .i64) 3 w3 w.heap.size (fun _ => True) v s.which) (n : Int) :
    LM W0 A c l most pf ps pl pw pb pg pm vf vw v ((w3.setCell ⟨pb, 0, none⟩ v).setCell ⟨ps, 0, none⟩ (.int .i64 n)) { s with best := s.which, least := n } := by
  have h3 := h.below hb
  have hn : ∀ k, v.ownBlock = some k → w.heap.size ≤ k := Kd.R_base hv
  have lf := Kd.R_lt h.rf
  have lw := Kd.R_lt h.rw
  have hps := blk_lt h.le
  have hpm := blk_lt h.m
  have far : ∀ {ok ok' : Nat → Prop} {u : Value} {xs : List Int} {base : Nat}, Kd.R (Kd.int .i64) 3 w3 base ok u xs → (∀ k, ok k → ok' k ∧ k ≠ ps) → Kd.R (Kd.int .i64) 3 ((w3.setCell ⟨pb, 0, none⟩ v).setCell ⟨ps, 0, none⟩ (.int .i64 n)) base ok' u xs := fun hr hok => by
    have hr1 := Kd.R_types hr h3.be (by decide)
    have hr2 := Kd.R_far (p := ⟨pb, 0, none⟩) hr1 (fun k hk => hk.2) v
    have hr3 := Kd.R_far (p := ⟨ps, 0, none⟩) hr2 (fun k hk => (hok k hk.1).2) (.int .i64 n)
    exact Kd.R_mono hr3 (fun k hk => (hok k hk.1).1)
  have ne1 := h.ne
  have b1 : pb ≠ ps := blk_ne h.be h.le (by decide)
  have lp : pl ≠ pb ∧ pl ≠ ps := ⟨blk_ne h.ll h.be (by decide), blk_ne h.ll h.le (by decide)⟩
  have gp : pg ≠ pb ∧ pg ≠ ps := ⟨blk_ne h.g h.be (by decide), blk_ne h.g h.le (by decide)⟩
  have fp : pf ≠ ps := blk_ne h.f h.le (by decide)
  have wp : pw ≠ ps := blk_ne h.wh h.le (by decide)
  have mb : pm ≠ pb := blk_ne h.m h.be (by decide)
  refine ⟨blk_far (blk_far h3.f ne1.2.1 _) fp _, blk_far (blk_far h3.wh ne1.2.2.1 _) wp _, blk_far (blk_put (cs := #[vb]) h3.be 0 _ rfl) b1 _, blk_put (cs := #[.int .i64 s.least]) (blk_far h3.le (Ne.symm b1) _) 0 _ rfl, blk_far (blk_far h3.ll lp.1 _) lp.2 _, blk_far (blk_far h3.g gp.1 _) gp.2 _, blk_far (blk_far h3.m mb _) (Ne.symm ne1.2.2.2) _, ?_, ?_, ?_, ?_, h.ge, h.ne⟩
  · exact far (Kd.R_below (Kd.R_bound h.rf) hb) (fun k hk => ⟨⟨hk.1.1, fun e => by have := hn k e.symm; have := hk.2.2.1; omega, hk.1.2.2⟩, hk.1.2.2.1⟩)
  · exact far (Kd.R_below (Kd.R_bound h.rw) hb) (fun k hk => ⟨⟨hk.1.1, fun e => by have := hn k e.symm; have := hk.2.2.1; omega, hk.1.2.2⟩, hk.1.2.2.1⟩)
  · exact far (Kd.R_lower (Kd.R_bound hv) (below_size h.b)) (fun k hk => ⟨⟨fun e => by have := lf k e.symm; have := hk.2.1; omega, fun e => by have := lw k e.symm; have := hk.2.1; omega, by have := hk.2.1; omega, by have := hk.2.1; omega⟩, by have := hk.2.1; omega⟩)
  · exact below_set (below_set h3.b h.ge.2.2.2) h.ge.2.1
/-- The row of what is free is another one: what an append leaves, stored in its variable. -/
theorem LM.setA {v : Value} {w3 : World} {xs : List Int} (h : LM W0 A c l most pf ps pl pw pb pg pm vf vw vb w s) (hg : w.grownBy w3 vf.ownBlock) (hb : Below W0.heap.size W0 w3) (hv : Kd.R (Kd.int .i64) 3 w3 W0.heap.size (fun k => some k ≠ vw.ownBlock ∧ some k ≠ vb.ownBlock ∧ k ≠ ps ∧ k ≠ pm) v xs) (hat : v.ownBlock = vf.ownBlock ∨ ∃ b, v.ownBlock = some b ∧ w.heap.size ≤ b) :
    LM W0 A c l most pf ps pl pw pb pg pm v vw vb (w3.setCell ⟨pf, 0, none⟩ v) { s with free := xs } := by
  have ho := h.rf.1
  have ty := Kd.R_typed h.rf
  have ne : ∀ {g t : Nat} {cs' : Array Value}, w.heap[g]? = some (.cells cs' t (0, 0)) → t ≠ 3 → (some g : Option Nat) ≠ vf.ownBlock := fun hb ht e => by
    obtain ⟨cs, hc⟩ := ty _ e.symm
    exact blk_ne hb hc ht rfl
  have nes : (some ps : Option Nat) ≠ vf.ownBlock := fun e => (ho _ e.symm).2.2.1 rfl
  have nem : (some pm : Option Nat) ≠ vf.ownBlock := fun e => (ho _ e.symm).2.2.2 rfl
  have q1 := blk_grown h.f hg (ne h.f (by decide))
  have q2 := blk_grown h.wh hg (ne h.wh (by decide))
  have q3 := blk_grown h.be hg (ne h.be (by decide))
  have q4 := blk_grown h.le hg nes
  have q5 := blk_grown h.ll hg (ne h.ll (by decide))
  have q6 := blk_grown h.g hg (ne h.g (by decide))
  have q7 := blk_grown h.m hg nem
  have lw := Kd.R_lt h.rw
  have lb := Kd.R_lt h.rb
  have hvn : ∀ k, k < w.heap.size → some k ≠ vf.ownBlock → some k ≠ v.ownBlock := fun k hk hne e => by
    rcases hat with e2 | ⟨b, e2, hb2⟩
    · exact hne (e.trans e2)
    · rw [e2] at e; injection e with e; omega
  have far : ∀ {ok ok' : Nat → Prop} {u : Value} {ys : List Int}, Kd.R (Kd.int .i64) 3 w3 W0.heap.size ok u ys → (∀ k, ok k → ok' k) → Kd.R (Kd.int .i64) 3 (w3.setCell ⟨pf, 0, none⟩ v) W0.heap.size ok' u ys := fun hr hok =>
    Kd.R_mono (Kd.R_far (p := ⟨pf, 0, none⟩) (Kd.R_types hr q1 (by decide)) (fun k hk => hk.2) v) (fun k hk => hok k hk.1)
  have ne1 := h.ne
  refine ⟨blk_put (cs := #[vf]) q1 0 _ rfl, blk_far q2 (Ne.symm ne1.1) _, blk_far q3 (Ne.symm ne1.2.1) _, blk_far q4 (Ne.symm (blk_ne h.f h.le (by decide))) _, blk_far q5 (blk_ne h.ll h.f (by decide)) _, blk_far q6 (blk_ne h.g h.f (by decide)) _, blk_far q7 (blk_ne h.m h.f (by decide)) _, far hv (fun k hk => hk), ?_, ?_, below_set hb h.ge.1, h.ge, h.ne⟩
  · exact far (Kd.R_grown (Kd.R_bound h.rw) hg (fun k hk => hk.1.1)) (fun k hk => ⟨hvn k hk.2.2.1 hk.1.1, hk.1.2⟩)
  · exact far (Kd.R_grown (Kd.R_bound h.rb) hg (fun k hk => hk.1.1)) (fun k hk => ⟨hvn k hk.2.2.1 hk.1.1, hk.1.2⟩)
/-- What is free is cut short. -/
theorem LM.cut {Af : Option Addr} {cf n k : Nat} (h : LM W0 A c l most pf ps pl pw pb pg pm (.slice Af n cf) vw vb w s) (hk : k ≤ s.free.length) :
    LM W0 A c l most pf ps pl pw pb pg pm (.slice Af k cf) vw vb (w.setCell ⟨pf, 0, none⟩ (.slice Af k cf)) { s with free := s.free.take k } := by
  have e : (Value.slice Af k cf).ownBlock = (Value.slice Af n cf).ownBlock := by cases Af <;> rfl
  refine h.setA (w3 := w) ?_ h.b (Kd.R_take h.rf hk) (Or.inl e)
  exact ⟨rfl, rfl, rfl, Nat.le_refl _, fun _ _ _ => rfl⟩
end
/-- The trucks that there are, one after the other. -/
def giveL (rec : LSt → Option LSt) (mass i : Int) : Nat → Int → LSt → Option LSt
  | 0, _, s => some s
  | j + 1, k, s => if k < (s.free.length : Int) ∧ i < (s.which.length : Int) then (if rd s.free k ≥ mass then (rec { s with which := s.which.set i.toNat k, free := s.free.set k.toNat (wrap64 (rd s.free k - mass)) }).bind fun s1 => if k < (s1.free.length : Int) then giveL rec mass i j (k + 1) { s1 with free := s1.free.set k.toNat (wrap64 (rd s1.free k + mass)) } else none else giveL rec mass i j (k + 1) s) else none
/-- The search: what becomes of what it keeps. -/
def give (l : List S39) (most : Int) : Nat → Int → LSt → Option LSt
  | 0, _, s => if (s.free.length : Int) ≥ s.least then some s else (if s.which.length < 1000 then some { s with best := s.which, least := s.free.length } else none)
  | m + 1, i, s => if (s.free.length : Int) ≥ s.least then some s else (giveL (give l most m (i + 1)) (rd_T39 l i).f1 i s.free.length 0 s).bind fun s1 => if i < (s1.which.length : Int) ∧ s1.free.length < 1000 then (give l most m (i + 1) { s1 with which := s1.which.set i.toNat s1.free.length, free := s1.free ++ [wrap64 (most - (rd_T39 l i).f1)] }).bind fun s2 => if 0 < s2.free.length then some { s2 with free := s2.free.take (s2.free.length - 1) } else none else none
def give.T6 : Bool × List (List Nat × List Nat) := (true, [([], []), ([], []), ([0, 1], [0, 1]), ([2], [2]), ([], []), ([], []), ([4, 5], [4, 5]), ([6], [6]), ([7], [7]), ([3, 8], [3, 8])])
def give.B6 : List Nat := [0, 0, 3, 7, 0, 0, 48, 112, 240, 511]
theorem give.tab6 : rtab .any (opsOf Try.f31 6) = give.T6 := by kernel_rfl
theorem give.bits6 : waitsOk give.T6.2 give.B6 = true := by kernel_rfl
def give.T8 : Bool × List (List Nat × List Nat) := (true, [([], []), ([], []), ([0, 1], [0, 1]), ([2], [2]), ([], []), ([], []), ([4, 5], [4, 5]), ([6], [6]), ([7], [7]), ([3, 8], [3, 8]), ([0, 1, 0, 1, 2, 3, 4, 5, 6, 7, 8, 9], [0, 1]), ([10, 9, 0, 1, 2, 3, 4, 5, 6, 7, 8, 9], [9, 10])])
def give.B8 : List Nat := [0, 0, 3, 7, 0, 0, 48, 112, 240, 511, 1023, 2047]
theorem give.tab8 : rtab .any (opsOf Try.f31 8) = give.T8 := by kernel_rfl
theorem give.bits8 : waitsOk give.T8.2 give.B8 = true := by kernel_rfl
def give.T10 : Bool × List (List Nat × List Nat) := (true, [([], []), ([], []), ([0, 1], [0, 1]), ([2], [2]), ([], []), ([], []), ([4, 5], [4, 5]), ([6], [6]), ([7], [7]), ([3, 8], [3, 8]), ([0, 1, 0, 1, 2, 3, 4, 5, 6, 7, 8, 9], [0, 1]), ([10, 9, 0, 1, 2, 3, 4, 5, 6, 7, 8, 9], [9, 10])])
def give.B10 : List Nat := [0, 0, 3, 7, 0, 0, 48, 112, 240, 511, 1023, 2047]
theorem give.tab10 : rtab .any (opsOf Try.f31 10) = give.T10 := by kernel_rfl
theorem give.bits10 : waitsOk give.T10.2 give.B10 = true := by kernel_rfl
def give.T13 : Bool × List (List Nat × List Nat) := (true, [([], []), ([], []), ([], []), ([], []), ([2, 3], [2, 3]), ([4], [4]), ([5], [5]), ([1, 6], [1, 6]), ([7], [7]), ([0, 8], [0, 8]), ([9, 9, 0, 1, 2, 3, 4, 5, 6, 7, 8, 9], [9])])
def give.B13 : List Nat := [0, 0, 0, 0, 12, 28, 60, 126, 254, 511, 1023]
theorem give.tab13 : rtab .any (opsOf Try.f31 13) = give.T13 := by kernel_rfl
theorem give.bits13 : waitsOk give.T13.2 give.B13 = true := by kernel_rfl
set_option maxHeartbeats 8000000 in
set_option maxRecDepth 100000 in
theorem give_calls (W0 : World) (A : Option Addr) (c : Nat) (l : List S39) (most : Int) (pf ps pl pw pb pg pm : Nat) (hC : Kd.C k39 W0 A l.length l) (hlen : l.length ≤ 100) : ∀ (m : Nat) (i : Int) (s s' : LSt) (vf vw vb : Value) (w : World), 0 ≤ i → i + m = l.length → give l most m i s = some s' → LM W0 A c l most pf ps pl pw pb pg pm vf vw vb w s →
    Calls Try.prog 31 #[.int .i64 i, .pointer (some ⟨pf, 0, none⟩), .pointer (some ⟨ps, 0, none⟩), .pointer (some ⟨pl, 0, none⟩), .pointer (some ⟨pw, 0, none⟩), .pointer (some ⟨pb, 0, none⟩), .pointer (some ⟨pg, 0, none⟩), .pointer (some ⟨pm, 0, none⟩)] w fun e w' => e = .returned (.tuple #[]) ∧ ∃ vf' vw' vb', LM W0 A c l most pf ps pl pw pb pg pm vf' vw' vb' w' s' := by
  have hu39 := Try.underlying39
  have HC := Aside0.mk hC
  clear hC
  intro m
  induction m with
  | zero =>
    intro i s s' vf vw vb w hi0 him h hv
    have HV := Aside0.mk hv
    obtain ⟨Af, cf, ef⟩ := Kd.R_slice hv.rf
    obtain ⟨Aw, cw, ew⟩ := Kd.R_slice hv.rw
    subst ef ew
    have zf : w.cell? ⟨pf, 0, none⟩ = some (.slice Af s.free.length cf) := (blk_cell hv.f 0).trans rfl
    have zs : w.cell? ⟨ps, 0, none⟩ = some (.int .i64 s.least) := (blk_cell hv.le 0).trans rfl
    have zl : w.cell? ⟨pl, 0, none⟩ = some (.slice A l.length c) := (blk_cell hv.ll 0).trans rfl
    clear hv
    simp only [give] at h
    by_cases c1 : (s.free.length : Int) ≥ s.least
    · rw [if_pos c1] at h
      have c1b : decide (s.least ≤ (s.free.length : Int)) = true := decide_eq_true c1
      obtain rfl := Option.some.inj h
      clear c1 h
      go_enter Try.func31, Try.ntmps31
      go_wp2
      ((try simp only [Exit.inBlock, Exit.then]); refine bodyPost_ret (results_none rfl _ _ _) rfl ?_)
      exact ⟨rfl, _, _, _, HV.out⟩
    · rw [if_neg c1] at h
      have c1b : decide (s.least ≤ (s.free.length : Int)) = false := decide_eq_false c1
      by_cases c2 : s.which.length < 1000
      · rw [if_pos c2] at h
        obtain rfl := Option.some.inj h
        have HW := Aside0.mk c2
        have ei : (i == (l.length : Int)) = true := beq_iff_eq.mpr (by omega)
        clear c1 c2 h him
        go_enter Try.func31, Try.ntmps31
        go_wp2
        have HV1 := Aside0.mk (LM.drew HV.out)
        clear zf zs zl HV
        refine start_ (n := 6) (S := fun w' => w'.cell? ⟨pw, 0, none⟩ = some (.slice Aw s.which.length cw) ∧ w'.cell? ⟨pf, 0, none⟩ = some (.slice Af s.free.length cf)) (ds := [5]) #[false, false, false, false, false, false] (by kernel_rfl) rfl rfl ⟨(blk_cell HV1.out.wh 0).trans rfl, (blk_cell HV1.out.f 0).trans rfl⟩ (fun hHeld => ?_)
        generalize w.drew = w1 at HV1 hHeld ⊢
        refine take_ (i := 0) (N := some 18) (v := ?_) (a' := ?_) #[true, false, false, false, false, false] rfl rfl (by kernel_rfl) (fun _ _ _ h => h) (Or.inl ⟨by rfl, ?_⟩) hHeld ?_ ?_
        rotate_left
        · rintro w' ⟨s0, s1⟩
          go_simp
          with_reducible rfl
        rotate_left
        · simp only [Act.put, List.setIfInBounds_toArray, List.set_cons_zero, List.set_cons_succ, i64_w, i32_w]
          rfl
        refine take_ (i := 2) (N := some 20) (v := ?_) (a' := ?_) #[true, false, true, false, false, false] rfl rfl (by kernel_rfl) (fun _ _ _ h => h) (Or.inl ⟨by rfl, ?_⟩) hHeld ?_ ?_
        rotate_left
        · rintro w' ⟨s0, s1⟩
          go_simp
          with_reducible rfl
        rotate_left
        · simp only [Act.put, List.setIfInBounds_toArray, List.set_cons_zero, List.set_cons_succ, i64_w, i32_w]
          rfl
        refine pure_ (i := 3) (N := some 21) (v := ?_) (a' := ?_) #[true, false, true, true, false, false] rfl rfl (by kernel_rfl) (fun _ _ _ h => h) (Or.inl ⟨by rfl, ?_⟩) ?_ ?_
        rotate_left
        · intro w'
          go_simp
          with_reducible rfl
        rotate_left
        · simp only [Act.put, List.setIfInBounds_toArray, List.set_cons_zero, List.set_cons_succ, i64_w, i32_w]
          rfl
        refine one_ (i := 1) (N := some 19) #[true, true, true, true, false, false] rfl rfl (by kernel_rfl) (by decide) (fun K hK => ?_)
        refine goes_ Try.func32 (by kernel_rfl) rfl #[.slice Aw s.which.length cw] (by rfl) rfl rfl (by simp only [List.map_toArray, List.map_cons, List.map_nil]; rfl) ?_
        with_reducible refine (clone_calls Aw cw s.which _ (Kd.R_reads' HV1.out.rw).2.2 (Kd.R_reads' HV1.out.rw).2.1 HW.out).mono ?_
        rintro e w3 ⟨v0, rfl, ho, hb⟩
        refine ⟨_, rfl, ?_⟩
        obtain ⟨A0, c0_, e0_⟩ := Kd.R_slice ho
        subst e0_
        have HO3 := Aside0.mk ho
        have HB3 := Aside0.mk hb
        have hxb : w3.cell? ⟨pb, 0, none⟩ = some vb := (blk_cell (blk_below HV1.out.be hb) 0).trans rfl
        have hfb := blk_frozen (blk_below HV1.out.be hb) 0
        have hxs : w3.cell? ⟨ps, 0, none⟩ = some (.int .i64 s.least) := (blk_cell (blk_below HV1.out.le hb) 0).trans rfl
        have hfs := blk_frozen (blk_below HV1.out.le hb) 0
        refine hK.out _ _ ⟨(hb.cell (World.block_lt_of_cell? _ _ hHeld.1)).trans hHeld.1, (hb.cell (World.block_lt_of_cell? _ _ hHeld.2)).trans hHeld.2⟩ (fun hHeld => ?_)
        clear hK K
        refine norm_ (a' := ?_) ?_ ?_
        rotate_left
        · show Act.put _ (some 19) _ = _
          simp only [Act.put, List.setIfInBounds_toArray, List.set_cons_zero, List.set_cons_succ, i64_w, i32_w]
          rfl
        refine one_ (i := 4) (N := none) #[true, true, true, true, true, false] rfl rfl (by kernel_rfl) (by decide) (fun K hK => ?_)
        refine skip_ (w1 := ?_) (by rfl) rfl ?_ ?_
        rotate_left
        · go_simp
          rfl
        refine hK.out _ _ ⟨(cell_far (show pw ≠ pb from HV1.out.ne.2.2.1) _).trans hHeld.1, (cell_far (show pf ≠ pb from HV1.out.ne.2.1) _).trans hHeld.2⟩ (fun hHeld => ?_)
        clear hK K
        refine last_ (i := 5) (N := none) #[true, true, true, true, true, true] rfl rfl (by kernel_rfl) (by decide) (fun K hK => ?_)
        have hxs2 := (cell_far (p := ⟨pb, 0, none⟩) (a := ⟨ps, 0, none⟩) (blk_ne HV1.out.le HV1.out.be (by decide)) (.slice A0 s.which.length c0_)).trans hxs
        refine skip_ (w1 := ?_) (by rfl) rfl ?_ ?_
        rotate_left
        · go_simp
          rfl
        refine hK.out _ _ ?_
        clear hK K
        refine done_ (by kernel_rfl) ?_
        go_wp2
        ((try simp only [Exit.inBlock, Exit.then]); refine bodyPost_ret (results_none rfl _ _ _) rfl ?_)
        exact ⟨rfl, _, _, _, LM.setB HV1.out HB3.out HO3.out _⟩
      · rw [if_neg c2] at h; exact absurd h (by simp)
  | succ m ih =>
    intro i s s' vf vw vb w hi0 him h hv
    have IH := Aside0.mk ih
    have HV := Aside0.mk hv
    obtain ⟨Af, cf, ef⟩ := Kd.R_slice hv.rf
    subst ef
    have zf : w.cell? ⟨pf, 0, none⟩ = some (.slice Af s.free.length cf) := (blk_cell hv.f 0).trans rfl
    have zs : w.cell? ⟨ps, 0, none⟩ = some (.int .i64 s.least) := (blk_cell hv.le 0).trans rfl
    have zl : w.cell? ⟨pl, 0, none⟩ = some (.slice A l.length c) := (blk_cell hv.ll 0).trans rfl
    clear hv ih
    simp only [give] at h
    by_cases c1 : (s.free.length : Int) ≥ s.least
    · rw [if_pos c1] at h
      have c1b : decide (s.least ≤ (s.free.length : Int)) = true := decide_eq_true c1
      obtain rfl := Option.some.inj h
      clear c1 h
      go_enter Try.func31, Try.ntmps31
      go_wp2
      ((try simp only [Exit.inBlock, Exit.then]); refine bodyPost_ret (results_none rfl _ _ _) rfl ?_)
      exact ⟨rfl, _, _, _, HV.out⟩
    · rw [if_neg c1] at h
      have c1b : decide (s.least ≤ (s.free.length : Int)) = false := decide_eq_false c1
      obtain ⟨s1, h1, h2⟩ := Option.bind_eq_some_iff.mp h
      have ei : (i == (l.length : Int)) = false := beq_eq_false_iff_ne.mpr (by omega)
      have HLT : Aside0 (i < (l.length : Int)) := ⟨by omega⟩
      have HIM := Aside0.mk him
      obtain ⟨mass, HM⟩ : ∃ x, Aside0 (x = (rd_T39 l i).f1) := ⟨_, ⟨rfl⟩⟩
      rw [← HM.out] at h1 h2
      have H1 := Aside0.mk h1
      have H2 := Aside0.mk h2
      have hi10 : i ≤ 100 := by omega
      have hfl : s.free.length ≤ 9223372036854775807 := (Kd.R_reads' HV.out.rf).2.2.2.1
      clear c1 h h1 h2 him
      go_enter Try.func31, Try.ntmps31
      go_wp2
      go_loopg [24] s.free.length (fun gg v24 wr => ∃ (kz : Int) (sc : LSt) (xf xw xb : Value), 0 ≤ kz ∧ kz ≤ (s.free.length : Int) ∧ s.free.length - kz.toNat ≤ gg ∧ v24 = .int .i64 kz ∧ Aside0 (giveL (give l most m (i + 1)) mass i (s.free.length - kz.toNat) kz sc = some s1) ∧ Aside0 (LM W0 A c l most pf ps pl pw pb pg pm xf xw xb wr sc))
      case atStart => exact ⟨0, s, _, vw, vb, by omega, by omega, by omega, rfl, H1, HV⟩
      case round =>
        clear zf zs zl HV H1
        obtain ⟨kz, sc, xf, xw, xb, hk0, hk1, hg, rfl, HG, HV⟩ := hrel
        by_cases hlt : kz < (s.free.length : Int)
        · obtain ⟨j, HJ⟩ : ∃ j, Aside0 (s.free.length - kz.toNat = j + 1) := ⟨s.free.length - kz.toNat - 1, ⟨by omega⟩⟩
          have hG := HG.out
          rw [HJ.out] at hG
          unfold giveL at hG
          by_cases c2 : kz < (sc.free.length : Int) ∧ i < (sc.which.length : Int)
          · rw [if_pos c2] at hG
            obtain ⟨gf, cf', ef, _, _, _⟩ := Kd.R_form HV.out.rf (by omega)
            obtain ⟨gw, cw, ew, _, _, _⟩ := Kd.R_form HV.out.rw (by omega)
            subst ef ew
            have C2 := Aside0.mk c2
            have q2 := c2.2
            have q1 := c2.1
            obtain ⟨ad, ea, hx0, hx1⟩ := at_T39 HC.out i hi0 HLT.out
            cases ea
            rw [← HM.out] at hx1
            have hzm := (HV.out.b.cell (World.block_lt_of_cell? W0 _ hx1)).trans hx1
            have HX1 := Aside0.mk hx1
            clear hx0 hx1
            obtain ⟨hzk, hfk⟩ := Kd.R_celln 0 HV.out.rf kz hk0 q1
            obtain ⟨fk, HFK⟩ : ∃ x, Aside0 (x = rd sc.free kz) := ⟨_, ⟨rfl⟩⟩
            rw [show rdOf 0 sc.free kz = fk from HFK.out.symm] at hzk
            rw [← HFK.out] at hG
            have HG' := Aside0.mk hG
            have HK := Aside0.mk (show 0 ≤ kz ∧ kz < (s.free.length : Int) from ⟨hk0, hlt⟩)
            have HJ' : Aside0 (s.free.length - (kz + 1).toNat = j) := ⟨by have := HJ.out; omega⟩
            have d1 : decide (0 ≤ kz) = true := decide_eq_true hk0
            have d2 : decide (kz < (sc.free.length : Int)) = true := decide_eq_true q1
            have d3 : decide (0 ≤ i) = true := decide_eq_true hi0
            have d4 : decide (i < (l.length : Int)) = true := decide_eq_true HLT.out
            have d5 : decide (i < (sc.which.length : Int)) = true := decide_eq_true q2
            have d6 : decide (kz < (s.free.length : Int)) = true := decide_eq_true hlt
            have e1 := eq_true hk0
            have e2 := eq_true q1
            have e3 := eq_true HLT.out
            have e4 := eq_true q2
            clear hG HG hlt q1 q2 c2
            by_cases c3 : fk ≥ mass
            · have c3b : decide (mass ≤ fk) = true := decide_eq_true c3
              have HG2 := HG'.out
              rw [if_pos c3] at HG2
              obtain ⟨s9, h9, h10⟩ := Option.bind_eq_some_iff.mp HG2
              by_cases c4 : kz < (s9.free.length : Int)
              · rw [if_pos c4] at h10
                have H9 := Aside0.mk h9
                have H10 := Aside0.mk h10
                have C4 := Aside0.mk c4
                clear HG2 HG' h9 h10 c3 c4
                go_wp2
                have HV0 := Aside0.mk (LM.drew HV.out)
                clear HV hfk
                refine start_ (n := 10) (S := fun w' => w'.cell? ⟨pf, 0, none⟩ = some (.slice (some ⟨gf, 0, none⟩) sc.free.length cf') ∧ w'.cell? ⟨gf, kz.toNat, none⟩ = some (.int .i64 fk) ∧ w'.cell? ⟨pl, 0, none⟩ = some (.slice (some ad) l.length c) ∧ w'.cell? ⟨(ad.add (i.toNat * 2)).block, (ad.add (i.toNat * 2)).off + 1, none⟩ = some (.int .i64 mass)) (ds := []) #[false, false, false, false, false, false, false, false, false, false] (by kernel_rfl) rfl rfl ⟨(blk_cell HV0.out.f 0).trans rfl, hzk, (blk_cell HV0.out.ll 0).trans rfl, hzm⟩ (fun hHeld => ?_); refine with_tabW give.tab6 give.bits6 (fun HT_ HW_ => ?_)
                generalize wr.drew = w6 at HV0 hzk hzm hHeld ⊢
                refine pure_ (i := 1) (N := some 28) (v := ?_) (a' := ?_) #[false, true, false, false, false, false, false, false, false, false] rfl rfl (any_of HT_.out (by kernel_rfl)) (fun _ _ _ h => h) (Or.inl ⟨by rfl, ?_⟩) ?_ ?_
                rotate_left
                · intro w'
                  go_simp
                  with_reducible rfl
                rotate_left
                · simp only [Act.put, List.setIfInBounds_toArray, List.set_cons_zero, List.set_cons_succ, i64_w, i32_w]
                  rfl
                refine pure_ (i := 5) (N := some 32) (v := ?_) (a' := ?_) #[false, true, false, false, false, true, false, false, false, false] rfl rfl (any_of HT_.out (by kernel_rfl)) (fun _ _ _ h => h) (Or.inl ⟨by rfl, ?_⟩) ?_ ?_
                rotate_left
                · intro w'
                  go_simp
                  with_reducible rfl
                rotate_left
                · simp only [Act.put, List.setIfInBounds_toArray, List.set_cons_zero, List.set_cons_succ, i64_w, i32_w]
                  rfl
                refine take_ (i := 0) (N := some 27) (v := ?_) (a' := ?_) #[true, true, false, false, false, true, false, false, false, false] rfl rfl (take_ofW HT_.out HW_.out (by kernel_rfl)) (fun _ _ _ h => h) (Or.inl ⟨by rfl, ?_⟩) hHeld ?_ ?_
                rotate_left
                · rintro w' ⟨s0, s1, s2, s3⟩
                  go_simp
                  with_reducible rfl
                rotate_left
                · simp only [Act.put, List.setIfInBounds_toArray, List.set_cons_zero, List.set_cons_succ, i64_w, i32_w]
                  rfl
                refine pure_ (i := 2) (N := some 29) (v := ?_) (a' := ?_) #[true, true, true, false, false, true, false, false, false, false] rfl rfl (any_of HT_.out (by kernel_rfl)) (fun _ _ _ h => h) (Or.inl ⟨by rfl, ?_⟩) ?_ ?_
                rotate_left
                · intro w'
                  go_simp
                  with_reducible rfl
                rotate_left
                · simp only [Act.put, List.setIfInBounds_toArray, List.set_cons_zero, List.set_cons_succ, i64_w, i32_w]
                  rfl
                refine take_ (i := 3) (N := some 30) (v := ?_) (a' := ?_) #[true, true, true, true, false, true, false, false, false, false] rfl rfl (take_ofW HT_.out HW_.out (by kernel_rfl)) (fun _ _ _ h => h) (Or.inl ⟨by rfl, ?_⟩) hHeld ?_ ?_
                rotate_left
                · rintro w' ⟨s0, s1, s2, s3⟩
                  go_simp
                  with_reducible rfl
                rotate_left
                · simp only [Act.put, List.setIfInBounds_toArray, List.set_cons_zero, List.set_cons_succ, i64_w, i32_w]
                  rfl
                refine take_ (i := 4) (N := some 31) (v := ?_) (a' := ?_) #[true, true, true, true, true, true, false, false, false, false] rfl rfl (take_ofW HT_.out HW_.out (by kernel_rfl)) (fun _ _ _ h => h) (Or.inl ⟨by rfl, ?_⟩) hHeld ?_ ?_
                rotate_left
                · rintro w' ⟨s0, s1, s2, s3⟩
                  go_simp
                  with_reducible rfl
                rotate_left
                · simp only [Act.put, List.setIfInBounds_toArray, List.set_cons_zero, List.set_cons_succ, i64_w, i32_w]
                  rfl
                refine pure_ (i := 6) (N := some 33) (v := ?_) (a' := ?_) #[true, true, true, true, true, true, true, false, false, false] rfl rfl (any_of HT_.out (by kernel_rfl)) (fun _ _ _ h => h) (Or.inl ⟨by rfl, ?_⟩) ?_ ?_
                rotate_left
                · intro w'
                  go_simp
                  with_reducible rfl
                rotate_left
                · simp only [Act.put, List.setIfInBounds_toArray, List.set_cons_zero, List.set_cons_succ, i64_w, i32_w]
                  rfl
                refine pure_ (i := 7) (N := some 34) (v := ?_) (a' := ?_) #[true, true, true, true, true, true, true, true, false, false] rfl rfl (any_of HT_.out (by kernel_rfl)) (fun _ _ _ h => h) (Or.inl ⟨by rfl, ?_⟩) ?_ ?_
                rotate_left
                · intro w'
                  go_simp
                  with_reducible rfl
                rotate_left
                · simp only [Act.put, List.setIfInBounds_toArray, List.set_cons_zero, List.set_cons_succ, i64_w, i32_w]
                  rfl
                refine take_ (i := 8) (N := some 35) (v := ?_) (a' := ?_) #[true, true, true, true, true, true, true, true, true, false] rfl rfl (take_ofW HT_.out HW_.out (by kernel_rfl)) (fun _ _ _ h => h) (Or.inl ⟨by rfl, ?_⟩) hHeld ?_ ?_
                rotate_left
                · rintro w' ⟨s0, s1, s2, s3⟩
                  go_simp
                  with_reducible rfl
                rotate_left
                · simp only [Act.put, List.setIfInBounds_toArray, List.set_cons_zero, List.set_cons_succ, i64_w, i32_w]
                  rfl
                refine pure_ (i := 9) (N := some 36) (v := ?_) (a' := ?_) #[true, true, true, true, true, true, true, true, true, true] rfl rfl (any_of HT_.out (by kernel_rfl)) (fun _ _ _ h => h) (Or.inl ⟨by rfl, ?_⟩) ?_ ?_
                rotate_left
                · intro w'
                  go_simp
                  with_reducible rfl
                rotate_left
                · simp only [Act.put, List.setIfInBounds_toArray, List.set_cons_zero, List.set_cons_succ, i64_w, i32_w]
                  rfl
                refine done_ (done_of HT_.out (by kernel_rfl)) ?_
                clear hHeld
                have zw : w6.cell? ⟨pw, 0, none⟩ = some (.slice (some ⟨gw, 0, none⟩) sc.which.length cw) := (blk_cell HV0.out.wh 0).trans rfl
                obtain ⟨hzi, hfi⟩ := Kd.R_celln 0 HV0.out.rw i hi0 (of_eq_true e4)
                go_wp2_with ((with_reducible refine gate_store (t := 3) (p := 40) rfl ?_); refine store_event (t := 3) (p := 40) (v := ?vo_7) (w1 := (w6.setCell ⟨gw, i.toNat, none⟩ (.int .i64 kz))) ?hg ?ho ?hn ?hr ?_; (case ho => rfl); (case hg => rfl); (case hn => rfl); (case hr => first | (go_simp; done) | (go_simp; rfl)); intro w7 hw; have HV7 : Aside0 (LM W0 (some ad) c l most pf ps pl pw pb pg pm (.slice (some ⟨gf, 0, none⟩) sc.free.length cf') (.slice (some ⟨gw, 0, none⟩) sc.which.length cw) xb w7 { sc with which := sc.which.set i.toNat kz }) := ⟨by rw [hw]; exact LM.setW HV0.out i kz⟩; clear hw)
                have HV8 := Aside0.mk (LM.drew HV7.out)
                clear hzk hzm zw hzi hfi HV0 HV7
                have hzk : w7.drew.cell? ⟨gf, kz.toNat, none⟩ = some (.int .i64 fk) := by rw [HFK.out]; exact (Kd.R_celln 0 HV8.out.rf kz HK.out.1 C2.out.1).1
                have hfk : w7.drew.frozen? ⟨gf, kz.toNat, none⟩ = false := (Kd.R_celln 0 HV8.out.rf kz HK.out.1 C2.out.1).2
                have hzm := (HV8.out.b.cell (World.block_lt_of_cell? W0 _ HX1.out)).trans HX1.out
                refine start_ (n := 12) (S := fun w' => w'.cell? ⟨pf, 0, none⟩ = some (.slice (some ⟨gf, 0, none⟩) sc.free.length cf') ∧ w'.cell? ⟨gf, kz.toNat, none⟩ = some (.int .i64 fk) ∧ w'.cell? ⟨pl, 0, none⟩ = some (.slice (some ad) l.length c) ∧ w'.cell? ⟨(ad.add (i.toNat * 2)).block, (ad.add (i.toNat * 2)).off + 1, none⟩ = some (.int .i64 mass)) (ds := [11]) #[false, false, false, false, false, false, false, false, false, false, false, false] (by kernel_rfl) rfl rfl ⟨(blk_cell HV8.out.f 0).trans rfl, hzk, (blk_cell HV8.out.ll 0).trans rfl, hzm⟩ (fun hHeld => ?_); refine with_tabW give.tab8 give.bits8 (fun HT_ HW_ => ?_)
                generalize w7.drew = w8 at HV8 hzk hzm hfk hHeld ⊢
                refine pure_ (i := 1) (N := some 42) (v := ?_) (a' := ?_) #[false, true, false, false, false, false, false, false, false, false, false, false] rfl rfl (any_of HT_.out (by kernel_rfl)) (fun _ _ _ h => h) (Or.inl ⟨by rfl, ?_⟩) ?_ ?_
                rotate_left
                · intro w'
                  go_simp
                  with_reducible rfl
                rotate_left
                · simp only [Act.put, List.setIfInBounds_toArray, List.set_cons_zero, List.set_cons_succ, i64_w, i32_w]
                  rfl
                refine pure_ (i := 5) (N := some 46) (v := ?_) (a' := ?_) #[false, true, false, false, false, true, false, false, false, false, false, false] rfl rfl (any_of HT_.out (by kernel_rfl)) (fun _ _ _ h => h) (Or.inl ⟨by rfl, ?_⟩) ?_ ?_
                rotate_left
                · intro w'
                  go_simp
                  with_reducible rfl
                rotate_left
                · simp only [Act.put, List.setIfInBounds_toArray, List.set_cons_zero, List.set_cons_succ, i64_w, i32_w]
                  rfl
                refine take_ (i := 0) (N := some 41) (v := ?_) (a' := ?_) #[true, true, false, false, false, true, false, false, false, false, false, false] rfl rfl (take_ofW HT_.out HW_.out (by kernel_rfl)) (fun _ _ _ h => h) (Or.inl ⟨by rfl, ?_⟩) hHeld ?_ ?_
                rotate_left
                · rintro w' ⟨s0, s1, s2, s3⟩
                  go_simp
                  with_reducible rfl
                rotate_left
                · simp only [Act.put, List.setIfInBounds_toArray, List.set_cons_zero, List.set_cons_succ, i64_w, i32_w]
                  rfl
                refine pure_ (i := 2) (N := some 43) (v := ?_) (a' := ?_) #[true, true, true, false, false, true, false, false, false, false, false, false] rfl rfl (any_of HT_.out (by kernel_rfl)) (fun _ _ _ h => h) (Or.inl ⟨by rfl, ?_⟩) ?_ ?_
                rotate_left
                · intro w'
                  go_simp
                  with_reducible rfl
                rotate_left
                · simp only [Act.put, List.setIfInBounds_toArray, List.set_cons_zero, List.set_cons_succ, i64_w, i32_w]
                  rfl
                refine take_ (i := 3) (N := some 44) (v := ?_) (a' := ?_) #[true, true, true, true, false, true, false, false, false, false, false, false] rfl rfl (take_ofW HT_.out HW_.out (by kernel_rfl)) (fun _ _ _ h => h) (Or.inl ⟨by rfl, ?_⟩) hHeld ?_ ?_
                rotate_left
                · rintro w' ⟨s0, s1, s2, s3⟩
                  go_simp
                  with_reducible rfl
                rotate_left
                · simp only [Act.put, List.setIfInBounds_toArray, List.set_cons_zero, List.set_cons_succ, i64_w, i32_w]
                  rfl
                refine take_ (i := 4) (N := some 45) (v := ?_) (a' := ?_) #[true, true, true, true, true, true, false, false, false, false, false, false] rfl rfl (take_ofW HT_.out HW_.out (by kernel_rfl)) (fun _ _ _ h => h) (Or.inl ⟨by rfl, ?_⟩) hHeld ?_ ?_
                rotate_left
                · rintro w' ⟨s0, s1, s2, s3⟩
                  go_simp
                  with_reducible rfl
                rotate_left
                · simp only [Act.put, List.setIfInBounds_toArray, List.set_cons_zero, List.set_cons_succ, i64_w, i32_w]
                  rfl
                refine pure_ (i := 6) (N := some 47) (v := ?_) (a' := ?_) #[true, true, true, true, true, true, true, false, false, false, false, false] rfl rfl (any_of HT_.out (by kernel_rfl)) (fun _ _ _ h => h) (Or.inl ⟨by rfl, ?_⟩) ?_ ?_
                rotate_left
                · intro w'
                  go_simp
                  with_reducible rfl
                rotate_left
                · simp only [Act.put, List.setIfInBounds_toArray, List.set_cons_zero, List.set_cons_succ, i64_w, i32_w]
                  rfl
                refine pure_ (i := 7) (N := some 48) (v := ?_) (a' := ?_) #[true, true, true, true, true, true, true, true, false, false, false, false] rfl rfl (any_of HT_.out (by kernel_rfl)) (fun _ _ _ h => h) (Or.inl ⟨by rfl, ?_⟩) ?_ ?_
                rotate_left
                · intro w'
                  go_simp
                  with_reducible rfl
                rotate_left
                · simp only [Act.put, List.setIfInBounds_toArray, List.set_cons_zero, List.set_cons_succ, i64_w, i32_w]
                  rfl
                refine take_ (i := 8) (N := some 49) (v := ?_) (a' := ?_) #[true, true, true, true, true, true, true, true, true, false, false, false] rfl rfl (take_ofW HT_.out HW_.out (by kernel_rfl)) (fun _ _ _ h => h) (Or.inl ⟨by rfl, ?_⟩) hHeld ?_ ?_
                rotate_left
                · rintro w' ⟨s0, s1, s2, s3⟩
                  go_simp
                  with_reducible rfl
                rotate_left
                · simp only [Act.put, List.setIfInBounds_toArray, List.set_cons_zero, List.set_cons_succ, i64_w, i32_w]
                  rfl
                refine pure_ (i := 9) (N := some 50) (v := ?_) (a' := ?_) #[true, true, true, true, true, true, true, true, true, true, false, false] rfl rfl (any_of HT_.out (by kernel_rfl)) (fun _ _ _ h => h) (Or.inl ⟨by rfl, ?_⟩) ?_ ?_
                rotate_left
                · intro w'
                  go_simp
                  with_reducible rfl
                rotate_left
                · simp only [Act.put, List.setIfInBounds_toArray, List.set_cons_zero, List.set_cons_succ, i64_w, i32_w]
                  rfl
                refine pure_ (i := 10) (N := some 51) (v := ?_) (a' := ?_) #[true, true, true, true, true, true, true, true, true, true, true, false] rfl rfl (any_of HT_.out (by kernel_rfl)) (fun _ _ _ h => h) (Or.inl ⟨by rfl, ?_⟩) ?_ ?_
                rotate_left
                · intro w'
                  go_simp
                  with_reducible rfl
                rotate_left
                · simp only [Act.put, List.setIfInBounds_toArray, List.set_cons_zero, List.set_cons_succ, i64_w, i32_w]
                  rfl
                refine last_ (i := 11) (N := none) #[true, true, true, true, true, true, true, true, true, true, true, true] rfl rfl (one_of HT_.out (by kernel_rfl)) (by decide) (fun K hK => ?_)
                refine skip_ (w1 := ?_) (by rfl) rfl ?_ ?_
                rotate_left
                · go_simp
                  rfl
                refine hK.out _ _ ?_
                clear hK K
                refine done_ (done_of HT_.out (by kernel_rfl)) ?_
                have HVB := Aside0.mk (LM.setF HV8.out kz (wrap64 (fk - mass)))
                have hzg : (w8.setCell ⟨gf, kz.toNat, none⟩ (.int .i64 (wrap64 (fk - mass)))).cell? ⟨pg, 0, none⟩ = some (.func (.func 31) #[] #[.pointer (some ⟨pf, 0, none⟩), .pointer (some ⟨ps, 0, none⟩), .pointer (some ⟨pl, 0, none⟩), .pointer (some ⟨pw, 0, none⟩), .pointer (some ⟨pb, 0, none⟩), .pointer (some ⟨pg, 0, none⟩), .pointer (some ⟨pm, 0, none⟩)]) := (blk_cell HVB.out.g 0).trans rfl
                generalize w8.setCell ⟨gf, kz.toNat, none⟩ (.int .i64 (wrap64 (fk - mass))) = w8b at HVB hzg ⊢
                go_wp2_with (go_at_call 31; refine (IH.out (i + 1) _ s9 _ _ _ _ (by omega) (by have := HIM.out; omega) H9.out HVB.out).mono ?_; rintro e wx ⟨rfl, yf, yw, yb, hv9⟩; have HV9 := Aside0.mk hv9; clear hv9)
                clear hzk hfk hzm
                obtain ⟨g9, c9, ey, _, _, _⟩ := Kd.R_form HV9.out.rf (by have := C4.out; have := HK.out; omega)
                subst ey
                obtain ⟨f9, HF9⟩ : ∃ x, Aside0 (x = rd s9.free kz) := ⟨_, ⟨rfl⟩⟩
                have HVA := Aside0.mk (LM.drew HV9.out)
                obtain ⟨w9, hw9⟩ : ∃ x : World, x = wx := ⟨_, rfl⟩
                subst hw9
                have hzk : w9.drew.cell? ⟨g9, kz.toNat, none⟩ = some (.int .i64 f9) := by rw [HF9.out]; exact (Kd.R_celln 0 HVA.out.rf kz HK.out.1 C4.out).1
                have hfk : w9.drew.frozen? ⟨g9, kz.toNat, none⟩ = false := (Kd.R_celln 0 HVA.out.rf kz HK.out.1 C4.out).2
                have hzm := (HVA.out.b.cell (World.block_lt_of_cell? W0 _ HX1.out)).trans HX1.out
                have d7 : decide (kz < (s9.free.length : Int)) = true := decide_eq_true C4.out
                have e7 := eq_true C4.out
                have h10 := H10.out
                rw [← HF9.out] at h10
                have H10' := Aside0.mk h10
                clear h10 H10
                go_wp2
                refine start_ (n := 12) (S := fun w' => w'.cell? ⟨pf, 0, none⟩ = some (.slice (some ⟨g9, 0, none⟩) s9.free.length c9) ∧ w'.cell? ⟨g9, kz.toNat, none⟩ = some (.int .i64 f9) ∧ w'.cell? ⟨pl, 0, none⟩ = some (.slice (some ad) l.length c) ∧ w'.cell? ⟨(ad.add (i.toNat * 2)).block, (ad.add (i.toNat * 2)).off + 1, none⟩ = some (.int .i64 mass)) (ds := [11]) #[false, false, false, false, false, false, false, false, false, false, false, false] (by kernel_rfl) rfl rfl ⟨(blk_cell HVA.out.f 0).trans rfl, hzk, (blk_cell HVA.out.ll 0).trans rfl, hzm⟩ (fun hHeld => ?_); refine with_tabW give.tab10 give.bits10 (fun HT_ HW_ => ?_)
                generalize w9.drew = wa at HVA hzk hzm hfk hHeld ⊢
                refine pure_ (i := 1) (N := some 57) (v := ?_) (a' := ?_) #[false, true, false, false, false, false, false, false, false, false, false, false] rfl rfl (any_of HT_.out (by kernel_rfl)) (fun _ _ _ h => h) (Or.inl ⟨by rfl, ?_⟩) ?_ ?_
                rotate_left
                · intro w'
                  go_simp
                  with_reducible rfl
                rotate_left
                · simp only [Act.put, List.setIfInBounds_toArray, List.set_cons_zero, List.set_cons_succ, i64_w, i32_w]
                  rfl
                refine pure_ (i := 5) (N := some 61) (v := ?_) (a' := ?_) #[false, true, false, false, false, true, false, false, false, false, false, false] rfl rfl (any_of HT_.out (by kernel_rfl)) (fun _ _ _ h => h) (Or.inl ⟨by rfl, ?_⟩) ?_ ?_
                rotate_left
                · intro w'
                  go_simp
                  with_reducible rfl
                rotate_left
                · simp only [Act.put, List.setIfInBounds_toArray, List.set_cons_zero, List.set_cons_succ, i64_w, i32_w]
                  rfl
                refine take_ (i := 0) (N := some 56) (v := ?_) (a' := ?_) #[true, true, false, false, false, true, false, false, false, false, false, false] rfl rfl (take_ofW HT_.out HW_.out (by kernel_rfl)) (fun _ _ _ h => h) (Or.inl ⟨by rfl, ?_⟩) hHeld ?_ ?_
                rotate_left
                · rintro w' ⟨s0, s1, s2, s3⟩
                  go_simp
                  with_reducible rfl
                rotate_left
                · simp only [Act.put, List.setIfInBounds_toArray, List.set_cons_zero, List.set_cons_succ, i64_w, i32_w]
                  rfl
                refine pure_ (i := 2) (N := some 58) (v := ?_) (a' := ?_) #[true, true, true, false, false, true, false, false, false, false, false, false] rfl rfl (any_of HT_.out (by kernel_rfl)) (fun _ _ _ h => h) (Or.inl ⟨by rfl, ?_⟩) ?_ ?_
                rotate_left
                · intro w'
                  go_simp
                  with_reducible rfl
                rotate_left
                · simp only [Act.put, List.setIfInBounds_toArray, List.set_cons_zero, List.set_cons_succ, i64_w, i32_w]
                  rfl
                refine take_ (i := 3) (N := some 59) (v := ?_) (a' := ?_) #[true, true, true, true, false, true, false, false, false, false, false, false] rfl rfl (take_ofW HT_.out HW_.out (by kernel_rfl)) (fun _ _ _ h => h) (Or.inl ⟨by rfl, ?_⟩) hHeld ?_ ?_
                rotate_left
                · rintro w' ⟨s0, s1, s2, s3⟩
                  go_simp
                  with_reducible rfl
                rotate_left
                · simp only [Act.put, List.setIfInBounds_toArray, List.set_cons_zero, List.set_cons_succ, i64_w, i32_w]
                  rfl
                refine take_ (i := 4) (N := some 60) (v := ?_) (a' := ?_) #[true, true, true, true, true, true, false, false, false, false, false, false] rfl rfl (take_ofW HT_.out HW_.out (by kernel_rfl)) (fun _ _ _ h => h) (Or.inl ⟨by rfl, ?_⟩) hHeld ?_ ?_
                rotate_left
                · rintro w' ⟨s0, s1, s2, s3⟩
                  go_simp
                  with_reducible rfl
                rotate_left
                · simp only [Act.put, List.setIfInBounds_toArray, List.set_cons_zero, List.set_cons_succ, i64_w, i32_w]
                  rfl
                refine pure_ (i := 6) (N := some 62) (v := ?_) (a' := ?_) #[true, true, true, true, true, true, true, false, false, false, false, false] rfl rfl (any_of HT_.out (by kernel_rfl)) (fun _ _ _ h => h) (Or.inl ⟨by rfl, ?_⟩) ?_ ?_
                rotate_left
                · intro w'
                  go_simp
                  with_reducible rfl
                rotate_left
                · simp only [Act.put, List.setIfInBounds_toArray, List.set_cons_zero, List.set_cons_succ, i64_w, i32_w]
                  rfl
                refine pure_ (i := 7) (N := some 63) (v := ?_) (a' := ?_) #[true, true, true, true, true, true, true, true, false, false, false, false] rfl rfl (any_of HT_.out (by kernel_rfl)) (fun _ _ _ h => h) (Or.inl ⟨by rfl, ?_⟩) ?_ ?_
                rotate_left
                · intro w'
                  go_simp
                  with_reducible rfl
                rotate_left
                · simp only [Act.put, List.setIfInBounds_toArray, List.set_cons_zero, List.set_cons_succ, i64_w, i32_w]
                  rfl
                refine take_ (i := 8) (N := some 64) (v := ?_) (a' := ?_) #[true, true, true, true, true, true, true, true, true, false, false, false] rfl rfl (take_ofW HT_.out HW_.out (by kernel_rfl)) (fun _ _ _ h => h) (Or.inl ⟨by rfl, ?_⟩) hHeld ?_ ?_
                rotate_left
                · rintro w' ⟨s0, s1, s2, s3⟩
                  go_simp
                  with_reducible rfl
                rotate_left
                · simp only [Act.put, List.setIfInBounds_toArray, List.set_cons_zero, List.set_cons_succ, i64_w, i32_w]
                  rfl
                refine pure_ (i := 9) (N := some 65) (v := ?_) (a' := ?_) #[true, true, true, true, true, true, true, true, true, true, false, false] rfl rfl (any_of HT_.out (by kernel_rfl)) (fun _ _ _ h => h) (Or.inl ⟨by rfl, ?_⟩) ?_ ?_
                rotate_left
                · intro w'
                  go_simp
                  with_reducible rfl
                rotate_left
                · simp only [Act.put, List.setIfInBounds_toArray, List.set_cons_zero, List.set_cons_succ, i64_w, i32_w]
                  rfl
                refine pure_ (i := 10) (N := some 66) (v := ?_) (a' := ?_) #[true, true, true, true, true, true, true, true, true, true, true, false] rfl rfl (any_of HT_.out (by kernel_rfl)) (fun _ _ _ h => h) (Or.inl ⟨by rfl, ?_⟩) ?_ ?_
                rotate_left
                · intro w'
                  go_simp
                  with_reducible rfl
                rotate_left
                · simp only [Act.put, List.setIfInBounds_toArray, List.set_cons_zero, List.set_cons_succ, i64_w, i32_w]
                  rfl
                refine last_ (i := 11) (N := none) #[true, true, true, true, true, true, true, true, true, true, true, true] rfl rfl (one_of HT_.out (by kernel_rfl)) (by decide) (fun K hK => ?_)
                refine skip_ (w1 := ?_) (by rfl) rfl ?_ ?_
                rotate_left
                · go_simp
                  rfl
                refine hK.out _ _ ?_
                clear hK K
                refine done_ (done_of HT_.out (by kernel_rfl)) ?_
                have HVC := Aside0.mk (LM.setF HVA.out kz (wrap64 (f9 + mass)))
                go_wp2
                go_roundg (s.free.length - (kz + 1).toNat)
                case measure => have := HK.out; omega
                case rel => exact ⟨kz + 1, _, _, _, _, by have := HK.out; omega, by have := HK.out; omega, by have := HK.out; omega, by rw [show wrap64 (kz + 1) = kz + 1 by have := HK.out; unfold wrap64; omega], by rw [HJ'.out]; exact H10', HVC⟩
              · rw [if_neg c4] at h10; exact absurd h10 (by simp)
            · have c3b : decide (mass ≤ fk) = false := decide_eq_false c3
              have HG2 := HG'.out
              rw [if_neg c3] at HG2
              have HG := Aside0.mk HG2
              clear HG2 HG' c3 hfk
              go_wp2
              have HV0 := Aside0.mk (LM.drew HV.out)
              clear HV
              refine start_ (n := 10) (S := fun w' => w'.cell? ⟨pf, 0, none⟩ = some (.slice (some ⟨gf, 0, none⟩) sc.free.length cf') ∧ w'.cell? ⟨gf, kz.toNat, none⟩ = some (.int .i64 fk) ∧ w'.cell? ⟨pl, 0, none⟩ = some (.slice (some ad) l.length c) ∧ w'.cell? ⟨(ad.add (i.toNat * 2)).block, (ad.add (i.toNat * 2)).off + 1, none⟩ = some (.int .i64 mass)) (ds := []) #[false, false, false, false, false, false, false, false, false, false] (by kernel_rfl) rfl rfl ⟨(blk_cell HV0.out.f 0).trans rfl, hzk, (blk_cell HV0.out.ll 0).trans rfl, hzm⟩ (fun hHeld => ?_); refine with_tabW give.tab6 give.bits6 (fun HT_ HW_ => ?_)
              generalize wr.drew = w6 at HV0 hzk hzm hHeld ⊢
              refine pure_ (i := 1) (N := some 28) (v := ?_) (a' := ?_) #[false, true, false, false, false, false, false, false, false, false] rfl rfl (any_of HT_.out (by kernel_rfl)) (fun _ _ _ h => h) (Or.inl ⟨by rfl, ?_⟩) ?_ ?_
              rotate_left
              · intro w'
                go_simp
                with_reducible rfl
              rotate_left
              · simp only [Act.put, List.setIfInBounds_toArray, List.set_cons_zero, List.set_cons_succ, i64_w, i32_w]
                rfl
              refine pure_ (i := 5) (N := some 32) (v := ?_) (a' := ?_) #[false, true, false, false, false, true, false, false, false, false] rfl rfl (any_of HT_.out (by kernel_rfl)) (fun _ _ _ h => h) (Or.inl ⟨by rfl, ?_⟩) ?_ ?_
              rotate_left
              · intro w'
                go_simp
                with_reducible rfl
              rotate_left
              · simp only [Act.put, List.setIfInBounds_toArray, List.set_cons_zero, List.set_cons_succ, i64_w, i32_w]
                rfl
              refine take_ (i := 0) (N := some 27) (v := ?_) (a' := ?_) #[true, true, false, false, false, true, false, false, false, false] rfl rfl (take_ofW HT_.out HW_.out (by kernel_rfl)) (fun _ _ _ h => h) (Or.inl ⟨by rfl, ?_⟩) hHeld ?_ ?_
              rotate_left
              · rintro w' ⟨s0, s1, s2, s3⟩
                go_simp
                with_reducible rfl
              rotate_left
              · simp only [Act.put, List.setIfInBounds_toArray, List.set_cons_zero, List.set_cons_succ, i64_w, i32_w]
                rfl
              refine pure_ (i := 2) (N := some 29) (v := ?_) (a' := ?_) #[true, true, true, false, false, true, false, false, false, false] rfl rfl (any_of HT_.out (by kernel_rfl)) (fun _ _ _ h => h) (Or.inl ⟨by rfl, ?_⟩) ?_ ?_
              rotate_left
              · intro w'
                go_simp
                with_reducible rfl
              rotate_left
              · simp only [Act.put, List.setIfInBounds_toArray, List.set_cons_zero, List.set_cons_succ, i64_w, i32_w]
                rfl
              refine take_ (i := 3) (N := some 30) (v := ?_) (a' := ?_) #[true, true, true, true, false, true, false, false, false, false] rfl rfl (take_ofW HT_.out HW_.out (by kernel_rfl)) (fun _ _ _ h => h) (Or.inl ⟨by rfl, ?_⟩) hHeld ?_ ?_
              rotate_left
              · rintro w' ⟨s0, s1, s2, s3⟩
                go_simp
                with_reducible rfl
              rotate_left
              · simp only [Act.put, List.setIfInBounds_toArray, List.set_cons_zero, List.set_cons_succ, i64_w, i32_w]
                rfl
              refine take_ (i := 4) (N := some 31) (v := ?_) (a' := ?_) #[true, true, true, true, true, true, false, false, false, false] rfl rfl (take_ofW HT_.out HW_.out (by kernel_rfl)) (fun _ _ _ h => h) (Or.inl ⟨by rfl, ?_⟩) hHeld ?_ ?_
              rotate_left
              · rintro w' ⟨s0, s1, s2, s3⟩
                go_simp
                with_reducible rfl
              rotate_left
              · simp only [Act.put, List.setIfInBounds_toArray, List.set_cons_zero, List.set_cons_succ, i64_w, i32_w]
                rfl
              refine pure_ (i := 6) (N := some 33) (v := ?_) (a' := ?_) #[true, true, true, true, true, true, true, false, false, false] rfl rfl (any_of HT_.out (by kernel_rfl)) (fun _ _ _ h => h) (Or.inl ⟨by rfl, ?_⟩) ?_ ?_
              rotate_left
              · intro w'
                go_simp
                with_reducible rfl
              rotate_left
              · simp only [Act.put, List.setIfInBounds_toArray, List.set_cons_zero, List.set_cons_succ, i64_w, i32_w]
                rfl
              refine pure_ (i := 7) (N := some 34) (v := ?_) (a' := ?_) #[true, true, true, true, true, true, true, true, false, false] rfl rfl (any_of HT_.out (by kernel_rfl)) (fun _ _ _ h => h) (Or.inl ⟨by rfl, ?_⟩) ?_ ?_
              rotate_left
              · intro w'
                go_simp
                with_reducible rfl
              rotate_left
              · simp only [Act.put, List.setIfInBounds_toArray, List.set_cons_zero, List.set_cons_succ, i64_w, i32_w]
                rfl
              refine take_ (i := 8) (N := some 35) (v := ?_) (a' := ?_) #[true, true, true, true, true, true, true, true, true, false] rfl rfl (take_ofW HT_.out HW_.out (by kernel_rfl)) (fun _ _ _ h => h) (Or.inl ⟨by rfl, ?_⟩) hHeld ?_ ?_
              rotate_left
              · rintro w' ⟨s0, s1, s2, s3⟩
                go_simp
                with_reducible rfl
              rotate_left
              · simp only [Act.put, List.setIfInBounds_toArray, List.set_cons_zero, List.set_cons_succ, i64_w, i32_w]
                rfl
              refine pure_ (i := 9) (N := some 36) (v := ?_) (a' := ?_) #[true, true, true, true, true, true, true, true, true, true] rfl rfl (any_of HT_.out (by kernel_rfl)) (fun _ _ _ h => h) (Or.inl ⟨by rfl, ?_⟩) ?_ ?_
              rotate_left
              · intro w'
                go_simp
                with_reducible rfl
              rotate_left
              · simp only [Act.put, List.setIfInBounds_toArray, List.set_cons_zero, List.set_cons_succ, i64_w, i32_w]
                rfl
              refine done_ (done_of HT_.out (by kernel_rfl)) ?_
              clear hHeld
              go_wp2
              go_roundg (s.free.length - (kz + 1).toNat)
              case measure => have := HK.out; omega
              case rel => exact ⟨kz + 1, sc, _, _, _, by have := HK.out; omega, by have := HK.out; omega, by have := HK.out; omega, by rw [show wrap64 (kz + 1) = kz + 1 by have := HK.out; unfold wrap64; omega], by rw [HJ'.out]; exact HG, HV0⟩
          · rw [if_neg c2] at hG; exact absurd hG (by simp)
        · have hkk : s.free.length - kz.toNat = 0 := by omega
          have hG := HG.out
          rw [hkk] at hG
          obtain rfl := Option.some.inj hG
          have d6 : decide (kz < (s.free.length : Int)) = false := decide_eq_false hlt
          have h2 := H2.out
          by_cases c4 : i < (sc.which.length : Int) ∧ sc.free.length < 1000
          · rw [if_pos c4] at h2
            obtain ⟨s2, h3, h4⟩ := Option.bind_eq_some_iff.mp h2
            by_cases c5 : 0 < s2.free.length
            · rw [if_pos c5] at h4
              obtain rfl := Option.some.inj h4
              have H3 := Aside0.mk h3
              have C4 := Aside0.mk c4
              have C5 := Aside0.mk c5
              clear h2 h3 h4 H2 HG hG hkk
              obtain ⟨gw, cw, ew, _, _, _⟩ := Kd.R_form HV.out.rw (by have := c4.1; omega)
              obtain ⟨Af', cf', ef'⟩ := Kd.R_slice HV.out.rf
              subst ew ef'
              have zf : wr.cell? ⟨pf, 0, none⟩ = some (.slice Af' sc.free.length cf') := (blk_cell HV.out.f 0).trans rfl
              have zw : wr.cell? ⟨pw, 0, none⟩ = some (.slice (some ⟨gw, 0, none⟩) sc.which.length cw) := (blk_cell HV.out.wh 0).trans rfl
              obtain ⟨hzi, hfi⟩ := Kd.R_celln 0 HV.out.rw i hi0 c4.1
              have d3 : decide (0 ≤ i) = true := decide_eq_true hi0
              have d4 : decide (i < (l.length : Int)) = true := decide_eq_true HLT.out
              have d5 : decide (i < (sc.which.length : Int)) = true := decide_eq_true c4.1
              have e3 := eq_true HLT.out
              have e4 := eq_true c4.1
              clear c4 c5 hlt
              go_wp2_with ((with_reducible refine gate_store (t := 3) (p := 72) rfl ?_); refine store_event (t := 3) (p := 72) (v := ?vo_72) (w1 := (wr.setCell ⟨gw, i.toNat, none⟩ (.int .i64 (sc.free.length : Int)))) ?hg ?ho ?hn ?hr ?_; (case ho => rfl); (case hg => rfl); (case hn => rfl); (case hr => first | (go_simp; done) | (go_simp; rfl)); intro w12 hw; have HV12 : Aside0 (LM W0 A c l most pf ps pl pw pb pg pm (.slice Af' sc.free.length cf') (.slice (some ⟨gw, 0, none⟩) sc.which.length cw) xb w12 { sc with which := sc.which.set i.toNat (sc.free.length : Int) }) := ⟨by rw [hw]; exact LM.setW HV.out i _⟩; clear hw)
              clear zf zw hzi hfi HV
              have HV13 := Aside0.mk (LM.drew HV12.out)
              obtain ⟨ad, ea, hx0, hx1⟩ := at_T39 HC.out i hi0 HLT.out
              cases ea
              rw [← HM.out] at hx1
              have hzm : w12.drew.cell? ⟨(ad.add (i.toNat * 2)).block, (ad.add (i.toNat * 2)).off + 1, none⟩ = some (.int .i64 mass) := (HV13.out.b.cell (World.block_lt_of_cell? W0 _ hx1)).trans hx1
              clear hx0 hx1
              refine start_ (n := 11) (S := fun w' => w'.cell? ⟨pf, 0, none⟩ = some (.slice Af' sc.free.length cf') ∧ w'.cell? ⟨pm, 0, none⟩ = some (.int .i64 most) ∧ w'.cell? ⟨pl, 0, none⟩ = some (.slice (some ad) l.length c) ∧ w'.cell? ⟨(ad.add (i.toNat * 2)).block, (ad.add (i.toNat * 2)).off + 1, none⟩ = some (.int .i64 mass)) (ds := [9, 10]) #[false, false, false, false, false, false, false, false, false, false, false] (by kernel_rfl) rfl rfl ⟨(blk_cell HV13.out.f 0).trans rfl, (blk_cell HV13.out.m 0).trans rfl, (blk_cell HV13.out.ll 0).trans rfl, hzm⟩ (fun hHeld => ?_); refine with_tabW give.tab13 give.bits13 (fun HT_ HW_ => ?_)
              generalize w12.drew = w13 at HV13 hzm hHeld ⊢
              refine pure_ (i := 3) (N := some 76) (v := ?_) (a' := ?_) #[false, false, false, true, false, false, false, false, false, false, false] rfl rfl (any_of HT_.out (by kernel_rfl)) (fun _ _ _ h => h) (Or.inl ⟨by rfl, ?_⟩) ?_ ?_
              rotate_left
              · intro w'
                go_simp
                with_reducible rfl
              rotate_left
              · simp only [Act.put, List.setIfInBounds_toArray, List.set_cons_zero, List.set_cons_succ, i64_w, i32_w]
                rfl
              refine take_ (i := 0) (N := some 73) (v := ?_) (a' := ?_) #[true, false, false, true, false, false, false, false, false, false, false] rfl rfl (take_ofW HT_.out HW_.out (by kernel_rfl)) (fun _ _ _ h => h) (Or.inl ⟨by rfl, ?_⟩) hHeld ?_ ?_
              rotate_left
              · rintro w' ⟨s0, s1, s2, s3⟩
                go_simp
                with_reducible rfl
              rotate_left
              · simp only [Act.put, List.setIfInBounds_toArray, List.set_cons_zero, List.set_cons_succ, i64_w, i32_w]
                rfl
              refine take_ (i := 1) (N := some 74) (v := ?_) (a' := ?_) #[true, true, false, true, false, false, false, false, false, false, false] rfl rfl (take_ofW HT_.out HW_.out (by kernel_rfl)) (fun _ _ _ h => h) (Or.inl ⟨by rfl, ?_⟩) hHeld ?_ ?_
              rotate_left
              · rintro w' ⟨s0, s1, s2, s3⟩
                go_simp
                with_reducible rfl
              rotate_left
              · simp only [Act.put, List.setIfInBounds_toArray, List.set_cons_zero, List.set_cons_succ, i64_w, i32_w]
                rfl
              refine take_ (i := 2) (N := some 75) (v := ?_) (a' := ?_) #[true, true, true, true, false, false, false, false, false, false, false] rfl rfl (take_ofW HT_.out HW_.out (by kernel_rfl)) (fun _ _ _ h => h) (Or.inl ⟨by rfl, ?_⟩) hHeld ?_ ?_
              rotate_left
              · rintro w' ⟨s0, s1, s2, s3⟩
                go_simp
                with_reducible rfl
              rotate_left
              · simp only [Act.put, List.setIfInBounds_toArray, List.set_cons_zero, List.set_cons_succ, i64_w, i32_w]
                rfl
              refine pure_ (i := 4) (N := some 77) (v := ?_) (a' := ?_) #[true, true, true, true, true, false, false, false, false, false, false] rfl rfl (any_of HT_.out (by kernel_rfl)) (fun _ _ _ h => h) (Or.inl ⟨by rfl, ?_⟩) ?_ ?_
              rotate_left
              · intro w'
                go_simp
                with_reducible rfl
              rotate_left
              · simp only [Act.put, List.setIfInBounds_toArray, List.set_cons_zero, List.set_cons_succ, i64_w, i32_w]
                rfl
              refine pure_ (i := 5) (N := some 78) (v := ?_) (a' := ?_) #[true, true, true, true, true, true, false, false, false, false, false] rfl rfl (any_of HT_.out (by kernel_rfl)) (fun _ _ _ h => h) (Or.inl ⟨by rfl, ?_⟩) ?_ ?_
              rotate_left
              · intro w'
                go_simp
                with_reducible rfl
              rotate_left
              · simp only [Act.put, List.setIfInBounds_toArray, List.set_cons_zero, List.set_cons_succ, i64_w, i32_w]
                rfl
              refine take_ (i := 6) (N := some 79) (v := ?_) (a' := ?_) #[true, true, true, true, true, true, true, false, false, false, false] rfl rfl (take_ofW HT_.out HW_.out (by kernel_rfl)) (fun _ _ _ h => h) (Or.inl ⟨by rfl, ?_⟩) hHeld ?_ ?_
              rotate_left
              · rintro w' ⟨s0, s1, s2, s3⟩
                go_simp
                with_reducible rfl
              rotate_left
              · simp only [Act.put, List.setIfInBounds_toArray, List.set_cons_zero, List.set_cons_succ, i64_w, i32_w]
                rfl
              refine pure_ (i := 7) (N := some 80) (v := ?_) (a' := ?_) #[true, true, true, true, true, true, true, true, false, false, false] rfl rfl (any_of HT_.out (by kernel_rfl)) (fun _ _ _ h => h) (Or.inl ⟨by rfl, ?_⟩) ?_ ?_
              rotate_left
              · intro w'
                go_simp
                with_reducible rfl
              rotate_left
              · simp only [Act.put, List.setIfInBounds_toArray, List.set_cons_zero, List.set_cons_succ, i64_w, i32_w]
                rfl
              refine one_ (i := 8) (N := some 81) #[true, true, true, true, true, true, true, true, true, false, false] rfl rfl (one_of HT_.out (by kernel_rfl)) (by decide) (fun K hK => ?_)
              refine value_ (w1 := ?_) (v := ?_) (by rfl) rfl ?_ ?_
              rotate_left 2
              · go_simp
                constructor
                · rfl
                · rfl
              refine hK.out _ _ ⟨(World.cell?_alloc_lt _ _ _ (World.block_lt_of_cell? _ _ (hHeld.1))).trans (hHeld.1), (World.cell?_alloc_lt _ _ _ (World.block_lt_of_cell? _ _ (hHeld.2.1))).trans (hHeld.2.1), (World.cell?_alloc_lt _ _ _ (World.block_lt_of_cell? _ _ (hHeld.2.2.1))).trans (hHeld.2.2.1), (World.cell?_alloc_lt _ _ _ (World.block_lt_of_cell? _ _ (hHeld.2.2.2))).trans (hHeld.2.2.2)⟩ (fun hHeld => ?_)
              clear hK K
              refine norm_ (a' := ?_) ?_ ?_
              rotate_left
              · show Act.put _ (some 81) _ = _
                simp only [Act.put, List.setIfInBounds_toArray, List.set_cons_zero, List.set_cons_succ, i64_w, i32_w]
                rfl
              refine last_ (i := 9) (N := some 82) #[true, true, true, true, true, true, true, true, true, true, false] rfl rfl (one_of HT_.out (by kernel_rfl)) (by decide) (fun K hK => ?_)
              refine Kd.R_append_step (Kd.int .i64) (w0 := W0) W0.heap.size (by rfl) (.tmp 73) (.tmp 81) 37 3 (.int .i64 0) 8 rfl Try.underlying37 info3 rfl (by decide) (by omega) (.slice Af' sc.free.length cf') sc.free (wrap64 (most - mass)) [.int .i64 (wrap64 (most - mass))] (fun k => some k ≠ (Value.slice (some ⟨gw, 0, none⟩) sc.which.length cw).ownBlock ∧ some k ≠ xb.ownBlock ∧ k ≠ ps ∧ k ≠ pm) (fun _ => False) rfl (by first | (go_simp; done) | (go_simp; rfl)) ?aP (fun _ hk => hk.elim) ?aF ?aO ?aB ?aS ?aL ?_
              (case aP => exact rfl)
              (case aB => exact HV13.out.b)
              (case aS => exact below_size HV13.out.b)
              (case aO => exact HV13.out.rf)
              (case aL => have := C4.out; omega)
              (case aF => exact fun k hk => ⟨fun e => by have := Kd.R_lt HV13.out.rw k e.symm; omega, fun e => by have := Kd.R_lt HV13.out.rb k e.symm; omega, by have := blk_lt HV13.out.le; omega, by have := blk_lt HV13.out.m; omega⟩)
              intro va w9 ho hb hg hat
              obtain ⟨A9, c9, e9⟩ := Kd.R_slice ho
              rw [List.length_append, List.length_singleton] at e9
              subst e9
              have HO9 := Aside0.mk ho
              have HB9 := Aside0.mk hb
              have HG9 := Aside0.mk hg
              have HAT := Aside0.mk hat
              have hxf : w9.cell? ⟨pf, 0, none⟩ = some (.slice Af' sc.free.length cf') := (blk_cell (blk_grown HV13.out.f hg (Kd.R_ne HV13.out.rf HV13.out.f (by decide))) 0).trans rfl
              have hff := blk_frozen (blk_grown HV13.out.f hg (Kd.R_ne HV13.out.rf HV13.out.f (by decide))) 0
              refine hK.out _ _ ?_
              clear hK K
              refine norm_ (a' := ?_) ?_ ?_
              rotate_left
              · show Act.put _ (some 82) _ = _
                simp only [Act.put, List.setIfInBounds_toArray, List.set_cons_zero, List.set_cons_succ, i64_w, i32_w]
                rfl
              refine last_ (i := 10) (N := none) #[true, true, true, true, true, true, true, true, true, true, true] rfl rfl (one_of HT_.out (by kernel_rfl)) (by decide) (fun K hK => ?_)
              refine skip_ (w1 := ?_) (by rfl) rfl ?_ ?_
              rotate_left
              · go_simp
                rfl
              refine hK.out _ _ ?_
              clear hK K
              refine done_ (done_of HT_.out (by kernel_rfl)) ?_
              have HV14 := Aside0.mk (LM.setA HV13.out HG9.out HB9.out HO9.out HAT.out)
              have hzg : (w9.setCell ⟨pf, 0, none⟩ (.slice A9 (sc.free.length + 1) c9)).cell? ⟨pg, 0, none⟩ = some (.func (.func 31) #[] #[.pointer (some ⟨pf, 0, none⟩), .pointer (some ⟨ps, 0, none⟩), .pointer (some ⟨pl, 0, none⟩), .pointer (some ⟨pw, 0, none⟩), .pointer (some ⟨pb, 0, none⟩), .pointer (some ⟨pg, 0, none⟩), .pointer (some ⟨pm, 0, none⟩)]) := (blk_cell HV14.out.g 0).trans rfl
              generalize w9.setCell ⟨pf, 0, none⟩ (.slice A9 (sc.free.length + 1) c9) = w14 at HV14 hzg ⊢
              go_wp2_with (go_at_call 31; refine (IH.out (i + 1) _ s2 _ _ _ _ (by omega) (by have := HIM.out; omega) H3.out HV14.out).mono ?_; rintro e wx ⟨rfl, yf, yw, yb, hv15⟩; have HV15 := Aside0.mk hv15; clear hv15; obtain ⟨g5, c5, ey, _, _, _⟩ := Kd.R_form HV15.out.rf C5.out; subst ey; have zf : wx.cell? ⟨pf, 0, none⟩ = some (.slice (some ⟨g5, 0, none⟩) s2.free.length c5) := (blk_cell HV15.out.f 0).trans rfl; have hff := blk_frozen HV15.out.f 0; obtain ⟨j5, HJ5⟩ : ∃ j : Nat, Aside0 (j = s2.free.length - 1) := ⟨_, ⟨rfl⟩⟩; have hjw : wrap64 ((s2.free.length : Int) - 1) = (j5 : Int) := (by have := HJ5.out; have := C5.out; have := (Kd.R_reads' HV15.out.rf).2.2.2.1; unfold wrap64; omega); have hjc : j5 ≤ c5 := (by have := HJ5.out; have := (Kd.R_reads' HV15.out.rf).2.1; omega))
              go_end0
              exact ⟨rfl, _, _, _, by rw [← HJ5.out]; exact LM.cut HV15.out (by have := HJ5.out; omega)⟩
            · rw [if_neg c5] at h4; exact absurd h4 (by simp)
          · rw [if_neg c4] at h2; exact absurd h2 (by simp)

theorem R_off {α : Type} {enc : α → Value} {h1 : ∀ x : α, (enc x).oneCell' = true} {e : Nat} {w : World} {base : Nat} {ok : Nat → Prop} {v : Value} {xs : List α} {g : Nat} (h : (Kd.scalar enc h1).R e w base ok v xs) (hn : ∀ k, v.ownBlock = some k → k ≠ g) : (Kd.scalar enc h1).R e w base (fun k => ok k ∧ k ≠ g) v xs :=
  Kd.R_of_own (Kd.own_of_R h) (fun k hk => ⟨h.1 k hk, hn k hk⟩)
theorem R_make0 {w0 W : World} {o : Oper} {a : Act} {ops : Array Oper} {rest : List Oper} {Q : Exit → Act → World → Prop} {P : Program} (base e : Nat) (hgd : o.guard = none) {N : Tmp} (_hd : o.dst = some N) (t : TypeId) (x y : Operand) (ho : o.op = .makeSlice t x y) (n : Nat) (hx : a.eval x = .int .i64 0) (hy : a.eval y = .int .i64 (n : Int))
    (ht : P.underlying t = some (.slice e)) (z : Value) (bytes : Nat) (hinfo : (P.info? e).map (fun i => (i.zero, i.size, i.bytes)) = some (some z, 1, bytes)) (hl : bytes * n ≤ 281474976710656) (hn : n ≤ 9223372036854775807) (HB : Below base w0 W) (hbase : base ≤ W.heap.size)
    (h : ∀ v1 w1, (Kd.int .i64).R e w1 base (fun _ => True) v1 [] → Below base w0 w1 → (∃ b, v1.ownBlock = some b ∧ W.heap.size ≤ b) → wpList P ops Q rest (a.put o.dst v1) w1) : wpList P ops Q (o :: rest) a W := by
  obtain ⟨i0, hi, hzz⟩ := Option.map_eq_some_iff.1 hinfo
  simp only [Prod.mk.injEq] at hzz
  obtain ⟨hz0, hz1, hz2⟩ := hzz
  obtain ⟨w', hrun, hown, hg⟩ := run_make_own (P := P) W base t e i0 z 1 ht hi hz0 hz1 .i64 .i64 n (by rw [hz2]; exact hl) hn hbase
  refine Kd.event_run hgd (v := .slice (some ⟨W.heap.size, 0, none⟩) 0 n) (w1 := w') ?_ (h _ _ (Kd.R_of_own (by simpa [encs] using hown) (fun _ _ => trivial)) (HB.grown hg hbase (fun k hk => by cases hk)) ⟨W.heap.size, rfl, Nat.le_refl _⟩)
  simp [execOp, ho, hx, hy, hrun]
/-- What is known of parcels that pass. -/
structure FitP (most many : Int) (l : List S39) : Prop where
  top : 1 ≤ most ∧ most ≤ 1099511627776
  len : (l.length : Int) ≤ many
  each : ∀ x ∈ l, (1 ≤ x.f0 ∧ x.f0 ≤ 1000000) ∧ 1 ≤ x.f1 ∧ x.f1 ≤ most
theorem parcels_l0_fit (most : Int) (l : List S39) (n : Int) (hn : n = l.length) (hl : l.length ≤ 9223372036854775806) : ∀ (k : Nat) (i : Int), ship_parcels.l0 k most l n i = some 0 → 0 ≤ i → ∀ j : Nat, i ≤ j → (hj : j < l.length) → (1 ≤ (l[j]).f0 ∧ (l[j]).f0 ≤ 1000000) ∧ 1 ≤ (l[j]).f1 ∧ (l[j]).f1 ≤ most
  | 0, i, h, _, _, _, _ => by simp [ship_parcels.l0] at h
  | k + 1, i, h, h0, j, hij, hj => by
    simp only [ship_parcels.l0] at h
    rw [if_pos (by omega), if_pos h0, if_pos (by omega)] at h
    obtain ⟨b, h1, h2⟩ := Option.bind_eq_some_iff.mp h
    have hb := id_true h1
    have key : ∀ k b x y, ship_parcels.j2 k most l n i b x y = some 0 → b = false ∧ y ≤ most ∧ ∃ k', k' < k ∧ ship_parcels.l0 k' most l n (wrap64 (i + 1)) = some 0 := fun k b x y h => by
      cases k with
      | zero => simp [ship_parcels.j2] at h
      | succ k =>
        simp only [ship_parcels.j2] at h
        cases b with
        | true => rw [if_pos rfl] at h; exact absurd h (by decide)
        | false =>
          rw [if_neg (by decide)] at h
          by_cases c : y > most
          · rw [if_pos c] at h; exact absurd h (by decide)
          · rw [if_neg c] at h; exact ⟨rfl, by omega, k, by omega, h⟩
    by_cases c : b = true
    · rw [if_pos c] at h2
      rw [c] at hb
      have hb := of_decide_eq_true hb.symm
      by_cases d : (rd_T39 l i).f1 < 1
      · rw [if_pos d] at h2; exact absurd (key _ _ _ _ h2).1 (by decide)
      · rw [if_neg d] at h2
        obtain ⟨q1, q2, k', q3, q4⟩ := key _ _ _ _ h2
        by_cases e : i = j
        · subst e
          have : rd_T39 l (j : Int) = l[j] := by simp [rd_T39, hj]
          rw [this] at hb q2 d
          exact ⟨hb, by omega, q2⟩
        · have hw : wrap64 (i + 1) = i + 1 := by unfold wrap64; omega
          rw [hw] at q4
          exact parcels_l0_fit most l n hn hl k' (i + 1) q4 (by omega) j (by omega) hj
    · rw [if_neg c] at h2; exact absurd (key _ _ _ _ h2).1 (by decide)
termination_by k => k
theorem parcels_fit {k : Nat} {l : List S39} {most many : Int} (hm : many ≤ 1000000) (h : ship_parcels.f k l most many = some 0) : FitP most many l := by
  have key : ∀ k b, ship_parcels.j0 k l most many b = some 0 → b = false ∧ (l.length : Int) ≤ many ∧ ∀ x ∈ l, (1 ≤ x.f0 ∧ x.f0 ≤ 1000000) ∧ 1 ≤ x.f1 ∧ x.f1 ≤ most := fun k b h => by
    cases k with
    | zero => simp [ship_parcels.j0] at h
    | succ k =>
      simp only [ship_parcels.j0] at h
      cases b with
      | true => rw [if_pos rfl] at h; exact absurd h (by decide)
      | false =>
        rw [if_neg (by decide)] at h
        by_cases c : (l.length : Int) > many
        · rw [if_pos c] at h; exact absurd h (by decide)
        · rw [if_neg c] at h
          refine ⟨rfl, by omega, fun x hx => ?_⟩
          obtain ⟨j, hj, rfl⟩ := List.mem_iff_getElem.1 hx
          exact parcels_l0_fit most l _ rfl (by omega) k 0 h (by omega) j (by omega) hj
  unfold ship_parcels.f at h
  by_cases c : most < 1
  · rw [if_pos c] at h; exact absurd (key _ _ h).1 (by decide)
  · rw [if_neg c] at h
    obtain ⟨q1, q2, q3⟩ := key _ _ h
    have := of_decide_eq_false q1
    exact ⟨by omega, q2, q3⟩
def ship_Load.f (k : Nat) (l : List S39) (most : Int) : Option (List (List Int) × Int) := (ship_parcels.f k l most 10).bind fun e => if e = 0 then (give l most l.length 0 ⟨[], (l.length : Int) + 1, List.replicate l.length 0, []⟩).bind fun s => (ship_trucks.f k s.best).bind fun t => some (t, 0) else some ([], e)
theorem ship_Load.mono : ∀ a0 a1 k, LeO (ship_Load.f k a0 a1) (ship_Load.f (k + 1) a0 a1) := by
  intro a0 a1 k
  unfold ship_Load.f
  exact LeO.bind (ship_parcels.mono _ _ _ _) fun _ => LeO.ite (LeO.bind (LeO.refl _) fun _ => LeO.bind (ship_trucks.mono _ _) fun _ => LeO.refl _) (LeO.refl _)
set_option maxHeartbeats 8000000 in
set_option maxRecDepth 100000 in
theorem ship_Load.calls (k : Nat) (A0 : Option Addr) (c0 : Nat) (l0 : List S39) (a1 : Int) (r1 : List (List Int)) (r2 : Int) (w : World) (hr0 : Kd.C k39 w A0 l0.length l0) (hc0 : l0.length ≤ c0) (h : ship_Load.f k l0 a1 = some (r1, r2)) :
    Calls Try.prog 16 #[.slice A0 l0.length c0, .int .i64 a1] w fun e w' => ∃ v0_ : Value, e = .returned (.tuple #[v0_, .int .i64 r2]) ∧ Kd.S (Kd.slice 3 (Kd.int .i64)) 37 w' w.heap.size (fun _ => True) v0_ r1 ∧ Below w.heap.size w w' := by
  have hu39 := Try.underlying39
  have HR0 := Aside0.mk hr0
  have HC0 := Aside0.mk hc0
  have HB := Aside0.mk (Below.refl w.heap.size w)
  clear hr0 hc0
  unfold ship_Load.f at h
  obtain ⟨e0, h1, h⟩ := Option.bind_eq_some_iff.mp h
  have A1 := Aside0.mk h1
  by_cases c3 : e0 = 0
  · rw [if_pos c3] at h
    have c3b0 : (e0 == 0) = true := beq_iff_eq.mpr c3
    have c3b1 : (e0 != 0) = false := bne_eq_false_iff_eq.mpr c3
    rw [c3] at h1
    have FT := Aside0.mk (parcels_fit (by omega) h1)
    obtain ⟨s1, h2, h⟩ := Option.bind_eq_some_iff.mp h
    obtain ⟨t1, h3, h⟩ := Option.bind_eq_some_iff.mp h
    simp only [Option.some.injEq, Prod.mk.injEq] at h
    obtain ⟨rfl, rfl⟩ := h
    have H2 := Aside0.mk h2
    have H3 := Aside0.mk h3
    have hl10 : l0.length ≤ 10 := by have := FT.out.len; omega
    clear c3 h1 h2 h3
    go_enter Try.func16, Try.ntmps16
    go_wp2_with (first | ((with_reducible refine gate_dst (N := 2) rfl ?_); refine box_event ?hg (N := 2) ?hd (cs := #[.slice A0 l0.length c0]) (t := 30) ?hr ?_; (case hd => rfl); (case hg => rfl); (case hr => first | (go_simp; done) | (go_simp; rfl)); intro Mg1 hg_ Mw2 hbox_ hb_; have MB3 := Aside0.mk hbox_; have MG4 : Aside0 (w.heap.size ≤ Mg1) := ⟨by rw [hg_]; exact below_size HB.out⟩; have MH5 := Aside0.mk (below_step HB.out hb_); clear hbox_ hb_ hg_; have Mx6 : Mw2.cell? ⟨Mg1, 0, none⟩ = some (.slice A0 l0.length c0) := (blk_cell MB3.out 0).trans rfl; have Mz7 := blk_frozen MB3.out 0) | ((with_reducible refine gate_dst (N := 3) rfl ?_); refine box_event ?hg (N := 3) ?hd (cs := #[.int .i64 a1]) (t := 3) ?hr ?_; (case hd => rfl); (case hg => rfl); (case hr => first | (go_simp; done) | (go_simp; rfl)); intro Mg8 hg_ Mw9 hbox_ hb_; have MB10 := Aside0.mk hbox_; have MG11 : Aside0 (w.heap.size ≤ Mg8) := ⟨by rw [hg_]; exact below_size MH5.out⟩; have MN12 : Aside0 (Mg1 ≠ Mg8) := ⟨by rw [hg_]; exact Nat.ne_of_lt (blk_lt MB3.out)⟩; have MB13 := Aside0.mk (blk_below MB3.out hb_); have MH14 := Aside0.mk (below_step MH5.out hb_); clear hbox_ hb_ hg_; clear Mx6 Mz7; have Mx15 : Mw9.cell? ⟨Mg1, 0, none⟩ = some (.slice A0 l0.length c0) := (blk_cell MB13.out 0).trans rfl; have Mz16 := blk_frozen MB13.out 0; have Mx17 : Mw9.cell? ⟨Mg8, 0, none⟩ = some (.int .i64 a1) := (blk_cell MB10.out 0).trans rfl; have Mz18 := blk_frozen MB10.out 0) | (go_at_call 30; refine (ship_parcels.calls k A0 c0 l0 a1 10 e0 _ (Kd.C_below HR0.out MH14.out) HC0.out A1.out).mono ?_; rintro e Mw19 ⟨rfl, hb_⟩; have MB20 := Aside0.mk (blk_below MB13.out hb_); have MB21 := Aside0.mk (blk_below MB10.out hb_); have MH22 := Aside0.mk (below_step MH14.out hb_); clear hb_; clear Mx15 Mz16 Mx17 Mz18; have Mx23 : Mw19.cell? ⟨Mg1, 0, none⟩ = some (.slice A0 l0.length c0) := (blk_cell MB20.out 0).trans rfl; have Mz24 := blk_frozen MB20.out 0; have Mx25 : Mw19.cell? ⟨Mg8, 0, none⟩ = some (.int .i64 a1) := (blk_cell MB21.out 0).trans rfl; have Mz26 := blk_frozen MB21.out 0) | ((with_reducible refine gate_dst (N := 7) rfl ?_); refine box_event ?hg (N := 7) ?hd (cs := #[.slice none 0 0]) (t := 37) ?hr ?_; (case hd => rfl); (case hg => rfl); (case hr => first | (go_simp; done) | (go_simp; rfl)); intro Mg27 hg_ Mw28 hbox_ hb_; have MB29 := Aside0.mk hbox_; have MG30 : Aside0 (w.heap.size ≤ Mg27) := ⟨by rw [hg_]; exact below_size MH22.out⟩; have MN31 : Aside0 (Mg1 ≠ Mg27) := ⟨by rw [hg_]; exact Nat.ne_of_lt (blk_lt MB20.out)⟩; have MN32 : Aside0 (Mg8 ≠ Mg27) := ⟨by rw [hg_]; exact Nat.ne_of_lt (blk_lt MB21.out)⟩; have MB33 := Aside0.mk (blk_below MB20.out hb_); have MB34 := Aside0.mk (blk_below MB21.out hb_); have MH35 := Aside0.mk (below_step MH22.out hb_); clear hbox_ hb_ hg_; clear Mx23 Mz24 Mx25 Mz26; have Mx36 : Mw28.cell? ⟨Mg1, 0, none⟩ = some (.slice A0 l0.length c0) := (blk_cell MB33.out 0).trans rfl; have Mz37 := blk_frozen MB33.out 0; have Mx38 : Mw28.cell? ⟨Mg8, 0, none⟩ = some (.int .i64 a1) := (blk_cell MB34.out 0).trans rfl; have Mz39 := blk_frozen MB34.out 0; have Mx40 : Mw28.cell? ⟨Mg27, 0, none⟩ = some (.slice none 0 0) := (blk_cell MB29.out 0).trans rfl; have Mz41 := blk_frozen MB29.out 0) | ((with_reducible refine gate_dst (N := 8) rfl ?_); refine box_event ?hg (N := 8) ?hd (cs := #[.int .i64 0]) (t := 3) ?hr ?_; (case hd => rfl); (case hg => rfl); (case hr => first | (go_simp; done) | (go_simp; rfl)); intro Mg42 hg_ Mw43 hbox_ hb_; have MB44 := Aside0.mk hbox_; have MG45 : Aside0 (w.heap.size ≤ Mg42) := ⟨by rw [hg_]; exact below_size MH35.out⟩; have MN46 : Aside0 (Mg1 ≠ Mg42) := ⟨by rw [hg_]; exact Nat.ne_of_lt (blk_lt MB33.out)⟩; have MN47 : Aside0 (Mg8 ≠ Mg42) := ⟨by rw [hg_]; exact Nat.ne_of_lt (blk_lt MB34.out)⟩; have MN48 : Aside0 (Mg27 ≠ Mg42) := ⟨by rw [hg_]; exact Nat.ne_of_lt (blk_lt MB29.out)⟩; have MB49 := Aside0.mk (blk_below MB33.out hb_); have MB50 := Aside0.mk (blk_below MB34.out hb_); have MB51 := Aside0.mk (blk_below MB29.out hb_); have MH52 := Aside0.mk (below_step MH35.out hb_); clear hbox_ hb_ hg_; clear Mx36 Mz37 Mx38 Mz39 Mx40 Mz41; have Mx53 : Mw43.cell? ⟨Mg1, 0, none⟩ = some (.slice A0 l0.length c0) := (blk_cell MB49.out 0).trans rfl; have Mz54 := blk_frozen MB49.out 0; have Mx55 : Mw43.cell? ⟨Mg8, 0, none⟩ = some (.int .i64 a1) := (blk_cell MB50.out 0).trans rfl; have Mz56 := blk_frozen MB50.out 0; have Mx57 : Mw43.cell? ⟨Mg27, 0, none⟩ = some (.slice none 0 0) := (blk_cell MB51.out 0).trans rfl; have Mz58 := blk_frozen MB51.out 0; have Mx59 : Mw43.cell? ⟨Mg42, 0, none⟩ = some (.int .i64 0) := (blk_cell MB44.out 0).trans rfl; have Mz60 := blk_frozen MB44.out 0) | ((with_reducible refine gate_store (t := 3) (p := 8) rfl ?_); refine store_event (t := 3) (p := 8) (v := ?vo_Mw61) (w1 := (Mw43.setCell ⟨Mg42, 0, none⟩ (.int .i64 ((l0.length : Int) + 1)))) ?hg ?ho ?hn ?hr ?_; (case ho => rfl); (case hg => rfl); (case hn => rfl); (case hr => first | (go_simp; done) | (go_simp; rfl)); intro Mw61 hw_; have MB62 : Aside0 (Mw61.heap[Mg1]? = some (.cells #[.slice A0 l0.length c0] 30 (0, 0))) := ⟨by rw [hw_]; exact blk_far MB49.out MN46.out _⟩; have MB63 : Aside0 (Mw61.heap[Mg8]? = some (.cells #[.int .i64 a1] 3 (0, 0))) := ⟨by rw [hw_]; exact blk_far MB50.out MN47.out _⟩; have MB64 : Aside0 (Mw61.heap[Mg27]? = some (.cells #[.slice none 0 0] 37 (0, 0))) := ⟨by rw [hw_]; exact blk_far MB51.out MN48.out _⟩; have MB65 : Aside0 (Mw61.heap[Mg42]? = some (.cells #[.int .i64 ((l0.length : Int) + 1)] 3 (0, 0))) := ⟨by rw [hw_]; exact blk_put (cs := #[.int .i64 0]) MB44.out 0 _ rfl⟩; have MH66 : Aside0 (Below w.heap.size w Mw61) := ⟨by rw [hw_]; exact below_set MH52.out MG45.out⟩; clear hw_; clear Mx53 Mz54 Mx55 Mz56 Mx57 Mz58 Mx59 Mz60; have Mx67 : Mw61.cell? ⟨Mg1, 0, none⟩ = some (.slice A0 l0.length c0) := (blk_cell MB62.out 0).trans rfl; have Mz68 := blk_frozen MB62.out 0; have Mx69 : Mw61.cell? ⟨Mg8, 0, none⟩ = some (.int .i64 a1) := (blk_cell MB63.out 0).trans rfl; have Mz70 := blk_frozen MB63.out 0; have Mx71 : Mw61.cell? ⟨Mg27, 0, none⟩ = some (.slice none 0 0) := (blk_cell MB64.out 0).trans rfl; have Mz72 := blk_frozen MB64.out 0; have Mx73 : Mw61.cell? ⟨Mg42, 0, none⟩ = some (.int .i64 ((l0.length : Int) + 1)) := (blk_cell MB65.out 0).trans rfl; have Mz74 := blk_frozen MB65.out 0) | ((with_reducible refine gate_dst (N := 23) rfl ?_); refine Kd.R_make (Kd.int .i64) _ 3 rfl (N := 23) rfl 37 _ _ rfl (l0.length : Int) rfl rfl Try.underlying37 (.int .i64 0) 8 info3 rfl (by decide) (by omega) 0 (ok := fun _ => True) (okp := fun _ => True) rfl (fun _ hk => hk) trivial (by omega) (by omega) (Below.refl _ _) (Nat.le_refl _) ?_; intro vw Mw75 ho_ hb_ _ hnw_; rw [Int.toNat_natCast] at ho_; have WS_ : Aside0 (∀ k_, vw.ownBlock = some k_ → k_ ≠ Mg42) := ⟨fun k_ hk_ he_ => by obtain ⟨b_, e1_, e2_⟩ := hnw_; rw [e1_] at hk_; injection hk_ with hk_; have := blk_lt MB65.out; omega⟩; have WM_ : Aside0 (∀ k_, vw.ownBlock = some k_ → k_ ≠ Mg8) := ⟨fun k_ hk_ he_ => by obtain ⟨b_, e1_, e2_⟩ := hnw_; rw [e1_] at hk_; injection hk_ with hk_; have := blk_lt MB63.out; omega⟩; have MB76 := Aside0.mk (blk_below MB62.out hb_); have MB77 := Aside0.mk (blk_below MB63.out hb_); have MB78 := Aside0.mk (blk_below MB64.out hb_); have MB79 := Aside0.mk (blk_below MB65.out hb_); have MH80 := Aside0.mk (below_step MH66.out hb_); have MR81 := Aside0.mk (Kd.R_lower ho_ (below_size MH66.out)); clear ho_ hb_ hnw_; clear Mx67 Mz68 Mx69 Mz70 Mx71 Mz72 Mx73 Mz74; have Mx82 : Mw75.cell? ⟨Mg1, 0, none⟩ = some (.slice A0 l0.length c0) := (blk_cell MB76.out 0).trans rfl; have Mz83 := blk_frozen MB76.out 0; have Mx84 : Mw75.cell? ⟨Mg8, 0, none⟩ = some (.int .i64 a1) := (blk_cell MB77.out 0).trans rfl; have Mz85 := blk_frozen MB77.out 0; have Mx86 : Mw75.cell? ⟨Mg27, 0, none⟩ = some (.slice none 0 0) := (blk_cell MB78.out 0).trans rfl; have Mz87 := blk_frozen MB78.out 0; have Mx88 : Mw75.cell? ⟨Mg42, 0, none⟩ = some (.int .i64 ((l0.length : Int) + 1)) := (blk_cell MB79.out 0).trans rfl; have Mz89 := blk_frozen MB79.out 0) | ((with_reducible refine gate_dst (N := 9) rfl ?_); refine box_event ?hg (N := 9) ?hd (cs := #[.slice none 0 0]) (t := 37) ?hr ?_; (case hd => rfl); (case hg => rfl); (case hr => first | (go_simp; done) | (go_simp; rfl)); intro Mg90 hg_ Mw91 hbox_ hb_; have MB92 := Aside0.mk hbox_; have MG93 : Aside0 (w.heap.size ≤ Mg90) := ⟨by rw [hg_]; exact below_size MH80.out⟩; have MN94 : Aside0 (Mg1 ≠ Mg90) := ⟨by rw [hg_]; exact Nat.ne_of_lt (blk_lt MB76.out)⟩; have MN95 : Aside0 (Mg8 ≠ Mg90) := ⟨by rw [hg_]; exact Nat.ne_of_lt (blk_lt MB77.out)⟩; have MN96 : Aside0 (Mg27 ≠ Mg90) := ⟨by rw [hg_]; exact Nat.ne_of_lt (blk_lt MB78.out)⟩; have MN97 : Aside0 (Mg42 ≠ Mg90) := ⟨by rw [hg_]; exact Nat.ne_of_lt (blk_lt MB79.out)⟩; have MA98 : Aside0 (∀ k_, (vw : Value).ownBlock = some k_ → k_ ≠ Mg90) := ⟨fun k_ hk_ => by rw [hg_]; exact Nat.ne_of_lt (Kd.R_lt MR81.out k_ hk_)⟩; have MB99 := Aside0.mk (blk_below MB76.out hb_); have MB100 := Aside0.mk (blk_below MB77.out hb_); have MB101 := Aside0.mk (blk_below MB78.out hb_); have MB102 := Aside0.mk (blk_below MB79.out hb_); have MR103 := Aside0.mk (Kd.R_below MR81.out hb_); have MH104 := Aside0.mk (below_step MH80.out hb_); clear hbox_ hb_ hg_; clear Mx82 Mz83 Mx84 Mz85 Mx86 Mz87 Mx88 Mz89; have Mx105 : Mw91.cell? ⟨Mg1, 0, none⟩ = some (.slice A0 l0.length c0) := (blk_cell MB99.out 0).trans rfl; have Mz106 := blk_frozen MB99.out 0; have Mx107 : Mw91.cell? ⟨Mg8, 0, none⟩ = some (.int .i64 a1) := (blk_cell MB100.out 0).trans rfl; have Mz108 := blk_frozen MB100.out 0; have Mx109 : Mw91.cell? ⟨Mg27, 0, none⟩ = some (.slice none 0 0) := (blk_cell MB101.out 0).trans rfl; have Mz110 := blk_frozen MB101.out 0; have Mx111 : Mw91.cell? ⟨Mg42, 0, none⟩ = some (.int .i64 ((l0.length : Int) + 1)) := (blk_cell MB102.out 0).trans rfl; have Mz112 := blk_frozen MB102.out 0; have Mx113 : Mw91.cell? ⟨Mg90, 0, none⟩ = some (.slice none 0 0) := (blk_cell MB92.out 0).trans rfl; have Mz114 := blk_frozen MB92.out 0) | ((with_reducible refine gate_store (t := 37) (p := 9) rfl ?_); obtain ⟨Aw_, cw_, ew_⟩ := Kd.R_slice MR103.out; rw [List.length_replicate] at ew_; subst ew_; (with_reducible refine gate_store (t := 37) (p := 9) rfl ?_); refine store_event (t := 37) (p := 9) (v := ?vo_Mw115) (w1 := (Mw91.setCell ⟨Mg90, 0, none⟩ (.slice Aw_ l0.length cw_))) ?hg ?ho ?hn ?hr ?_; (case ho => rfl); (case hg => rfl); (case hn => rfl); (case hr => first | (go_simp; done) | (go_simp; rfl)); intro Mw115 hw_; have MB116 : Aside0 (Mw115.heap[Mg1]? = some (.cells #[.slice A0 l0.length c0] 30 (0, 0))) := ⟨by rw [hw_]; exact blk_far MB99.out MN94.out _⟩; have MB117 : Aside0 (Mw115.heap[Mg8]? = some (.cells #[.int .i64 a1] 3 (0, 0))) := ⟨by rw [hw_]; exact blk_far MB100.out MN95.out _⟩; have MB118 : Aside0 (Mw115.heap[Mg27]? = some (.cells #[.slice none 0 0] 37 (0, 0))) := ⟨by rw [hw_]; exact blk_far MB101.out MN96.out _⟩; have MB119 : Aside0 (Mw115.heap[Mg42]? = some (.cells #[.int .i64 ((l0.length : Int) + 1)] 3 (0, 0))) := ⟨by rw [hw_]; exact blk_far MB102.out MN97.out _⟩; have MB120 : Aside0 (Mw115.heap[Mg90]? = some (.cells #[.slice Aw_ l0.length cw_] 37 (0, 0))) := ⟨by rw [hw_]; exact blk_put (cs := #[.slice none 0 0]) MB92.out 0 _ rfl⟩; have MR121 : Aside0 (Kd.R (Kd.int .i64) 3 Mw115 w.heap.size (fun _ => True) (.slice Aw_ l0.length cw_) (List.replicate l0.length 0)) := ⟨by rw [hw_]; exact Kd.R_mono (Kd.R_far (p := ⟨Mg90, 0, none⟩) (R_off MR103.out MA98.out) (fun k_ hk_ => hk_.2) _) (fun k_ hk_ => hk_.1)⟩; have MH122 : Aside0 (Below w.heap.size w Mw115) := ⟨by rw [hw_]; exact below_set MH104.out MG93.out⟩; clear hw_; clear Mx105 Mz106 Mx107 Mz108 Mx109 Mz110 Mx111 Mz112 Mx113 Mz114; have Mx123 : Mw115.cell? ⟨Mg1, 0, none⟩ = some (.slice A0 l0.length c0) := (blk_cell MB116.out 0).trans rfl; have Mz124 := blk_frozen MB116.out 0; have Mx125 : Mw115.cell? ⟨Mg8, 0, none⟩ = some (.int .i64 a1) := (blk_cell MB117.out 0).trans rfl; have Mz126 := blk_frozen MB117.out 0; have Mx127 : Mw115.cell? ⟨Mg27, 0, none⟩ = some (.slice none 0 0) := (blk_cell MB118.out 0).trans rfl; have Mz128 := blk_frozen MB118.out 0; have Mx129 : Mw115.cell? ⟨Mg42, 0, none⟩ = some (.int .i64 ((l0.length : Int) + 1)) := (blk_cell MB119.out 0).trans rfl; have Mz130 := blk_frozen MB119.out 0; have Mx131 : Mw115.cell? ⟨Mg90, 0, none⟩ = some (.slice Aw_ l0.length cw_) := (blk_cell MB120.out 0).trans rfl; have Mz132 := blk_frozen MB120.out 0) | ((with_reducible refine gate_dst (N := 26) rfl ?_); refine R_make0 _ 3 rfl (N := 26) rfl 37 _ _ rfl l0.length rfl rfl Try.underlying37 (.int .i64 0) 8 info3 (by omega) (by omega) (Below.refl _ _) (Nat.le_refl _) ?_; intro vf Mw133 ho_ hb_ hnw_; have MV134 : Aside0 (∀ k_, vf.ownBlock = some k_ → some k_ ≠ (.slice Aw_ l0.length cw_ : Value).ownBlock) := ⟨fun k_ hk_ he_ => by obtain ⟨b_, e1_, e2_⟩ := hnw_; rw [e1_] at hk_; injection hk_ with hk_; have := Kd.R_lt MR121.out k_ he_.symm; omega⟩; have MV135 : Aside0 (∀ k_, vf.ownBlock = some k_ → k_ ≠ Mg42) := ⟨fun k_ hk_ he_ => by obtain ⟨b_, e1_, e2_⟩ := hnw_; rw [e1_] at hk_; injection hk_ with hk_; have := blk_lt MB119.out; omega⟩; have MV136 : Aside0 (∀ k_, vf.ownBlock = some k_ → k_ ≠ Mg8) := ⟨fun k_ hk_ he_ => by obtain ⟨b_, e1_, e2_⟩ := hnw_; rw [e1_] at hk_; injection hk_ with hk_; have := blk_lt MB117.out; omega⟩; have MB137 := Aside0.mk (blk_below MB116.out hb_); have MB138 := Aside0.mk (blk_below MB117.out hb_); have MB139 := Aside0.mk (blk_below MB118.out hb_); have MB140 := Aside0.mk (blk_below MB119.out hb_); have MB141 := Aside0.mk (blk_below MB120.out hb_); have MR142 := Aside0.mk (Kd.R_below MR121.out hb_); have MH143 := Aside0.mk (below_step MH122.out hb_); have MR144 := Aside0.mk (Kd.R_lower ho_ (below_size MH122.out)); clear ho_ hb_ hnw_; obtain ⟨Af_, cf_, ef_⟩ := Kd.R_slice MR144.out; rw [List.length_nil] at ef_; subst ef_; clear Mx123 Mz124 Mx125 Mz126 Mx127 Mz128 Mx129 Mz130 Mx131 Mz132; have Mx145 : Mw133.cell? ⟨Mg1, 0, none⟩ = some (.slice A0 l0.length c0) := (blk_cell MB137.out 0).trans rfl; have Mz146 := blk_frozen MB137.out 0; have Mx147 : Mw133.cell? ⟨Mg8, 0, none⟩ = some (.int .i64 a1) := (blk_cell MB138.out 0).trans rfl; have Mz148 := blk_frozen MB138.out 0; have Mx149 : Mw133.cell? ⟨Mg27, 0, none⟩ = some (.slice none 0 0) := (blk_cell MB139.out 0).trans rfl; have Mz150 := blk_frozen MB139.out 0; have Mx151 : Mw133.cell? ⟨Mg42, 0, none⟩ = some (.int .i64 ((l0.length : Int) + 1)) := (blk_cell MB140.out 0).trans rfl; have Mz152 := blk_frozen MB140.out 0; have Mx153 : Mw133.cell? ⟨Mg90, 0, none⟩ = some (.slice Aw_ l0.length cw_) := (blk_cell MB141.out 0).trans rfl; have Mz154 := blk_frozen MB141.out 0) | ((with_reducible refine gate_dst (N := 10) rfl ?_); refine box_event ?hg (N := 10) ?hd (cs := #[.slice none 0 0]) (t := 37) ?hr ?_; (case hd => rfl); (case hg => rfl); (case hr => first | (go_simp; done) | (go_simp; rfl)); intro Mg155 hg_ Mw156 hbox_ hb_; have MB157 := Aside0.mk hbox_; have MG158 : Aside0 (w.heap.size ≤ Mg155) := ⟨by rw [hg_]; exact below_size MH143.out⟩; have MN159 : Aside0 (Mg1 ≠ Mg155) := ⟨by rw [hg_]; exact Nat.ne_of_lt (blk_lt MB137.out)⟩; have MN160 : Aside0 (Mg8 ≠ Mg155) := ⟨by rw [hg_]; exact Nat.ne_of_lt (blk_lt MB138.out)⟩; have MN161 : Aside0 (Mg27 ≠ Mg155) := ⟨by rw [hg_]; exact Nat.ne_of_lt (blk_lt MB139.out)⟩; have MN162 : Aside0 (Mg42 ≠ Mg155) := ⟨by rw [hg_]; exact Nat.ne_of_lt (blk_lt MB140.out)⟩; have MN163 : Aside0 (Mg90 ≠ Mg155) := ⟨by rw [hg_]; exact Nat.ne_of_lt (blk_lt MB141.out)⟩; have MA164 : Aside0 (∀ k_, (.slice Aw_ l0.length cw_ : Value).ownBlock = some k_ → k_ ≠ Mg155) := ⟨fun k_ hk_ => by rw [hg_]; exact Nat.ne_of_lt (Kd.R_lt MR142.out k_ hk_)⟩; have MA165 : Aside0 (∀ k_, (.slice Af_ 0 cf_ : Value).ownBlock = some k_ → k_ ≠ Mg155) := ⟨fun k_ hk_ => by rw [hg_]; exact Nat.ne_of_lt (Kd.R_lt MR144.out k_ hk_)⟩; have MB166 := Aside0.mk (blk_below MB137.out hb_); have MB167 := Aside0.mk (blk_below MB138.out hb_); have MB168 := Aside0.mk (blk_below MB139.out hb_); have MB169 := Aside0.mk (blk_below MB140.out hb_); have MB170 := Aside0.mk (blk_below MB141.out hb_); have MR171 := Aside0.mk (Kd.R_below MR142.out hb_); have MR172 := Aside0.mk (Kd.R_below MR144.out hb_); have MH173 := Aside0.mk (below_step MH143.out hb_); clear hbox_ hb_ hg_; clear Mx145 Mz146 Mx147 Mz148 Mx149 Mz150 Mx151 Mz152 Mx153 Mz154; have Mx174 : Mw156.cell? ⟨Mg1, 0, none⟩ = some (.slice A0 l0.length c0) := (blk_cell MB166.out 0).trans rfl; have Mz175 := blk_frozen MB166.out 0; have Mx176 : Mw156.cell? ⟨Mg8, 0, none⟩ = some (.int .i64 a1) := (blk_cell MB167.out 0).trans rfl; have Mz177 := blk_frozen MB167.out 0; have Mx178 : Mw156.cell? ⟨Mg27, 0, none⟩ = some (.slice none 0 0) := (blk_cell MB168.out 0).trans rfl; have Mz179 := blk_frozen MB168.out 0; have Mx180 : Mw156.cell? ⟨Mg42, 0, none⟩ = some (.int .i64 ((l0.length : Int) + 1)) := (blk_cell MB169.out 0).trans rfl; have Mz181 := blk_frozen MB169.out 0; have Mx182 : Mw156.cell? ⟨Mg90, 0, none⟩ = some (.slice Aw_ l0.length cw_) := (blk_cell MB170.out 0).trans rfl; have Mz183 := blk_frozen MB170.out 0; have Mx184 : Mw156.cell? ⟨Mg155, 0, none⟩ = some (.slice none 0 0) := (blk_cell MB157.out 0).trans rfl; have Mz185 := blk_frozen MB157.out 0) | ((with_reducible refine gate_store (t := 37) (p := 10) rfl ?_); refine store_event (t := 37) (p := 10) (v := ?vo_Mw186) (w1 := (Mw156.setCell ⟨Mg155, 0, none⟩ (.slice Af_ 0 cf_))) ?hg ?ho ?hn ?hr ?_; (case ho => rfl); (case hg => rfl); (case hn => rfl); (case hr => first | (go_simp; done) | (go_simp; rfl)); intro Mw186 hw_; have MB187 : Aside0 (Mw186.heap[Mg1]? = some (.cells #[.slice A0 l0.length c0] 30 (0, 0))) := ⟨by rw [hw_]; exact blk_far MB166.out MN159.out _⟩; have MB188 : Aside0 (Mw186.heap[Mg8]? = some (.cells #[.int .i64 a1] 3 (0, 0))) := ⟨by rw [hw_]; exact blk_far MB167.out MN160.out _⟩; have MB189 : Aside0 (Mw186.heap[Mg27]? = some (.cells #[.slice none 0 0] 37 (0, 0))) := ⟨by rw [hw_]; exact blk_far MB168.out MN161.out _⟩; have MB190 : Aside0 (Mw186.heap[Mg42]? = some (.cells #[.int .i64 ((l0.length : Int) + 1)] 3 (0, 0))) := ⟨by rw [hw_]; exact blk_far MB169.out MN162.out _⟩; have MB191 : Aside0 (Mw186.heap[Mg90]? = some (.cells #[.slice Aw_ l0.length cw_] 37 (0, 0))) := ⟨by rw [hw_]; exact blk_far MB170.out MN163.out _⟩; have MB192 : Aside0 (Mw186.heap[Mg155]? = some (.cells #[.slice Af_ 0 cf_] 37 (0, 0))) := ⟨by rw [hw_]; exact blk_put (cs := #[.slice none 0 0]) MB157.out 0 _ rfl⟩; have MR193 : Aside0 (Kd.R (Kd.int .i64) 3 Mw186 w.heap.size (fun _ => True) (.slice Aw_ l0.length cw_) (List.replicate l0.length 0)) := ⟨by rw [hw_]; exact Kd.R_mono (Kd.R_far (p := ⟨Mg155, 0, none⟩) (R_off MR171.out MA164.out) (fun k_ hk_ => hk_.2) _) (fun k_ hk_ => hk_.1)⟩; have MR194 : Aside0 (Kd.R (Kd.int .i64) 3 Mw186 w.heap.size (fun _ => True) (.slice Af_ 0 cf_) ([] : List Int)) := ⟨by rw [hw_]; exact Kd.R_mono (Kd.R_far (p := ⟨Mg155, 0, none⟩) (R_off MR172.out MA165.out) (fun k_ hk_ => hk_.2) _) (fun k_ hk_ => hk_.1)⟩; have MH195 : Aside0 (Below w.heap.size w Mw186) := ⟨by rw [hw_]; exact below_set MH173.out MG158.out⟩; clear hw_; clear Mx174 Mz175 Mx176 Mz177 Mx178 Mz179 Mx180 Mz181 Mx182 Mz183 Mx184 Mz185; have Mx196 : Mw186.cell? ⟨Mg1, 0, none⟩ = some (.slice A0 l0.length c0) := (blk_cell MB187.out 0).trans rfl; have Mz197 := blk_frozen MB187.out 0; have Mx198 : Mw186.cell? ⟨Mg8, 0, none⟩ = some (.int .i64 a1) := (blk_cell MB188.out 0).trans rfl; have Mz199 := blk_frozen MB188.out 0; have Mx200 : Mw186.cell? ⟨Mg27, 0, none⟩ = some (.slice none 0 0) := (blk_cell MB189.out 0).trans rfl; have Mz201 := blk_frozen MB189.out 0; have Mx202 : Mw186.cell? ⟨Mg42, 0, none⟩ = some (.int .i64 ((l0.length : Int) + 1)) := (blk_cell MB190.out 0).trans rfl; have Mz203 := blk_frozen MB190.out 0; have Mx204 : Mw186.cell? ⟨Mg90, 0, none⟩ = some (.slice Aw_ l0.length cw_) := (blk_cell MB191.out 0).trans rfl; have Mz205 := blk_frozen MB191.out 0; have Mx206 : Mw186.cell? ⟨Mg155, 0, none⟩ = some (.slice Af_ 0 cf_) := (blk_cell MB192.out 0).trans rfl; have Mz207 := blk_frozen MB192.out 0) | ((with_reducible refine gate_dst (N := 11) rfl ?_); refine box_event ?hg (N := 11) ?hd (cs := #[.nilFunc]) (t := 52) ?hr ?_; (case hd => rfl); (case hg => rfl); (case hr => first | (go_simp; done) | (go_simp; rfl)); intro Mg208 hg_ Mw209 hbox_ hb_; have MB210 := Aside0.mk hbox_; have MG211 : Aside0 (w.heap.size ≤ Mg208) := ⟨by rw [hg_]; exact below_size MH195.out⟩; have MN212 : Aside0 (Mg1 ≠ Mg208) := ⟨by rw [hg_]; exact Nat.ne_of_lt (blk_lt MB187.out)⟩; have MN213 : Aside0 (Mg8 ≠ Mg208) := ⟨by rw [hg_]; exact Nat.ne_of_lt (blk_lt MB188.out)⟩; have MN214 : Aside0 (Mg27 ≠ Mg208) := ⟨by rw [hg_]; exact Nat.ne_of_lt (blk_lt MB189.out)⟩; have MN215 : Aside0 (Mg42 ≠ Mg208) := ⟨by rw [hg_]; exact Nat.ne_of_lt (blk_lt MB190.out)⟩; have MN216 : Aside0 (Mg90 ≠ Mg208) := ⟨by rw [hg_]; exact Nat.ne_of_lt (blk_lt MB191.out)⟩; have MN217 : Aside0 (Mg155 ≠ Mg208) := ⟨by rw [hg_]; exact Nat.ne_of_lt (blk_lt MB192.out)⟩; have MA218 : Aside0 (∀ k_, (.slice Aw_ l0.length cw_ : Value).ownBlock = some k_ → k_ ≠ Mg208) := ⟨fun k_ hk_ => by rw [hg_]; exact Nat.ne_of_lt (Kd.R_lt MR193.out k_ hk_)⟩; have MA219 : Aside0 (∀ k_, (.slice Af_ 0 cf_ : Value).ownBlock = some k_ → k_ ≠ Mg208) := ⟨fun k_ hk_ => by rw [hg_]; exact Nat.ne_of_lt (Kd.R_lt MR194.out k_ hk_)⟩; have MB220 := Aside0.mk (blk_below MB187.out hb_); have MB221 := Aside0.mk (blk_below MB188.out hb_); have MB222 := Aside0.mk (blk_below MB189.out hb_); have MB223 := Aside0.mk (blk_below MB190.out hb_); have MB224 := Aside0.mk (blk_below MB191.out hb_); have MB225 := Aside0.mk (blk_below MB192.out hb_); have MR226 := Aside0.mk (Kd.R_below MR193.out hb_); have MR227 := Aside0.mk (Kd.R_below MR194.out hb_); have MH228 := Aside0.mk (below_step MH195.out hb_); clear hbox_ hb_ hg_; clear Mx196 Mz197 Mx198 Mz199 Mx200 Mz201 Mx202 Mz203 Mx204 Mz205 Mx206 Mz207; have Mx229 : Mw209.cell? ⟨Mg1, 0, none⟩ = some (.slice A0 l0.length c0) := (blk_cell MB220.out 0).trans rfl; have Mz230 := blk_frozen MB220.out 0; have Mx231 : Mw209.cell? ⟨Mg8, 0, none⟩ = some (.int .i64 a1) := (blk_cell MB221.out 0).trans rfl; have Mz232 := blk_frozen MB221.out 0; have Mx233 : Mw209.cell? ⟨Mg27, 0, none⟩ = some (.slice none 0 0) := (blk_cell MB222.out 0).trans rfl; have Mz234 := blk_frozen MB222.out 0; have Mx235 : Mw209.cell? ⟨Mg42, 0, none⟩ = some (.int .i64 ((l0.length : Int) + 1)) := (blk_cell MB223.out 0).trans rfl; have Mz236 := blk_frozen MB223.out 0; have Mx237 : Mw209.cell? ⟨Mg90, 0, none⟩ = some (.slice Aw_ l0.length cw_) := (blk_cell MB224.out 0).trans rfl; have Mz238 := blk_frozen MB224.out 0; have Mx239 : Mw209.cell? ⟨Mg155, 0, none⟩ = some (.slice Af_ 0 cf_) := (blk_cell MB225.out 0).trans rfl; have Mz240 := blk_frozen MB225.out 0; have Mx241 : Mw209.cell? ⟨Mg208, 0, none⟩ = some (.nilFunc) := (blk_cell MB210.out 0).trans rfl; have Mz242 := blk_frozen MB210.out 0) | ((with_reducible refine gate_store (t := 52) (p := 11) rfl ?_); refine store_event (t := 52) (p := 11) (v := ?vo_Mw243) (w1 := (Mw209.setCell ⟨Mg208, 0, none⟩ (.func (.func 31) #[] #[.pointer (some ⟨Mg155, 0, none⟩), .pointer (some ⟨Mg42, 0, none⟩), .pointer (some ⟨Mg1, 0, none⟩), .pointer (some ⟨Mg90, 0, none⟩), .pointer (some ⟨Mg27, 0, none⟩), .pointer (some ⟨Mg208, 0, none⟩), .pointer (some ⟨Mg8, 0, none⟩)]))) ?hg ?ho ?hn ?hr ?_; (case ho => rfl); (case hg => rfl); (case hn => rfl); (case hr => first | (go_simp; done) | (go_simp; rfl)); intro Mw243 hw_; have MB244 : Aside0 (Mw243.heap[Mg1]? = some (.cells #[.slice A0 l0.length c0] 30 (0, 0))) := ⟨by rw [hw_]; exact blk_far MB220.out MN212.out _⟩; have MB245 : Aside0 (Mw243.heap[Mg8]? = some (.cells #[.int .i64 a1] 3 (0, 0))) := ⟨by rw [hw_]; exact blk_far MB221.out MN213.out _⟩; have MB246 : Aside0 (Mw243.heap[Mg27]? = some (.cells #[.slice none 0 0] 37 (0, 0))) := ⟨by rw [hw_]; exact blk_far MB222.out MN214.out _⟩; have MB247 : Aside0 (Mw243.heap[Mg42]? = some (.cells #[.int .i64 ((l0.length : Int) + 1)] 3 (0, 0))) := ⟨by rw [hw_]; exact blk_far MB223.out MN215.out _⟩; have MB248 : Aside0 (Mw243.heap[Mg90]? = some (.cells #[.slice Aw_ l0.length cw_] 37 (0, 0))) := ⟨by rw [hw_]; exact blk_far MB224.out MN216.out _⟩; have MB249 : Aside0 (Mw243.heap[Mg155]? = some (.cells #[.slice Af_ 0 cf_] 37 (0, 0))) := ⟨by rw [hw_]; exact blk_far MB225.out MN217.out _⟩; have MB250 : Aside0 (Mw243.heap[Mg208]? = some (.cells #[.func (.func 31) #[] #[.pointer (some ⟨Mg155, 0, none⟩), .pointer (some ⟨Mg42, 0, none⟩), .pointer (some ⟨Mg1, 0, none⟩), .pointer (some ⟨Mg90, 0, none⟩), .pointer (some ⟨Mg27, 0, none⟩), .pointer (some ⟨Mg208, 0, none⟩), .pointer (some ⟨Mg8, 0, none⟩)]] 52 (0, 0))) := ⟨by rw [hw_]; exact blk_put (cs := #[.nilFunc]) MB210.out 0 _ rfl⟩; have MR251 : Aside0 (Kd.R (Kd.int .i64) 3 Mw243 w.heap.size (fun _ => True) (.slice Aw_ l0.length cw_) (List.replicate l0.length 0)) := ⟨by rw [hw_]; exact Kd.R_mono (Kd.R_far (p := ⟨Mg208, 0, none⟩) (R_off MR226.out MA218.out) (fun k_ hk_ => hk_.2) _) (fun k_ hk_ => hk_.1)⟩; have MR252 : Aside0 (Kd.R (Kd.int .i64) 3 Mw243 w.heap.size (fun _ => True) (.slice Af_ 0 cf_) ([] : List Int)) := ⟨by rw [hw_]; exact Kd.R_mono (Kd.R_far (p := ⟨Mg208, 0, none⟩) (R_off MR227.out MA219.out) (fun k_ hk_ => hk_.2) _) (fun k_ hk_ => hk_.1)⟩; have MH253 : Aside0 (Below w.heap.size w Mw243) := ⟨by rw [hw_]; exact below_set MH228.out MG211.out⟩; clear hw_; clear Mx229 Mz230 Mx231 Mz232 Mx233 Mz234 Mx235 Mz236 Mx237 Mz238 Mx239 Mz240 Mx241 Mz242; have Mx254 : Mw243.cell? ⟨Mg1, 0, none⟩ = some (.slice A0 l0.length c0) := (blk_cell MB244.out 0).trans rfl; have Mz255 := blk_frozen MB244.out 0; have Mx256 : Mw243.cell? ⟨Mg8, 0, none⟩ = some (.int .i64 a1) := (blk_cell MB245.out 0).trans rfl; have Mz257 := blk_frozen MB245.out 0; have Mx258 : Mw243.cell? ⟨Mg27, 0, none⟩ = some (.slice none 0 0) := (blk_cell MB246.out 0).trans rfl; have Mz259 := blk_frozen MB246.out 0; have Mx260 : Mw243.cell? ⟨Mg42, 0, none⟩ = some (.int .i64 ((l0.length : Int) + 1)) := (blk_cell MB247.out 0).trans rfl; have Mz261 := blk_frozen MB247.out 0; have Mx262 : Mw243.cell? ⟨Mg90, 0, none⟩ = some (.slice Aw_ l0.length cw_) := (blk_cell MB248.out 0).trans rfl; have Mz263 := blk_frozen MB248.out 0; have Mx264 : Mw243.cell? ⟨Mg155, 0, none⟩ = some (.slice Af_ 0 cf_) := (blk_cell MB249.out 0).trans rfl; have Mz265 := blk_frozen MB249.out 0; have Mx266 : Mw243.cell? ⟨Mg208, 0, none⟩ = some (.func (.func 31) #[] #[.pointer (some ⟨Mg155, 0, none⟩), .pointer (some ⟨Mg42, 0, none⟩), .pointer (some ⟨Mg1, 0, none⟩), .pointer (some ⟨Mg90, 0, none⟩), .pointer (some ⟨Mg27, 0, none⟩), .pointer (some ⟨Mg208, 0, none⟩), .pointer (some ⟨Mg8, 0, none⟩)]) := (blk_cell MB250.out 0).trans rfl; have Mz267 := blk_frozen MB250.out 0; have HLM : Aside0 (LM w A0 c0 l0 a1 Mg155 Mg42 Mg1 Mg90 Mg27 Mg208 Mg8 (.slice Af_ 0 cf_) (.slice Aw_ l0.length cw_) (.slice none 0 0) Mw243 ⟨[], (l0.length : Int) + 1, List.replicate l0.length 0, []⟩) := ⟨⟨MB249.out, MB248.out, MB246.out, MB247.out, MB244.out, MB250.out, MB245.out, Kd.R_of_own (Kd.own_of_R MR252.out) (fun k_ hk_ => ⟨MV134.out k_ hk_, by simp [Value.ownBlock], MV135.out k_ hk_, MV136.out k_ hk_⟩), Kd.R_of_own (Kd.own_of_R MR251.out) (fun k_ hk_ => ⟨fun he_ => MV134.out k_ he_.symm hk_.symm, by simp [Value.ownBlock], WS_.out k_ hk_, WM_.out k_ hk_⟩), Kd.R_nil _ _ _ _ _, MH253.out, ⟨MG158.out, MG45.out, MG93.out, MG30.out⟩, ⟨(Ne.symm MN163.out), (Ne.symm MN161.out), (Ne.symm MN96.out), (Ne.symm MN47.out)⟩⟩⟩) | (go_at_call 31; refine (give_calls w A0 c0 l0 a1 _ _ _ _ _ _ _ HR0.out (by omega) l0.length 0 _ s1 _ _ _ _ (by omega) (by omega) H2.out HLM.out).mono ?_; rintro e w8 ⟨rfl, xf, xw, xb, hv_⟩; obtain ⟨Ab, cb, eb⟩ := Kd.R_slice hv_.rb; subst eb; have HV8 := Aside0.mk hv_; have HB8 := Aside0.mk hv_.b; have hz_ : w8.cell? ⟨Mg27, 0, none⟩ = some (.slice Ab s1.best.length cb) := (blk_cell hv_.be 0).trans rfl; clear hv_) | (go_at_call 33; refine (ship_trucks.calls k Ab cb s1.best t1 _ (Kd.R_reads' HV8.out.rb).2.2 (Kd.R_reads' HV8.out.rb).2.1 H3.out).mono ?_; rintro e w9 ⟨v9, rfl, hs9, hb9⟩; have HS9 := Aside0.mk hs9; have HB9 := Aside0.mk (below_step HB8.out hb9); clear hs9 hb9))
    go_ret2
    exact ⟨_, rfl, Kd.S_lower HS9.out (below_size HB8.out), HB9.out⟩
  · rw [if_neg c3] at h
    have c3b0 : (e0 == 0) = false := beq_eq_false_iff_ne.mpr c3
    have c3b1 : (e0 != 0) = true := bne_iff_ne.mpr c3
    clear c3 h1
    simp only [Option.some.injEq, Prod.mk.injEq] at h
    obtain ⟨rfl, rfl⟩ := h
    go_enter Try.func16, Try.ntmps16
    go_wp2_with (first | ((with_reducible refine gate_dst (N := 2) rfl ?_); refine box_event ?hg (N := 2) ?hd (cs := #[.slice A0 l0.length c0]) (t := 30) ?hr ?_; (case hd => rfl); (case hg => rfl); (case hr => first | (go_simp; done) | (go_simp; rfl)); intro Mg1 hg_ Mw2 hbox_ hb_; have MB3 := Aside0.mk hbox_; have MG4 : Aside0 (w.heap.size ≤ Mg1) := ⟨by rw [hg_]; exact below_size HB.out⟩; have MH5 := Aside0.mk (below_step HB.out hb_); clear hbox_ hb_ hg_; have Mx6 : Mw2.cell? ⟨Mg1, 0, none⟩ = some (.slice A0 l0.length c0) := (blk_cell MB3.out 0).trans rfl; have Mz7 := blk_frozen MB3.out 0) | ((with_reducible refine gate_dst (N := 3) rfl ?_); refine box_event ?hg (N := 3) ?hd (cs := #[.int .i64 a1]) (t := 3) ?hr ?_; (case hd => rfl); (case hg => rfl); (case hr => first | (go_simp; done) | (go_simp; rfl)); intro Mg8 hg_ Mw9 hbox_ hb_; have MB10 := Aside0.mk hbox_; have MG11 : Aside0 (w.heap.size ≤ Mg8) := ⟨by rw [hg_]; exact below_size MH5.out⟩; have MN12 : Aside0 (Mg1 ≠ Mg8) := ⟨by rw [hg_]; exact Nat.ne_of_lt (blk_lt MB3.out)⟩; have MB13 := Aside0.mk (blk_below MB3.out hb_); have MH14 := Aside0.mk (below_step MH5.out hb_); clear hbox_ hb_ hg_; clear Mx6 Mz7; have Mx15 : Mw9.cell? ⟨Mg1, 0, none⟩ = some (.slice A0 l0.length c0) := (blk_cell MB13.out 0).trans rfl; have Mz16 := blk_frozen MB13.out 0; have Mx17 : Mw9.cell? ⟨Mg8, 0, none⟩ = some (.int .i64 a1) := (blk_cell MB10.out 0).trans rfl; have Mz18 := blk_frozen MB10.out 0) | (go_at_call 30; refine (ship_parcels.calls k A0 c0 l0 a1 10 e0 _ (Kd.C_below HR0.out MH14.out) HC0.out A1.out).mono ?_; rintro e Mw19 ⟨rfl, hb_⟩; have MB20 := Aside0.mk (blk_below MB13.out hb_); have MB21 := Aside0.mk (blk_below MB10.out hb_); have MH22 := Aside0.mk (below_step MH14.out hb_); clear hb_; clear Mx15 Mz16 Mx17 Mz18; have Mx23 : Mw19.cell? ⟨Mg1, 0, none⟩ = some (.slice A0 l0.length c0) := (blk_cell MB20.out 0).trans rfl; have Mz24 := blk_frozen MB20.out 0; have Mx25 : Mw19.cell? ⟨Mg8, 0, none⟩ = some (.int .i64 a1) := (blk_cell MB21.out 0).trans rfl; have Mz26 := blk_frozen MB21.out 0))
    go_ret2
    exact ⟨_, rfl, Kd.S_nil _ _ _ _ _, MH22.out⟩

end Go.Proofs.Ytegilakgfoglpaa.Q
