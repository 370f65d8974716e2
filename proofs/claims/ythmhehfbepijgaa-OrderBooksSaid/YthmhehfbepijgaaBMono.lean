import Derived.Test.YthmhehfbepijgaaBWWords
import Derived.Test.YthmhehfbepijgaaBWLast
import Derived.Test.YthmhehfbepijgaaBWKept
import Derived.Test.YthmhehfbepijgaaBWShare
import Derived.Test.YthmhehfbepijgaaBWN
import Derived.Test.YthmhehfbepijgaaBPl
set_option linter.unusedVariables false
namespace Go.Proofs.Ythmhehfbepijgaa.Mono
open Go.RowKit Go.Proofs.YthmhehfbepijgaaW.PrintLast
def dstOf (ops : Array Oper) (i : Nat) : Option Tmp := (ops[i]?).bind (·.dst)
structure Fits (ops : Array Oper) (a0 a : Act) : Prop where
  defers : a.defers = a0.defers
  size : a.tmps.size = a0.tmps.size
  same : ∀ s, (∀ i, dstOf ops i ≠ some s) → a.tmps.getD s undef = a0.tmps.getD s undef
def Known (ops : Array Oper) (Φ : Nat → Value → World → Prop) (a : Act) (w : World) (i : Nat) : Prop := ∃ d, dstOf ops i = some d ∧ Φ i (a.tmps.getD d undef) w
theorem Known.out {ops : Array Oper} {Φ : Nat → Value → World → Prop} {a : Act} {w : World} {i : Nat} (h : Known ops Φ a w i) {d : Tmp} (hd : dstOf ops i = some d) : Φ i (a.tmps.getD d undef) w := by
  obtain ⟨d', h1, h2⟩ := h
  rw [hd] at h1
  obtain rfl := Option.some.inj h1
  exact h2
structure Reg (P : Program) (md : Region.Mode) (ops : Array Oper) (Q : Exit → Act → World → Prop) (Φ : Nat → Value → World → Prop) (Inv : World → Prop) (a0 : Act) : Prop where
  dst : ∀ i, i < ops.size → ∃ d, dstOf ops i = some d ∧ d < a0.tmps.size
  inj : ∀ i j d, dstOf ops i = some d → dstOf ops j = some d → i = j
  back : ∀ (j : Nat) (o : Oper), ops[j]? = some o → ∀ e ∈ o.after, e.on < j
  mono : ∀ i v w w', Below w.heap.size w w' → Φ i v w → Φ i v w'
  inv : ∀ w w', Below w.heap.size w w' → Inv w → Inv w'
  step : ∀ (i : Nat) (o : Oper) d, ops[i]? = some o → o.dst = some d → ∀ a w, Fits ops a0 a → Inv w → (∀ j, (o.after.any fun e => Region.binds md e && e.on == j) = true → Known ops Φ a w j) →
    wpOp P ops Q i (fun a' w' => ∃ v, a' = a.put (some d) v ∧ Φ i v w' ∧ Below w.heap.size w w') a w
def unl (n : Nat) (listed : Array Bool) : Nat := (List.range n).countP fun i => listed.getD i true == false
theorem countP_lt {α : Type} (l : List α) (p q : α → Bool) (h : ∀ x ∈ l, q x = true → p x = true) (x : α) (hx : x ∈ l) (hp : p x = true) (hq : q x = false) : l.countP q < l.countP p := by
  induction l with
  | nil => cases hx
  | cons y l ih =>
    have hle : l.countP q ≤ l.countP p := List.countP_mono_left fun z hz => h z (List.mem_cons_of_mem _ hz)
    rw [List.countP_cons, List.countP_cons]
    rcases List.mem_cons.1 hx with rfl | hx
    · simp [hp, hq]; omega
    · have := ih (fun z hz => h z (List.mem_cons_of_mem _ hz)) hx
      have hy := h y List.mem_cons_self
      by_cases hqy : q y = true
      · simp [hqy, hy hqy]; omega
      · simp [hqy]; omega
theorem put_getD (a : Act) (d : Tmp) (v : Value) (h : d < a.tmps.size) : (a.put (some d) v).tmps.getD d undef = v := by
  simp [Act.put, h]
theorem put_getD_ne (a : Act) (d s : Tmp) (v : Value) (h : d ≠ s) : (a.put (some d) v).tmps.getD s undef = a.tmps.getD s undef := by
  simp [Act.put, Array.getElem?_setIfInBounds_ne h]
theorem Reg.any {P : Program} {md : Region.Mode} {ops : Array Oper} {Q : Exit → Act → World → Prop} {Φ : Nat → Value → World → Prop} {Inv : World → Prop} {a0 : Act} (R : Reg P md ops Q Φ Inv a0)
    (hend : ∀ a w, Fits ops a0 a → Inv w → (∀ i, i < ops.size → Known ops Φ a w i) → Q .normal a w) :
    ∀ (fuel : Nat) (listed : Array Bool) (a : Act) (w : World), ListedClosed md ops listed → listed.size = ops.size → unl ops.size listed ≤ fuel → Fits ops a0 a → Inv w →
      (∀ i, i < ops.size → listed.getD i false = true → Known ops Φ a w i) → wpAny P md ops Q fuel listed a w := by
  have hall : ∀ (listed : Array Bool), listed.size = ops.size → Region.ready md ops listed = [] → ∀ i, i < ops.size → listed.getD i false = true := by
    intro listed hs hr i
    induction i using Nat.strongRecOn with
    | _ i ih =>
      intro hi
      cases hl : listed.getD i true with
      | true => have hi' : i < listed.size := by omega
                simpa [hi'] using hl
      | false =>
        exfalso
        have ho : ops[i]? = some ops[i] := Array.getElem?_eq_getElem hi
        have : i ∈ Region.ready md ops listed := mem_ready.2 ⟨hl, _, ho, fun e he _ => ih e.on (R.back i _ ho e he) (Nat.lt_trans (R.back i _ ho e he) hi)⟩
        rw [hr] at this
        cases this
  intro fuel
  induction fuel with
  | zero =>
    intro listed a w _ hs hu hf hI hk
    have hr : Region.ready md ops listed = [] := by
      rw [List.eq_nil_iff_forall_not_mem]
      intro i hi
      obtain ⟨hl, o, ho, _⟩ := mem_ready.1 hi
      have hlt : i < ops.size := (Array.getElem?_eq_some_iff.1 ho).1
      have : 0 < unl ops.size listed := List.countP_pos_iff.2 ⟨i, List.mem_range.2 hlt, by rw [hl]; rfl⟩
      omega
    exact ⟨hr, hend a w hf hI fun i hi => hk i hi (hall listed hs hr i hi)⟩
  | succ fuel ih =>
    intro listed a w hc hs hu hf hI hk
    refine ⟨fun hr => hend a w hf hI fun i hi => hk i hi (hall listed hs hr i hi), fun i hi => ?_⟩
    obtain ⟨hl, o, ho, hafter⟩ := mem_ready.1 hi
    have hlt : i < ops.size := (Array.getElem?_eq_some_iff.1 ho).1
    obtain ⟨d, hd, hds⟩ := R.dst i hlt
    have hod : o.dst = some d := by simpa [dstOf, ho] using hd
    refine wpOp_mono ?_ (R.step i o d ho hod a w hf hI fun j hj => ?_)
    · rintro a' w' ⟨v, rfl, hv, hb⟩
      have hne : ∀ s, (∀ i, dstOf ops i ≠ some s) → d ≠ s := fun s hn e => hn i (e ▸ hd)
      refine ih _ _ _ (hc.set hi) (by simpa using hs) ?_ ⟨?_, ?_, ?_⟩ (R.inv _ _ hb hI) ?_
      · have h1 : unl ops.size (listed.setIfInBounds i true) < unl ops.size listed := by
          refine countP_lt _ _ _ (fun x _ hx => ?_) i (List.mem_range.2 hlt) (by rw [hl]; rfl) ?_
          · by_cases hix : i = x
            · subst hix
              have : i < listed.size := by omega
              simp [this] at hx
            · rw [getD_set_ne true hix] at hx; exact hx
          · have : i < listed.size := by omega
            simp [this]
        omega
      · show (a.put (some d) v).defers = _
        simpa [Act.put] using hf.defers
      · show (a.put (some d) v).tmps.size = _
        simpa [Act.put] using hf.size
      · intro s hn
        rw [put_getD_ne _ _ _ _ (hne s hn)]
        exact hf.same s hn
      · intro j hj hlj
        obtain ⟨dj, hdj, hdjs⟩ := R.dst j hj
        by_cases hij : i = j
        · subst hij
          refine ⟨d, hd, ?_⟩
          rw [put_getD _ _ _ (by rw [hf.size]; exact hds)]
          exact hv
        · refine ⟨dj, hdj, ?_⟩
          have hdd : d ≠ dj := fun e => hij (R.inj i j d hd (e ▸ hdj))
          rw [put_getD_ne _ _ _ _ hdd]
          rw [getD_set_ne false hij] at hlj
          exact R.mono _ _ _ _ hb ((hk j hj hlj).out hdj)
    ·
      obtain ⟨e, he, h1⟩ := Array.any_eq_true'.1 hj
      simp only [Bool.and_eq_true, beq_iff_eq] at h1
      have hjl := hafter e he h1.1
      rw [h1.2] at hjl
      have hjn : j < ops.size := by
        rcases Nat.lt_or_ge j listed.size with h' | h'
        · omega
        · simp [Array.getElem?_eq_none h'] at hjl
      exact hk j hjn hjl
theorem Reg.wp {P : Program} {ops : Array Oper} {Q : Exit → Act → World → Prop} {Φ : Nat → Value → World → Prop} {Inv : World → Prop} {a0 : Act} {w : World} {id : Nat} (R : Reg P .any ops Q Φ Inv a0) (hm : P.follows .mixedOrders = true) (hI : Inv w.drew)
    (hend : ∀ a w, Fits ops a0 a → Inv w → (∀ i, i < ops.size → Known ops Φ a w i) → Q .normal a w) : (Code.region id ops true).wp P Q a0 w :=
  wp_region_any hm (R.any hend ops.size _ a0 _ (fun j oj hj hl => by
      have hlt : j < ops.size := (Array.getElem?_eq_some_iff.1 hj).1
      simp [hlt] at hl) (by simp) (by
      unfold unl
      exact Nat.le_trans List.countP_le_length (by simp)) ⟨rfl, rfl, fun _ _ => rfl⟩ hI (fun i hi hl => by simp [hi] at hl))
def okB (ops : Array Oper) (n : Nat) : Bool :=
  ((List.range ops.size).all fun i => match dstOf ops i with | some d => decide (d < n) | none => false) &&
  ((List.range ops.size).all fun i => (List.range ops.size).all fun j => i == j || dstOf ops i != dstOf ops j) &&
  ((List.range ops.size).all fun j => match ops[j]? with | some o => o.after.all fun e => decide (e.on < j) | none => true)
theorem dstOf_lt {ops : Array Oper} {i : Nat} {d : Tmp} (h : dstOf ops i = some d) : i < ops.size := by
  rcases Nat.lt_or_ge i ops.size with h' | h'
  · exact h'
  · simp [dstOf, Array.getElem?_eq_none h'] at h
theorem Reg.ofB {P : Program} {md : Region.Mode} {ops : Array Oper} {Q : Exit → Act → World → Prop} {Φ : Nat → Value → World → Prop} {Inv : World → Prop} {a0 : Act} {n : Nat} (hn : a0.tmps.size = n) (hB : okB ops n = true)
    (mono : ∀ i v w w', Below w.heap.size w w' → Φ i v w → Φ i v w') (inv : ∀ w w', Below w.heap.size w w' → Inv w → Inv w')
    (step : ∀ (i : Nat) (o : Oper) d, ops[i]? = some o → o.dst = some d → ∀ a w, Fits ops a0 a → Inv w → (∀ j, (o.after.any fun e => Region.binds md e && e.on == j) = true → Known ops Φ a w j) →
      wpOp P ops Q i (fun a' w' => ∃ v, a' = a.put (some d) v ∧ Φ i v w' ∧ Below w.heap.size w w') a w) : Reg P md ops Q Φ Inv a0 := by
  simp only [okB, Bool.and_eq_true] at hB
  obtain ⟨⟨h1, h2⟩, h3⟩ := hB
  refine ⟨fun i hi => ?_, fun i j d hi hj => ?_, fun j o hj e he => ?_, mono, inv, step⟩
  · have := List.all_eq_true.1 h1 i (List.mem_range.2 hi)
    cases hd : dstOf ops i with
    | none => rw [hd] at this; cases this
    | some d => rw [hd] at this; exact ⟨d, rfl, by rw [hn]; simpa using this⟩
  · have := List.all_eq_true.1 (List.all_eq_true.1 h2 i (List.mem_range.2 (dstOf_lt hi))) j (List.mem_range.2 (dstOf_lt hj))
    rw [hi, hj] at this
    simpa using this
  · have hlt : j < ops.size := (Array.getElem?_eq_some_iff.1 hj).1
    have := List.all_eq_true.1 h3 j (List.mem_range.2 hlt)
    rw [hj] at this
    simpa using Array.all_eq_true_iff_forall_mem.1 this e he
theorem start {P : Program} {ops : Array Oper} {Q : Exit → Act → World → Prop} {a0 : Act} {w : World} {id : Nat} {b : Bool} (h : ∀ ops', ops' = ops → (Code.region id ops' b).wp P Q a0 w) : (Code.region id ops b).wp P Q a0 w := h ops rfl
section
variable {P : Program} {ops : Array Oper} {Q : Exit → Act → World → Prop} {i : Nat} {o : Oper} {d : Tmp} {a : Act} {w : World} {K : Act → World → Prop} {Ψ : Value → World → Prop}
theorem wanted_none (hg : o.guard = none) : Region.wanted o (yielded ops a.tmps) = true := by simp [Region.wanted, hg]
theorem wanted_some {g : Nat} {b : Bool} {dg : Tmp} (hg : o.guard = some (g, b)) (hd : dstOf ops g = some dg) (hs : dg < a.tmps.size) (hv : a.tmps.getD dg undef = .bool b) : Region.wanted o (yielded ops a.tmps) = true := by
  have : a.tmps[dg]? = some (.bool b) := by
    rw [Array.getElem?_eq_getElem hs]
    simpa [hs] using hv
  have hd' : (ops[g]?).bind (·.dst) = some dg := hd
  simp [Region.wanted, hg, yielded, hd', this]
theorem step_value (ho : ops[i]? = some o) (hd : o.dst = some d) (hw : Region.wanted o (yielded ops a.tmps) = true) {v : Value} {w1 : World} (hrun : (execOp a.eval o).run P w = .ok (.value v) w1) (hv : Ψ v w1) (hb : Below w.heap.size w w1) :
    wpOp P ops Q i (fun a' w' => ∃ v, a' = a.put (some d) v ∧ Ψ v w' ∧ Below w.heap.size w w') a w :=
  wpOp_step ho fun K' hK => by rw [hd]; exact value_ (N := some d) hw hd hrun (hK _ _ ⟨v, rfl, hv, hb⟩)
theorem step_call (ho : ops[i]? = some o) (hd : o.dst = some d) (hw : Region.wanted o (yielded ops a.tmps) = true) {f : FuncId} {fn : Func} {as : Array Operand} {ts : Array TypeId} (hf : P.funcs[f]? = some fn) (hname : (fn.name == "runtime.NumGoroutine") = false) (hbd : fn.body.isSome = true) (args : Array Value)
    (hop : o.op = .call { callee := .value (.func f), args := as, argTypes := ts }) (hargs : as.map a.eval = args)
    (h : Calls P f args w fun e w' => ∃ v, e = .returned v ∧ Ψ v w' ∧ Below w.heap.size w w') : wpOp P ops Q i (fun a' w' => ∃ v, a' = a.put (some d) v ∧ Ψ v w' ∧ Below w.heap.size w w') a w :=
  wpOp_step ho fun K' hK => by rw [hd]; exact goes_ (N := some d) hf hname hbd args hw hd hop hargs (h.mono fun e w' ⟨v, he, hv, hb⟩ => ⟨v, he, hK _ _ ⟨v, rfl, hv, hb⟩⟩)
theorem run_move {x : Operand} (hop : o.op = .move x) : (execOp a.eval o).run P w = .ok (.value (a.eval x)) w := by simp [execOp, hop]
theorem run_assign {x : Operand} (hop : o.op = .assign x) : (execOp a.eval o).run P w = .ok (.value (a.eval x)) w := by simp [execOp, hop]
theorem run_pick {c x y : Operand} {b : Bool} (hop : o.op = .pick c x y) (hc : a.eval c = .bool b) : (execOp a.eval o).run P w = .ok (.value (if b then a.eval x else a.eval y)) w := by
  simp [execOp, hop, hc, asBool]
end
end Go.Proofs.Ythmhehfbepijgaa.Mono
