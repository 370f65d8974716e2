import Derived.Maps.OwnSet
import Derived.WalkKit
import Derived.Test.YthmhehfbepijgaaBWWords
import Derived.Test.YthmhehfbepijgaaBWLast
import Derived.Test.YthmhehfbepijgaaBWKept
namespace Go.Proofs.Ythmhehfbepijgaa.Plm
open Go Go.Maps Go.ChangeMaps Go.MapKept
def placeElem : Value → Option (DataW Unit × List MemPlace)
  | .agg cs => match cs.toList with
    | [.int .i64 e, .bool s] => some (.agg [.lit (.int .i64 e), .lit (.bool s)], [])
    | _ => none
  | _ => none
def plD (p : Int × Bool) : DataW Unit := .agg [.lit (.int .i64 p.1), .lit (.bool p.2)]
theorem placeElem_mk (e : Int) (s : Bool) : placeElem (.agg #[.int .i64 e, .bool s]) = some (plD (e, s), []) := rfl
theorem placeElem_inv {v : Value} {p : Int × Bool} {ps : List MemPlace} (h : placeElem v = some (plD p, ps)) : v = .agg #[.int .i64 p.1, .bool p.2] := by
  unfold placeElem at h
  split at h
  · rename_i cs
    split at h
    · rename_i e s heq
      simp only [plD, Option.some.injEq, Prod.mk.injEq, DataW.agg.injEq, List.cons.injEq, DataW.lit.injEq, Lit.int.injEq, Lit.bool.injEq, true_and, and_true] at h
      obtain ⟨⟨h1, h2⟩, _⟩ := h
      rw [← h1, ← h2]
      congr 1
      exact Array.toList_inj.1 heq
    · exact absurd h (by simp)
  · exact absurd h (by simp)
def PlAt (P : Program) (k : TypeId) (w : World) (b n : Nat) (f : Int → Option (Int × Bool)) : Prop :=
  ∃ D : DataW Unit, w.ownsMap P k placeElem b n D ∧ ∀ (a : Int) (z : DataW Unit), D.atKey (Lit.int .i64 a) z = match f a with | some p => plD p | none => z
def plUpd (f : Int → Option (Int × Bool)) (u : Int) (p : Option (Int × Bool)) : Int → Option (Int × Bool) := fun a => if a = u then p else f a
variable {P : Program} {k e : TypeId} {w w' : World} {b n : Nat} {f : Int → Option (Int × Bool)}
theorem keyLit (a : Int) : WideAt.IsKeyLit (Lit.int .i64 a) := by simp [WideAt.IsKeyLit]
theorem PlAt.made (w : World) : PlAt P k (w.alloc (.map #[] 0)) w.heap.size 0 (fun _ => none) := ⟨_, World.ownsMap_made w P k _, fun _ _ => rfl⟩
theorem PlAt.kept {row : Option Nat} (h : PlAt P k w b n f) (hg : w.grownBy w' row) (hne : some b ≠ row) : PlAt P k w' b n f := by
  obtain ⟨D, h1, h2⟩ := h
  exact ⟨D, World.ownsMap.kept h1 hg hne, h2⟩
theorem PlAt.lt (h : PlAt P k w b n f) : b < w.heap.size := by
  obtain ⟨D, h1, _⟩ := h
  exact World.ownsMap.lt h1
theorem PlAt.same (h : PlAt P k w b n f) (he : w'.heap[b]? = w.heap[b]?) : PlAt P k w' b n f := by
  obtain ⟨D, ⟨es, clock, h1, h2⟩, h3⟩ := h
  exact ⟨D, ⟨es, clock, he.trans h1, h2⟩, h3⟩
theorem PlAt.below (h : PlAt P k w b n f) (hb : RowKit.Below w.heap.size w w') : PlAt P k w' b n f := h.same (hb.block b h.lt)
theorem PlAt.has (h : PlAt P k w b n f) : ∃ es clock, w.heap[b]? = some (.map es clock) := by
  obtain ⟨D, ⟨es, clock, h1, _⟩, _⟩ := h
  exact ⟨es, clock, h1⟩
theorem wf_of {v : Int} (h0 : -9223372036854775808 ≤ v) (h1 : v ≤ 9223372036854775807) : (Lit.int .i64 v).wf = true := WalkArith.wf_i64 (by omega)
section
variable {ops : Array Oper} {rest : List Oper} {o : Oper} {a : Act} {Q : Exit → Act → World → Prop}
theorem pl_lookup (hg : o.guard = none) (m x : Operand) (t : TypeId) (hop : o.op = Op.lookup t m x false)
    (hk : P.underlying k = some (.int .i64)) (ht : P.underlying t = some (.map k e)) (hz : (zeroValue e).run P w = .ok (.agg #[.int .i64 0, .bool false]) w)
    (hm : a.eval m = .map (some b)) (hs : PlAt P k w b n f) (v : Int) (hx : a.eval x = .int .i64 v) (hv : (Lit.int .i64 v).wf = true)
    (hK : wpList P ops Q rest (a.put o.dst (.agg #[.int .i64 ((f v).getD (0, false)).1, .bool ((f v).getD (0, false)).2])) w) : wpList P ops Q (o :: rest) a w := by
  obtain ⟨D, h1, h2⟩ := hs
  refine wpList_plain hg fun K' hK' => ?_
  obtain ⟨c, ps, hrun, hc⟩ := World.ownsMap.lookup h1 (int_keyed hk) ht hz (placeElem_mk 0 false) (keyOf_int_mk hk hv)
  rw [h2] at hc
  have hcv : c = .agg #[.int .i64 ((f v).getD (0, false)).1, .bool ((f v).getD (0, false)).2] := by
    cases hf : f v with
    | none => rw [hf] at hc; exact placeElem_inv hc
    | some p => rw [hf] at hc; exact placeElem_inv hc
  subst hcv
  unfold Oper.wp
  simp only [execOp, hop, hm, hx, hrun, Result.andThen, Sem.run_bind]
  simp
  exact hK' _ _ hK
theorem pl_lookup_ok (hg : o.guard = none) (m x : Operand) (t : TypeId) (hop : o.op = Op.lookup t m x true)
    (hk : P.underlying k = some (.int .i64)) (ht : P.underlying t = some (.map k e)) (hz : (zeroValue e).run P w = .ok (.agg #[.int .i64 0, .bool false]) w)
    (hm : a.eval m = .map (some b)) (hs : PlAt P k w b n f) (v : Int) (hx : a.eval x = .int .i64 v) (hv : (Lit.int .i64 v).wf = true)
    (hK : wpList P ops Q rest (a.put o.dst (.tuple #[.agg #[.int .i64 ((f v).getD (0, false)).1, .bool ((f v).getD (0, false)).2], .bool (f v).isSome])) w) : wpList P ops Q (o :: rest) a w := by
  obtain ⟨D, h1, h2⟩ := hs
  refine wpList_lookup_own_ok w hg m x t hop k e (int_keyed hk) ht placeElem hz (plD (0, false)) [] (placeElem_mk 0 false) b n D hm h1 _ (.int .i64 v) hx (keyOf_int_mk hk hv) fun c ps hc => ?_
  rw [h2] at hc
  have hcv : c = .agg #[.int .i64 ((f v).getD (0, false)).1, .bool ((f v).getD (0, false)).2] := by
    cases hf : f v with
    | none => rw [hf] at hc; exact placeElem_inv hc
    | some p => rw [hf] at hc; exact placeElem_inv hc
  have hh : Maps.has D (.int .i64 v) = (f v).isSome := by
    cases hf : f v with
    | none => exact has_false_of_atKey (fun z => (h2 v z).trans (by rw [hf]))
    | some p => exact has_true_of_atKey (fun z => (h2 v z).trans (by rw [hf]))
  subst hcv
  rw [hh]
  exact hK
theorem pl_update (hg : o.guard = none) (m x v : Operand) (t : TypeId) (hop : o.op = Op.mapUpdate t m x v)
    (hk : P.underlying k = some (.int .i64)) (ht : P.underlying t = some (.map k e))
    (hm : a.eval m = .map (some b)) (hs : PlAt P k w b n f) (hn : n < maxLen) (u : Int) (hx : a.eval x = .int .i64 u) (i : Int) (s : Bool) (hv : a.eval v = .agg #[.int .i64 i, .bool s]) (hw : (Lit.int .i64 u).wf = true)
    (hK : ∀ w', PlAt P k w' b (n + 1) (plUpd f u (some (i, s))) → w.grownBy w' (some b) → wpList P ops Q rest (a.put o.dst undef) w') : wpList P ops Q (o :: rest) a w := by
  obtain ⟨D, h1, h2⟩ := hs
  refine wpList_mapUpdate_own w hg m x v t hop k e (int_keyed hk) ht _ b n D hm h1 hn _ _ (.int .i64 u) hx hv (keyOf_int_mk hk hw) (plD (i, s)) [] (placeElem_mk i s) fun w' r1 r2 => hK w' ⟨_, r1, fun a' z => ?_⟩ r2
  unfold plUpd
  by_cases h : a' = u
  · subst h; rw [if_pos rfl, atKey_put_same h1.isMap (keyLit a')]
  · rw [if_neg h, atKey_put_other (by intro h_; injection h_ with _ h_; exact h h_)]; exact h2 a' z
theorem turned_grown (h : w.mapTurned w' b) : w.grownBy w' (some b) := by
  obtain ⟨es, clock, es', clock', hb, rfl⟩ := h
  exact ⟨rfl, rfl, rfl, by simp [setBlock], fun i _ hi => heap_setBlock_other hb _ (fun e => hi (by rw [e]))⟩
theorem pl_delete_step {Kc : Act → World → Prop} (hwt : Region.wanted o (yielded ops a.tmps) = true) (m x : Operand) (t : TypeId) (hop : o.op = Op.call { callee := Callee.builtin Builtin.delete, args := #[m, x], argTypes := #[t, k] })
    (hk : P.underlying k = some (.int .i64)) (ht : P.underlying t = some (.map k e))
    (hm : a.eval m = .map (some b)) (hs : PlAt P k w b n f) (u : Int) (hx : a.eval x = .int .i64 u) (hw : (Lit.int .i64 u).wf = true)
    (hK : ∀ w', PlAt P k w' b n (plUpd f u none) → w.grownBy w' (some b) → Kc (a.put o.dst (.tuple #[])) w') : if Region.wanted o (yielded ops a.tmps) = true then Oper.wp P o a w Kc Q else Kc (a.put o.dst undef) w := by
  obtain ⟨D, h1, h2⟩ := hs
  rw [if_pos hwt]
  obtain ⟨w', hrun, r1, r2⟩ := World.ownsMap.drop h1 (int_keyed hk) ht (keyOf_int_mk hk hw) o.type
  have hr : PlAt P k w' b n (plUpd f u none) := ⟨_, r1, fun a' z => by
    unfold plUpd
    by_cases h : a' = u
    · subst h; rw [if_pos rfl, atKey_del_same]
    · rw [if_neg h, atKey_del_other (by intro h_; injection h_ with _ h_; exact h h_)]; exact h2 a' z⟩
  unfold Oper.wp
  simp [execOp, hop, resolve, invoke, builtin, hm, hx, hrun, Result.andThen]
  exact hK w' hr (turned_grown r2)
end
end Go.Proofs.Ythmhehfbepijgaa.Plm
