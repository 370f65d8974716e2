/- Laws on a map from whole numbers to bools that is used as a set, for every program in which the types are so. -/
import Derived.Maps.OwnSet
import Derived.WalkKit
namespace Go.Proofs.Ytegilakgfoglpaa.Mp
open Go Go.Maps

/-- Block b is a map in which the numbers of xs, and no others, are set. -/
def SetAt (P : Program) (k e : TypeId) (w : World) (b : Nat) (xs : List Int) : Prop :=
  w.ownsMap P k (plainElem (H := Unit) P e) b xs.length (setOf (.lit (.bool true)) (xs.map (Lit.int .i64)))
variable {P : Program} {k e : TypeId} {w w' : World} {b : Nat} {xs : List Int}
theorem keyLit (a : Int) : WideAt.IsKeyLit (Lit.int .i64 a) := by simp [WideAt.IsKeyLit]
theorem at_put (xs : List Int) : ∀ (D : DataW Unit), IsMap D → ∀ (a : Int) (z : DataW Unit), ((xs.map (Lit.int .i64)).foldl (fun m x => m.put x (.lit (.bool true))) D).atKey (Lit.int .i64 a) z = if a ∈ xs then .lit (.bool true) else D.atKey (Lit.int .i64 a) z := by
  induction xs with
  | nil => intro D _ a z; simp
  | cons y xs ih =>
    intro D hD a z
    rw [List.map_cons, List.foldl_cons, ih _ (hD.put _ _)]
    by_cases h : a ∈ xs
    · rw [if_pos h, if_pos (List.mem_cons_of_mem _ h)]
    · rw [if_neg h]
      by_cases e : a = y
      · subst e
        rw [if_pos List.mem_cons_self, atKey_put_same hD (keyLit a)]
      · rw [if_neg (by simp [e, h]), atKey_put_other (by intro h_; injection h_ with _ h_; exact e h_)]
theorem at_setOf (xs : List Int) (a : Int) (z : DataW Unit) : (setOf (.lit (.bool true)) (xs.map (Lit.int .i64))).atKey (Lit.int .i64 a) z = if a ∈ xs then .lit (.bool true) else z := by
  unfold setOf
  rw [at_put xs _ isMap_empty]
  rfl
theorem SetAt.made (w : World) : SetAt P k e (w.alloc (.map #[] 0)) w.heap.size [] := World.ownsMap_made w P k _
theorem SetAt.kept {row : Option Nat} (h : SetAt P k e w b xs) (hg : w.grownBy w' row) (hne : some b ≠ row) : SetAt P k e w' b xs := World.ownsMap.kept h hg hne
theorem SetAt.alloc (h : SetAt P k e w b xs) (o : Obj) : SetAt P k e (w.alloc o) b xs := World.ownsMap.alloc h o
theorem SetAt.drew (h : SetAt P k e w b xs) : SetAt P k e w.drew b xs := h
theorem SetAt.lt (h : SetAt P k e w b xs) : b < w.heap.size := World.ownsMap.lt h
theorem SetAt.below (h : SetAt P k e w b xs) (hb : RowKit.Below w.heap.size w w') : SetAt P k e w' b xs := by
  have hlt := h.lt
  obtain ⟨es, clock, h1, h2⟩ := h
  exact ⟨es, clock, (hb.block b hlt).trans h1, h2⟩
theorem wf_of {v : Int} (h0 : -9223372036854775808 ≤ v) (h1 : v ≤ 9223372036854775807) : (Lit.int .i64 v).wf = true := WalkArith.wf_i64 (by omega)
/-- 'm[k]'. -/
theorem set_lookup {ops : Array Oper} {rest : List Oper} {o : Oper} {a : Act} {Q : Exit → Act → World → Prop}
    (hg : o.guard = none) (m x : Operand) (t : TypeId) (hop : o.op = Op.lookup t m x false)
    (hk : P.underlying k = some (.int .i64)) (ht : P.underlying t = some (.map k e)) (he : P.underlying e = some .bool) (hz : (zeroValue e).run P w = .ok (.bool false) w)
    (hm : a.eval m = .map (some b)) (hs : SetAt P k e w b xs) (v : Int) (hx : a.eval x = .int .i64 v) (hv : (Lit.int .i64 v).wf = true)
    (hK : wpList P ops Q rest (a.put o.dst (.bool (decide (v ∈ xs)))) w) : wpList P ops Q (o :: rest) a w := by
  refine wpList_plain hg fun K' hK' => ?_
  obtain ⟨c, ps, hrun, hc⟩ := World.ownsMap.lookup hs (int_keyed hk) ht hz (plainElem_bool he false) (keyOf_int_mk hk hv)
  rw [at_setOf] at hc
  have hcv : c = .bool (decide (v ∈ xs)) := by
    unfold plainElem at hc
    rw [he] at hc
    cases c <;> simp at hc
    rename_i y
    congr 1
    by_cases h : v ∈ xs
    · rw [if_pos h] at hc; simp at hc; simp [h, hc]
    · rw [if_neg h] at hc; simp at hc; simp [h, hc]
  subst hcv
  unfold Oper.wp
  simp only [execOp, hop, hm, hx, hrun, Result.andThen, Sem.run_bind]
  simp
  exact hK' _ _ hK
/-- 'm[k] = true'. -/
theorem set_update {ops : Array Oper} {rest : List Oper} {o : Oper} {a : Act} {Q : Exit → Act → World → Prop}
    (hg : o.guard = none) (m x v : Operand) (t : TypeId) (hop : o.op = Op.mapUpdate t m x v)
    (hk : P.underlying k = some (.int .i64)) (ht : P.underlying t = some (.map k e)) (he : P.underlying e = some .bool)
    (hm : a.eval m = .map (some b)) (hs : SetAt P k e w b xs) (hn : xs.length < maxLen) (u : Int) (hx : a.eval x = .int .i64 u) (hv : a.eval v = .bool true) (hw : (Lit.int .i64 u).wf = true)
    (hK : ∀ w', SetAt P k e w' b (xs ++ [u]) → w.grownBy w' (some b) → wpList P ops Q rest (a.put o.dst undef) w') : wpList P ops Q (o :: rest) a w := by
  refine wpList_mapUpdate_own w hg m x v t hop k e (int_keyed hk) ht _ b xs.length _ hm hs hn _ _ (.int .i64 u) hx hv (keyOf_int_mk hk hw) (.lit (.bool true)) [] (plainElem_bool he true) fun w' h1 h2 => hK w' ?_ h2
  unfold SetAt
  rw [List.map_append, List.map_singleton, setOf_snoc, List.length_append, List.length_singleton]
  exact h1
end Go.Proofs.Ytegilakgfoglpaa.Mp
