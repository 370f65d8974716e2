/- Plain Lean functions of the Go functions, and proofs that the Go calls come to them; laid out by this session's program wip/tools/hp.py. -/
import Derived.Test.YthmhehfbepijgaaQ0
import Derived.Test.YthmhehfbepijgaaQ5
import Derived.Test.YthmhehfbepijgaaQ7
import Derived.Test.YthmhehfbepijgaaQ11
namespace Go.Proofs.Ythmhehfbepijgaa.Q
open Go.RowKit Go.Proofs.YthmhehfbepijgaaW.PrintWords Go.Proofs.YthmhehfbepijgaaW.PrintLast Go.Proofs.YthmhehfbepijgaaW.PrintMore
attribute [local go_sem] max2_int min2_int max_two min_two max_three min_three max_four min_four   -- for this text's walks alone
set_option linter.unusedVariables false
set_option linter.unusedSimpArgs false

/-! ### papermilllaw51_OrderCopies: function 9, by hand -/
/-! ### A copy of a book -/
/-- The places of the rolls l, which are entry i's, over g. -/
def cpyL (f : Int → Option (Int × Bool)) (i : Nat) (l : List Int) (g : Int → Option (Int × Bool)) : Int → Option (Int × Bool) := l.foldl (fun g n => Plm.plUpd g n (some ((i : Int), ((f n).getD (0, false)).2))) g
/-- The places of the first k entries' rolls. -/
def cpy (f : Int → Option (Int × Bool)) (es : List S68) : Nat → Int → Option (Int × Bool)
  | 0 => fun _ => none
  | k + 1 => cpyL f k (rd_T68 es (k : Int)).f1 (cpy f es k)
theorem cpyL_snoc (f : Int → Option (Int × Bool)) (i : Nat) (l : List Int) (n : Int) (g : Int → Option (Int × Bool)) : cpyL f i (l ++ [n]) g = Plm.plUpd (cpyL f i l g) n (some ((i : Int), ((f n).getD (0, false)).2)) := by
  unfold cpyL
  rw [List.foldl_append]
  rfl
theorem cpyL_at (f : Int → Option (Int × Bool)) (i : Nat) : ∀ (l : List Int) (g : Int → Option (Int × Bool)) (n : Int), cpyL f i l g n = if n ∈ l then some ((i : Int), ((f n).getD (0, false)).2) else g n
  | [], g, n => by rw [if_neg (by simp)]; rfl
  | x :: t, g, n => by
    have h := cpyL_at f i t (Plm.plUpd g x (some ((i : Int), ((f x).getD (0, false)).2))) n
    show cpyL f i t _ n = _
    rw [h]
    by_cases ht : n ∈ t
    · rw [if_pos ht, if_pos (List.mem_cons_of_mem _ ht)]
    · rw [if_neg ht]
      unfold Plm.plUpd
      by_cases hx : n = x
      · subst hx
        rw [if_pos rfl, if_pos List.mem_cons_self]
      · rw [if_neg hx, if_neg (fun h => (List.mem_cons.1 h).elim hx ht)]
theorem cpy_none {B : Bk} {T : Nat} (hi : B.Inv T) {n : Int} (hn : B.asg n = none) : ∀ k, k ≤ B.es.length → cpy B.asg B.es k n = none
  | 0, _ => rfl
  | k + 1, hk => by
    have hx : B.es[k]? = some B.es[k] := List.getElem?_eq_getElem (by omega)
    show cpyL _ _ _ _ n = none
    rw [cpyL_at, rd68_of hx, if_neg, cpy_none hi hn k (by omega)]
    intro hm
    obtain ⟨s, hs⟩ := (hi.ent k _ hx).fwd n hm
    rw [hn] at hs
    cases hs
theorem cpy_some {B : Bk} {T : Nat} (hi : B.Inv T) {n : Int} {i : Nat} {s : Bool} {x : S68} (hn : B.asg n = some ((i : Int), s)) (hx : B.es[i]? = some x) (hm : n ∈ x.f1) : ∀ k, k ≤ B.es.length → i < k → cpy B.asg B.es k n = some ((i : Int), s)
  | 0, _, h => absurd h (Nat.not_lt_zero _)
  | k + 1, hk, h => by
    have hy : B.es[k]? = some B.es[k] := List.getElem?_eq_getElem (by omega)
    show cpyL _ _ _ _ n = _
    rw [cpyL_at, rd68_of hy]
    by_cases e : i = k
    · subst e
      rw [hx] at hy
      rw [← Option.some.inj hy, if_pos hm, hn]
      rfl
    · rw [if_neg, cpy_some hi hn hx hm k (by omega) (by omega)]
      intro hm'
      obtain ⟨s', hs⟩ := (hi.ent k _ hy).fwd n hm'
      rw [hn] at hs
      injection hs with hs
      injection hs with hs _
      exact e (by omega)
theorem cpy_all {B : Bk} {T : Nat} (hi : B.Inv T) : cpy B.asg B.es B.es.length = B.asg := by
  funext n
  cases hn : B.asg n with
  | none => exact cpy_none hi hn _ (Nat.le_refl _)
  | some p =>
    obtain ⟨k, s⟩ := p
    obtain ⟨i, x, rfl, hx, hm⟩ := hi.bwd n k s hn
    exact cpy_some hi hn hx hm _ (Nat.le_refl _) (List.getElem?_eq_some_iff.1 hx).1
theorem Bk.Inv.copy {B : Bk} {T n : Nat} (hi : B.Inv T) (hn : n ≤ 100 * T) : (⟨B.es, n, B.asg⟩ : Bk).Inv T := ⟨hi.es, hn, hi.ent, hi.ids, hi.bwd⟩
theorem es_take {l : List S68} {k : Nat} (h : k < l.length) : l.take (k + 1) = l.take k ++ [rd_T68 l (k : Int)] := by
  rw [List.take_succ_eq_append_getElem h, rd68_of (List.getElem?_eq_getElem h)]
section
open Go Go.Maps Go.ChangeMaps Go.MapKept Plm
variable {P : Program} {k e : TypeId} {w : World} {b n : Nat} {f : Int → Option (Int × Bool)} {ops : Array Oper} {o : Oper} {a : Act} {Q : Exit → Act → World → Prop} {Kc : Act → World → Prop}
theorem pl_update_step (hwt : Region.wanted o (yielded ops a.tmps) = true) (m x v : Operand) (t : TypeId) (hop : o.op = Op.mapUpdate t m x v)
    (hk : P.underlying k = some (.int .i64)) (ht : P.underlying t = some (.map k e))
    (hm : a.eval m = .map (some b)) (hs : PlAt P k w b n f) (hn : n < maxLen) (u : Int) (hx : a.eval x = .int .i64 u) (i : Int) (s : Bool) (hv : a.eval v = .agg #[.int .i64 i, .bool s]) (hw : (Lit.int .i64 u).wf = true)
    (hK : ∀ w', PlAt P k w' b (n + 1) (plUpd f u (some (i, s))) → w.grownBy w' (some b) → Kc (a.put o.dst undef) w') : if Region.wanted o (yielded ops a.tmps) = true then Oper.wp P o a w Kc Q else Kc (a.put o.dst undef) w := by
  obtain ⟨D, h1, h2⟩ := hs
  rw [if_pos hwt]
  obtain ⟨w', hrun, r1, r2⟩ := h1.update (int_keyed hk) ht hn (keyOf_int_mk hk hw) (placeElem_mk i s)
  have hr : PlAt P k w' b (n + 1) (plUpd f u (some (i, s))) := ⟨_, r1, fun a' z => by
    unfold plUpd
    by_cases h : a' = u
    · subst h; rw [if_pos rfl, atKey_put_same h1.isMap (keyLit a')]
    · rw [if_neg h, atKey_put_other (by intro h_; injection h_ with _ h_; exact h h_)]; exact h2 a' z⟩
  unfold Oper.wp
  simp [execOp, hop, hm, hx, hv, hrun, Result.andThen]
  exact hK w' hr r2
theorem pl_lookup_step (hwt : Region.wanted o (yielded ops a.tmps) = true) (m x : Operand) (t : TypeId) (hop : o.op = Op.lookup t m x false)
    (hk : P.underlying k = some (.int .i64)) (ht : P.underlying t = some (.map k e)) (hz : (zeroValue e).run P w = .ok (.agg #[.int .i64 0, .bool false]) w)
    (hm : a.eval m = .map (some b)) (hs : PlAt P k w b n f) (v : Int) (hx : a.eval x = .int .i64 v) (hv : (Lit.int .i64 v).wf = true)
    (hK : Kc (a.put o.dst (.agg #[.int .i64 ((f v).getD (0, false)).1, .bool ((f v).getD (0, false)).2])) w) : if Region.wanted o (yielded ops a.tmps) = true then Oper.wp P o a w Kc Q else Kc (a.put o.dst undef) w := by
  obtain ⟨D, h1, h2⟩ := hs
  rw [if_pos hwt]
  obtain ⟨c, ps, hrun, hc⟩ := World.ownsMap.lookup h1 (int_keyed hk) ht hz (placeElem_mk 0 false) (keyOf_int_mk hk hv)
  rw [h2] at hc
  have hcv : c = .agg #[.int .i64 ((f v).getD (0, false)).1, .bool ((f v).getD (0, false)).2] := by
    cases hf : f v with
    | none => rw [hf] at hc; exact placeElem_inv hc
    | some p => rw [hf] at hc; exact placeElem_inv hc
  subst hcv
  unfold Oper.wp
  simp only [execOp, hop, hm, hx, hrun, Result.andThen, Sem.run_bind]
  simp
  exact hK
end
def copy.T8 : Bool × List (List Nat × List Nat) := (true, [([], []), ([], []), ([1], [1]), ([2], [2]), ([3], [3]), ([], []), ([5], [5]), ([4, 6], [4, 6]), ([0, 0, 1, 2, 3, 4, 5, 6, 7], [0]), ([8, 0, 1, 2, 3, 4, 5, 6, 7], [8]), ([9, 7, 7, 0, 1, 2, 3, 4, 5, 6, 7], [7, 9])])
def copy.B8 : List Nat := [0, 0, 2, 6, 14, 0, 32, 126, 255, 511, 1023]
theorem copy.tab8 : rtab .any (opsOf Try.f32 8) = copy.T8 := by kernel_rfl
theorem copy.bits8 : waitsOk copy.T8.2 copy.B8 = true := by kernel_rfl
def copy.T12 : Bool × List (List Nat × List Nat) := (true, [([], []), ([0], [0]), ([1], [1]), ([2], [2]), ([], []), ([], []), ([], []), ([6], [6]), ([7], [7]), ([8], [8]), ([], []), ([9, 10], [9, 10]), ([11], [11]), ([5, 12], [5, 12]), ([3, 4, 13, 0, 1, 2, 3, 4, 5, 6, 7, 8, 9, 10, 11, 12, 13], [3, 4, 13])])
def copy.B12 : List Nat := [0, 1, 3, 7, 0, 0, 0, 64, 192, 448, 0, 1984, 4032, 8160, 16383]
theorem copy.tab12 : rtab .any (opsOf Try.f32 12) = copy.T12 := by kernel_rfl
theorem copy.bits12 : waitsOk copy.T12.2 copy.B12 = true := by kernel_rfl
set_option maxHeartbeats 16000000 in
set_option maxRecDepth 100000 in
theorem Copy_calls {base : Nat} {P : Nat → Prop} {pb pm : Nat} {ve : Value} {B : Bk} {T : Nat} (W : World) (hB : BAt base P pb ve pm W B) (hi : B.Inv T) (hT : T ≤ 900) :
    Calls Try.prog 32 #[.pointer (some ⟨pb, 0, none⟩)] W fun e w' => ∃ pc pmc vc n, e = .returned (.pointer (some ⟨pc, 0, none⟩)) ∧ BAt W.heap.size (fun k => W.heap.size ≤ k) pc vc pmc w' ⟨B.es, n, B.asg⟩ ∧ n ≤ 100 * T ∧ Below W.heap.size W w' := by
  have hu61 := Try.underlying61
  have hu68 := Try.underlying68
  have hu65 := Try.underlying65
  have hu23 := Try.underlying23
  have hf65 := field65
  obtain ⟨A, c, rfl⟩ := hB.slice
  have HBA := Aside0.mk hB
  have HI := Aside0.mk hi
  have HOK := Aside0.mk (hi.ok hT)
  have HT := Aside0.mk hT
  have hes := hi.es
  have x0 : W.cell? ⟨pb, 0, none⟩ = some (.slice A B.es.length c) := (blk_cell hB.blk 0).trans rfl
  clear hB hi hT x0
  go_enter Try.func32, Try.ntmps32
  go_wp2_with fail
  refine (New_calls _).mono ?_
  rintro e w1 ⟨pc, pmc, rfl, hc, hb⟩
  have HC1 := Aside0.mk hc
  have HB1 := Aside0.mk hb
  have x0 : w1.cell? ⟨pb, 0, none⟩ = some (.slice A B.es.length c) := (blk_cell (HBA.out.below hb).blk 0).trans rfl
  clear hc hb
  go_wp2_with fail
  go_loopg [16] B.es.length (fun gg v16 wr => ∃ (kk : Nat) (vc : Value) (n : Nat), kk ≤ B.es.length ∧ B.es.length - kk ≤ gg ∧ v16 = .int .i64 kk ∧ Aside0 (BAt W.heap.size (fun k => W.heap.size ≤ k) pc vc pmc wr ⟨B.es.take kk, n, cpy B.asg B.es kk⟩) ∧ Aside0 (n ≤ kk * T) ∧ Aside0 (Below W.heap.size W wr))
  case atStart => exact ⟨0, _, 0, Nat.zero_le _, by omega, rfl, ⟨HC1.out⟩, ⟨by omega⟩, ⟨HB1.out⟩⟩
  case round =>
    clear HC1 HB1 x0
    obtain ⟨kk, vc, n, hkk, hg, rfl, HC, HN, HB⟩ := hrel
    by_cases hlt : kk < B.es.length
    · have hltz : (kk : Int) < (B.es.length : Int) := by omega
      obtain ⟨x, HX⟩ : ∃ x, Aside0 (x = rd_T68 B.es (kk : Int)) := ⟨_, ⟨rfl⟩⟩
      have HXE : Aside0 (B.es[kk]? = some x) := ⟨by rw [HX.out, rd68_of (List.getElem?_eq_getElem hlt)]; exact List.getElem?_eq_getElem hlt⟩
      have HXW := Aside0.mk (HOK.out.rolls x (by rw [HX.out]; exact rd68_mem (by omega) hltz))
      have hxl := HXW.out.1
      have HXT := Aside0.mk (HI.out.ent kk x HXE.out).len
      obtain ⟨ad, A12, c12, eA, y0, y1, y2, y3, y4, y5, y6, y7, y8, y9, y10, y11, y12, y13, hl12, hC12⟩ := at_T68 ((HBA.out.below HB.out).reads).2.2 (kk : Int) (by omega) hltz
      subst eA
      rw [← HX.out] at y0 y1 y2 y3 y4 y5 y6 y7 y8 y9 y10 y11 y12 y13 hl12 hC12
      rw [Int.toNat_natCast] at y0 y1 y2 y3 y4 y5 y6 y7 y8 y9 y10 y11 y12 y13
      have HC12 := Aside0.mk hC12
      have HL12 := Aside0.mk hl12
      clear hC12 hl12
      go_wp2_with fail
      refine (clone_calls A12 c12 x.f1 _ (Kd.C_alloc HC12.out _) HL12.out (by have := HXW.out.1; omega)).mono ?_
      rintro e w2 ⟨v3, rfl, ho, hb⟩
      obtain ⟨A3, c3, rfl⟩ := Kd.R_slice ho
      have hsz : (wr.alloc (.cells #[.int .i64 x.f0.f0, .int .i64 x.f0.f1, .int .i64 x.f0.f2, .int .i64 x.f0.f3, .int .i64 x.f0.f4, .int .i64 x.f0.f5, .int .i64 x.f0.f6, .int .i64 x.f0.f7, .int .i64 x.f0.f8, .int .i64 x.f0.f9, .int .i64 x.f0.f10, .int .i64 x.f0.f11, .slice A12 x.f1.length c12, .bool x.f2] 68)).heap.size = wr.heap.size + 1 := Array.size_push _
      have HGX : Aside0 (W.heap.size ≤ wr.heap.size) := ⟨below_size HB.out⟩
      have hb1 := below_step (below_alloc (Below.refl wr.heap.size wr) (.cells #[.int .i64 x.f0.f0, .int .i64 x.f0.f1, .int .i64 x.f0.f2, .int .i64 x.f0.f3, .int .i64 x.f0.f4, .int .i64 x.f0.f5, .int .i64 x.f0.f6, .int .i64 x.f0.f7, .int .i64 x.f0.f8, .int .i64 x.f0.f9, .int .i64 x.f0.f10, .int .i64 x.f0.f11, .slice A12 x.f1.length c12, .bool x.f2] 68)) hb
      have HB2 := Aside0.mk (below_step HB.out hb1)
      have HC2 := Aside0.mk (HC.out.tight.below hb1)
      have HG2 := Aside0.mk (blk_below (blk_new wr (.cells #[.int .i64 x.f0.f0, .int .i64 x.f0.f1, .int .i64 x.f0.f2, .int .i64 x.f0.f3, .int .i64 x.f0.f4, .int .i64 x.f0.f5, .int .i64 x.f0.f6, .int .i64 x.f0.f7, .int .i64 x.f0.f8, .int .i64 x.f0.f9, .int .i64 x.f0.f10, .int .i64 x.f0.f11, .slice A12 x.f1.length c12, .bool x.f2] 68)) hb)
      rw [hsz] at ho
      have HR2 := Aside0.mk ho
      have x12 : w2.cell? ⟨wr.heap.size, 12, none⟩ = some (.slice A12 x.f1.length c12) := (blk_cell HG2.out 12).trans rfl
      have z12 := blk_frozen HG2.out 12
      clear hb hb1 ho hsz y0 y1 y2 y3 y4 y5 y6 y7 y8 y9 y10 y11 y12 y13 HC HB
      have HC3 := Aside0.mk (HC2.out.kept ((KeptB.refl w2 (fun k => k = wr.heap.size)).setCell (g := wr.heap.size) (o := 12) (.inl rfl) (.slice A3 x.f1.length c3)).k (fun k hk e => by have := hk.2; omega))
      have HG3 := Aside0.mk (blk_put (cs := #[.int .i64 x.f0.f0, .int .i64 x.f0.f1, .int .i64 x.f0.f2, .int .i64 x.f0.f3, .int .i64 x.f0.f4, .int .i64 x.f0.f5, .int .i64 x.f0.f6, .int .i64 x.f0.f7, .int .i64 x.f0.f8, .int .i64 x.f0.f9, .int .i64 x.f0.f10, .int .i64 x.f0.f11, .slice A12 x.f1.length c12, .bool x.f2]) HG2.out 12 (.slice A3 x.f1.length c3) rfl)
      have HR3 : Aside0 (Kd.R (Kd.int .i64) 3 (w2.setCell ⟨wr.heap.size, 12, none⟩ (.slice A3 x.f1.length c3)) (wr.heap.size + 1) (fun k => wr.heap.size < k) (.slice A3 x.f1.length c3) x.f1) := ⟨Kd.R_mono (Kd.R_far (p := ⟨wr.heap.size, 12, none⟩) (Kd.R_bound HR2.out) (fun k hk => by have := hk.2.1; show k ≠ wr.heap.size; omega) _) (fun k hk => by have := hk.2.1; omega)⟩
      have HB3 : Aside0 (Below W.heap.size W (w2.setCell ⟨wr.heap.size, 12, none⟩ (.slice A3 x.f1.length c3))) := ⟨below_set HB2.out HGX.out⟩
      clear HC2 HG2 HR2 HB2
      go_wp2_with fail
      clear x12 z12
      generalize w2.setCell ⟨wr.heap.size, 12, none⟩ (.slice A3 x.f1.length c3) = w3 at HC3 HG3 HR3 HB3 ⊢
      obtain ⟨C, hCe⟩ : ∃ C : Bk, C = ⟨B.es.take kk, n, cpy B.asg B.es kk⟩ := ⟨_, rfl⟩
      rw [← hCe] at HC3
      obtain ⟨vA, cc, rfl⟩ := HC3.out.slice
      have HCL : Aside0 (C.es.length ≤ B.es.length) := ⟨by rw [hCe]; simp; omega⟩
      have HLT : Aside0 (pc < wr.heap.size ∧ pmc < wr.heap.size) := ⟨HC3.out.ge.2.2.1.2, HC3.out.ge.2.2.2.2⟩
      have HCE := Aside0.mk hCe
      clear hCe
      refine start_ (n := 11) (S := fun w' => w'.cell? ⟨pc, 0, none⟩ = some (.slice vA C.es.length cc) ∧ w'.cell? ⟨wr.heap.size, 0, none⟩ = some (.int .i64 x.f0.f0) ∧ w'.cell? ⟨wr.heap.size, 1, none⟩ = some (.int .i64 x.f0.f1) ∧ w'.cell? ⟨wr.heap.size, 2, none⟩ = some (.int .i64 x.f0.f2) ∧ w'.cell? ⟨wr.heap.size, 3, none⟩ = some (.int .i64 x.f0.f3) ∧ w'.cell? ⟨wr.heap.size, 4, none⟩ = some (.int .i64 x.f0.f4) ∧ w'.cell? ⟨wr.heap.size, 5, none⟩ = some (.int .i64 x.f0.f5) ∧ w'.cell? ⟨wr.heap.size, 6, none⟩ = some (.int .i64 x.f0.f6) ∧ w'.cell? ⟨wr.heap.size, 7, none⟩ = some (.int .i64 x.f0.f7) ∧ w'.cell? ⟨wr.heap.size, 8, none⟩ = some (.int .i64 x.f0.f8) ∧ w'.cell? ⟨wr.heap.size, 9, none⟩ = some (.int .i64 x.f0.f9) ∧ w'.cell? ⟨wr.heap.size, 10, none⟩ = some (.int .i64 x.f0.f10) ∧ w'.cell? ⟨wr.heap.size, 11, none⟩ = some (.int .i64 x.f0.f11) ∧ w'.cell? ⟨wr.heap.size, 12, none⟩ = some (.slice A3 x.f1.length c3) ∧ w'.cell? ⟨wr.heap.size, 13, none⟩ = some (.bool x.f2)) (ds := [7, 10]) #[false, false, false, false, false, false, false, false, false, false, false] (by kernel_rfl) rfl rfl ⟨(blk_cell (blk_drew HC3.out.blk) 0).trans rfl, (blk_cell (blk_drew HG3.out) 0).trans rfl, (blk_cell (blk_drew HG3.out) 1).trans rfl, (blk_cell (blk_drew HG3.out) 2).trans rfl, (blk_cell (blk_drew HG3.out) 3).trans rfl, (blk_cell (blk_drew HG3.out) 4).trans rfl, (blk_cell (blk_drew HG3.out) 5).trans rfl, (blk_cell (blk_drew HG3.out) 6).trans rfl, (blk_cell (blk_drew HG3.out) 7).trans rfl, (blk_cell (blk_drew HG3.out) 8).trans rfl, (blk_cell (blk_drew HG3.out) 9).trans rfl, (blk_cell (blk_drew HG3.out) 10).trans rfl, (blk_cell (blk_drew HG3.out) 11).trans rfl, (blk_cell (blk_drew HG3.out) 12).trans rfl, (blk_cell (blk_drew HG3.out) 13).trans rfl⟩ (fun hHeld => ?_); refine with_tabW copy.tab8 copy.bits8 (fun HT_ HW_ => ?_)
      have HC4 := Aside0.mk HC3.out.drew; have HB4 := Aside0.mk (below_drew1 HB3.out); have HR4 : Aside0 (Kd.R (Kd.int .i64) 3 w3.drew (wr.heap.size + 1) (fun k => wr.heap.size < k) (.slice A3 x.f1.length c3) x.f1) := ⟨Kd.R_drew HR3.out⟩; have HG4 := Aside0.mk (blk_drew HG3.out); clear HC3 HB3 HR3 HG3; generalize w3.drew = w4 at HC4 HB4 HR4 HG4 hHeld ⊢
      refine pure_ (i := 0) (N := some 25) (v := ?_) (a' := ?_) #[true, false, false, false, false, false, false, false, false, false, false] rfl rfl (any_of HT_.out (by kernel_rfl)) (fun _ _ _ h => h) (Or.inl ⟨by rfl, ?_⟩) ?_ ?_
      rotate_left
      · intro w'
        go_simp
        with_reducible rfl
      rotate_left
      · simp only [Act.put, List.setIfInBounds_toArray, List.set_cons_zero, List.set_cons_succ, i64_w, i32_w]
        rfl
      refine pure_ (i := 1) (N := some 26) (v := ?_) (a' := ?_) #[true, true, false, false, false, false, false, false, false, false, false] rfl rfl (any_of HT_.out (by kernel_rfl)) (fun _ _ _ h => h) (Or.inl ⟨by rfl, ?_⟩) ?_ ?_
      rotate_left
      · intro w'
        go_simp
        with_reducible rfl
      rotate_left
      · simp only [Act.put, List.setIfInBounds_toArray, List.set_cons_zero, List.set_cons_succ, i64_w, i32_w]
        rfl
      refine pure_ (i := 2) (N := some 27) (v := ?_) (a' := ?_) #[true, true, true, false, false, false, false, false, false, false, false] rfl rfl (any_of HT_.out (by kernel_rfl)) (fun _ _ _ h => h) (Or.inl ⟨by rfl, ?_⟩) ?_ ?_
      rotate_left
      · intro w'
        go_simp
        with_reducible rfl
      rotate_left
      · simp only [Act.put, List.setIfInBounds_toArray, List.set_cons_zero, List.set_cons_succ, i64_w, i32_w]
        rfl
      refine pure_ (i := 3) (N := some 28) (v := ?_) (a' := ?_) #[true, true, true, true, false, false, false, false, false, false, false] rfl rfl (any_of HT_.out (by kernel_rfl)) (fun _ _ _ h => h) (Or.inl ⟨by rfl, ?_⟩) ?_ ?_
      rotate_left
      · intro w'
        go_simp
        with_reducible rfl
      rotate_left
      · simp only [Act.put, List.setIfInBounds_toArray, List.set_cons_zero, List.set_cons_succ, i64_w, i32_w]
        rfl
      refine take_ (i := 4) (N := some 29) (v := ?_) (a' := ?_) #[true, true, true, true, true, false, false, false, false, false, false] rfl rfl (take_ofW HT_.out HW_.out (by kernel_rfl)) (fun _ _ _ h => h) (Or.inl ⟨by rfl, ?_⟩) hHeld ?_ ?_
      rotate_left
      · rintro w' ⟨s0, s1, s2, s3, s4, s5, s6, s7, s8, s9, s10, s11, s12, s13, s14⟩
        go_simp
        with_reducible rfl
      rotate_left
      · simp only [Act.put, List.setIfInBounds_toArray, List.set_cons_zero, List.set_cons_succ, i64_w, i32_w]
        rfl
      refine take_ (i := 5) (N := some 30) (v := ?_) (a' := ?_) #[true, true, true, true, true, true, false, false, false, false, false] rfl rfl (take_ofW HT_.out HW_.out (by kernel_rfl)) (fun _ _ _ h => h) (Or.inl ⟨by rfl, ?_⟩) hHeld ?_ ?_
      rotate_left
      · rintro w' ⟨s0, s1, s2, s3, s4, s5, s6, s7, s8, s9, s10, s11, s12, s13, s14⟩
        go_simp
        with_reducible rfl
      rotate_left
      · simp only [Act.put, List.setIfInBounds_toArray, List.set_cons_zero, List.set_cons_succ, i64_w, i32_w]
        rfl
      refine one_ (i := 6) (N := some 31) #[true, true, true, true, true, true, true, false, false, false, false] rfl rfl (one_of HT_.out (by kernel_rfl)) (by decide) (fun K hK => ?_)
      refine value_ (w1 := ?_) (v := ?_) (by rfl) rfl ?_ ?_
      rotate_left 2
      · go_simp
        constructor
        · rfl
        · rfl
      refine hK.out _ _ ⟨(World.cell?_alloc_lt _ _ _ (World.block_lt_of_cell? _ _ (hHeld.1))).trans (hHeld.1), (World.cell?_alloc_lt _ _ _ (World.block_lt_of_cell? _ _ (hHeld.2.1))).trans (hHeld.2.1), (World.cell?_alloc_lt _ _ _ (World.block_lt_of_cell? _ _ (hHeld.2.2.1))).trans (hHeld.2.2.1), (World.cell?_alloc_lt _ _ _ (World.block_lt_of_cell? _ _ (hHeld.2.2.2.1))).trans (hHeld.2.2.2.1), (World.cell?_alloc_lt _ _ _ (World.block_lt_of_cell? _ _ (hHeld.2.2.2.2.1))).trans (hHeld.2.2.2.2.1), (World.cell?_alloc_lt _ _ _ (World.block_lt_of_cell? _ _ (hHeld.2.2.2.2.2.1))).trans (hHeld.2.2.2.2.2.1), (World.cell?_alloc_lt _ _ _ (World.block_lt_of_cell? _ _ (hHeld.2.2.2.2.2.2.1))).trans (hHeld.2.2.2.2.2.2.1), (World.cell?_alloc_lt _ _ _ (World.block_lt_of_cell? _ _ (hHeld.2.2.2.2.2.2.2.1))).trans (hHeld.2.2.2.2.2.2.2.1), (World.cell?_alloc_lt _ _ _ (World.block_lt_of_cell? _ _ (hHeld.2.2.2.2.2.2.2.2.1))).trans (hHeld.2.2.2.2.2.2.2.2.1), (World.cell?_alloc_lt _ _ _ (World.block_lt_of_cell? _ _ (hHeld.2.2.2.2.2.2.2.2.2.1))).trans (hHeld.2.2.2.2.2.2.2.2.2.1), (World.cell?_alloc_lt _ _ _ (World.block_lt_of_cell? _ _ (hHeld.2.2.2.2.2.2.2.2.2.2.1))).trans (hHeld.2.2.2.2.2.2.2.2.2.2.1), (World.cell?_alloc_lt _ _ _ (World.block_lt_of_cell? _ _ (hHeld.2.2.2.2.2.2.2.2.2.2.2.1))).trans (hHeld.2.2.2.2.2.2.2.2.2.2.2.1), (World.cell?_alloc_lt _ _ _ (World.block_lt_of_cell? _ _ (hHeld.2.2.2.2.2.2.2.2.2.2.2.2.1))).trans (hHeld.2.2.2.2.2.2.2.2.2.2.2.2.1), (World.cell?_alloc_lt _ _ _ (World.block_lt_of_cell? _ _ (hHeld.2.2.2.2.2.2.2.2.2.2.2.2.2.1))).trans (hHeld.2.2.2.2.2.2.2.2.2.2.2.2.2.1), (World.cell?_alloc_lt _ _ _ (World.block_lt_of_cell? _ _ (hHeld.2.2.2.2.2.2.2.2.2.2.2.2.2.2))).trans (hHeld.2.2.2.2.2.2.2.2.2.2.2.2.2.2)⟩ (fun hHeld => ?_)
      clear hK K
      refine norm_ (a' := ?_) ?_ ?_
      rotate_left
      · show Act.put _ (some 31) _ = _
        simp only [Act.put, List.setIfInBounds_toArray, List.set_cons_zero, List.set_cons_succ, i64_w, i32_w]
        rfl
      refine last_ (i := 7) (N := some 32) #[true, true, true, true, true, true, true, true, false, false, false] rfl rfl (one_of HT_.out (by kernel_rfl)) (by decide) (fun K hK => ?_)
      refine Kd.S_append_step k68 (w0 := w4) W.heap.size (by rfl) (.tmp 29) (.tmp 31) 59 68 (.agg #[.int .i64 0, .int .i64 0, .int .i64 0, .int .i64 0, .int .i64 0, .int .i64 0, .int .i64 0, .int .i64 0, .int .i64 0, .int .i64 0, .int .i64 0, .int .i64 0, .slice none 0 0, .bool false]) 128 rfl Try.underlying59 info68 rfl (by decide) (by omega) (.slice vA C.es.length cc) C.es x [.int .i64 x.f0.f0, .int .i64 x.f0.f1, .int .i64 x.f0.f2, .int .i64 x.f0.f3, .int .i64 x.f0.f4, .int .i64 x.f0.f5, .int .i64 x.f0.f6, .int .i64 x.f0.f7, .int .i64 x.f0.f8, .int .i64 x.f0.f9, .int .i64 x.f0.f10, .int .i64 x.f0.f11, .slice A3 x.f1.length c3, .bool x.f2] (fun k => W.heap.size ≤ k ∧ k ≠ wr.heap.size ∧ k ≠ pc ∧ k ≠ pmc) (fun k => wr.heap.size < k ∧ k < w4.heap.size) rfl (by first | (go_simp; done) | (go_simp; rfl)) ?aP ?aK ?aF ?aO (Below.refl _ _) (below_size HB4.out) ?aL ?_
      (case aP => exact k68_mkM _ _ _ x (Kd.R_mono (Kd.R_lower (Kd.R_bound HR4.out) (Nat.le_succ_of_le HGX.out)) (fun k hk => ⟨hk.1, hk.2.2.1⟩)))
      (case aK => exact fun k hk => ⟨⟨by have := HGX.out; omega, by omega, fun e => by have := HLT.out.1; omega, fun e => by have := HLT.out.2; omega⟩, fun e => by have := ((Kd.S_R HC4.out.ent).1 k e.symm).1.2; omega⟩)
      (case aF => exact fun k hk => ⟨Nat.le_trans (below_size HB4.out) hk, fun e => by have := blk_lt HG4.out; omega, fun e => by have := HC4.out.lt.1; omega, fun e => by have := HC4.out.lt.2; omega⟩)
      (case aO => exact Kd.S_mono HC4.out.ent (fun k hk => ⟨⟨hk.1.1, fun e => by have := hk.1.2; omega, hk.2.1, hk.2.2⟩, fun h => by have := hk.1.2; omega⟩))
      (case aL => have := HOK.out.es; have := HCL.out; omega)
      intro va w9 ho hb hg hat
      have HO9 := Aside0.mk ho
      have HG9 := Aside0.mk hg
      obtain ⟨A9, c9, e9⟩ := Kd.S_slice ho
      rw [List.length_append, List.length_singleton] at e9
      subst e9
      have hxf : w9.cell? ⟨pc, 0, none⟩ = some (.slice vA C.es.length cc) := (blk_cell (blk_grown HC4.out.blk hg (fun e => ((Kd.S_R HC4.out.ent).1 pc e.symm).2.1 rfl)) 0).trans rfl
      have hff := blk_frozen (blk_grown HC4.out.blk hg (fun e => ((Kd.S_R HC4.out.ent).1 pc e.symm).2.1 rfl)) 0
      refine hK.out _ _ ?_
      clear hK K
      refine norm_ (a' := ?_) ?_ ?_
      rotate_left
      · show Act.put _ (some 32) _ = _
        simp only [Act.put, List.setIfInBounds_toArray, List.set_cons_zero, List.set_cons_succ, i64_w, i32_w]
        rfl
      refine pure_ (i := 8) (N := some 33) (v := ?_) (a' := ?_) #[true, true, true, true, true, true, true, true, true, false, false] rfl rfl (any_of HT_.out (by kernel_rfl)) (fun _ _ _ h => h) (Or.inl ⟨by rfl, ?_⟩) ?_ ?_
      rotate_left
      · intro w'
        go_simp
        with_reducible rfl
      rotate_left
      · simp only [Act.put, List.setIfInBounds_toArray, List.set_cons_zero, List.set_cons_succ, i64_w, i32_w]
        rfl
      refine pure_ (i := 9) (N := some 34) (v := ?_) (a' := ?_) #[true, true, true, true, true, true, true, true, true, true, false] rfl rfl (any_of HT_.out (by kernel_rfl)) (fun _ _ _ h => h) (Or.inl ⟨by rfl, ?_⟩) ?_ ?_
      rotate_left
      · intro w'
        go_simp
        with_reducible rfl
      rotate_left
      · simp only [Act.put, List.setIfInBounds_toArray, List.set_cons_zero, List.set_cons_succ, i64_w, i32_w]
        rfl
      refine last_ (i := 10) (N := none) #[true, true, true, true, true, true, true, true, true, true, true] rfl rfl (one_of HT_.out (by kernel_rfl)) (by decide) (fun K hK => ?_)
      refine skip_ (w1 := ?_) (by rfl) rfl ?_ ?_
      rotate_left
      · go_simp
        rfl
      refine hK.out _ _ ?_
      clear hK K
      refine done_ (done_of HT_.out (by kernel_rfl)) ?_
      have hP3 : Aside0 (BAt W.heap.size (fun k => W.heap.size ≤ k ∧ k ≠ wr.heap.size) pc (.slice vA C.es.length cc) pmc w4 C) := ⟨HC4.out.mono (fun k hk => ⟨hk.1, fun e => by have := hk.2; omega⟩)⟩
      have hent := hP3.out.ents HG9.out (Kd.S_mono HO9.out (fun k hk => ⟨.inl ⟨hk.1, hk.2.1⟩, hk.2.2.1, hk.2.2.2⟩))
      have hvo : ∀ k, (.slice vA C.es.length cc : Value).ownBlock = some k → W.heap.size ≤ k ∧ k < wr.heap.size := fun k hk => ((Kd.S_R HC4.out.ent).1 k hk).1
      have HC5 : Aside0 (BAt W.heap.size (fun k => W.heap.size ≤ k) pc (.slice A9 (C.es.length + 1) c9) pmc (w9.setCell ⟨pc, 0, none⟩ (.slice A9 (C.es.length + 1) c9)) { C with es := C.es ++ [x] }) := ⟨hent.1.mono (fun k hk => hk.elim (fun q => q.1) (fun q => Nat.le_trans (below_size HB4.out) q))⟩
      have HB5 : Aside0 (Below W.heap.size W (w9.setCell ⟨pc, 0, none⟩ (.slice A9 (C.es.length + 1) c9))) := ⟨below_set (HB4.out.grown HG9.out (below_size HB4.out) (fun k hk => (hvo k hk).1)) HC4.out.ge.1⟩
      have HG5 := Aside0.mk (blk_far (p := ⟨pc, 0, none⟩) (blk_grown HG4.out HG9.out (fun e => by have := (hvo _ e.symm).2; omega)) (show wr.heap.size ≠ pc from fun e => by have := HLT.out.1; omega) (.slice A9 (C.es.length + 1) c9))
      have HR5 : Aside0 (Kd.R (Kd.int .i64) 3 (w9.setCell ⟨pc, 0, none⟩ (.slice A9 (C.es.length + 1) c9)) W.heap.size (fun k => k ≠ pmc) (.slice A3 x.f1.length c3) x.f1) := ⟨Kd.R_lower (Kd.R_mono (Kd.R_far (p := ⟨pc, 0, none⟩) (Kd.R_grown HR4.out HG9.out (fun k hk e => by have := (hvo k e.symm).2; omega)) (fun k hk => by have := HLT.out.1; show k ≠ pc; omega) _) (fun k hk => by have := HLT.out.2; omega)) (Nat.le_succ_of_le HGX.out)⟩
      have HES : Aside0 ((⟨C.es ++ [x], C.n, C.asg⟩ : Bk) = ⟨B.es.take (kk + 1), n, cpyL B.asg kk (x.f1.take 0) (cpy B.asg B.es kk)⟩) := ⟨by rw [HCE.out, es_take hlt, ← HX.out]; rfl⟩
      clear hent hvo hP3 HC4 HB4 HR4 HG4 HG9 HO9 hxf hff
      have x12 : (w9.setCell ⟨pc, 0, none⟩ (.slice A9 (C.es.length + 1) c9)).cell? ⟨wr.heap.size, 12, none⟩ = some (.slice A3 x.f1.length c3) := (blk_cell HG5.out 12).trans rfl
      generalize w9.setCell ⟨pc, 0, none⟩ (.slice A9 (C.es.length + 1) c9) = w5 at HC5 HB5 HG5 HR5 x12 ⊢
      have HC5' : Aside0 (∃ ve, BAt W.heap.size (fun k => W.heap.size ≤ k) pc ve pmc w5 ⟨B.es.take (kk + 1), n, cpyL B.asg kk (x.f1.take 0) (cpy B.asg B.es kk)⟩) := ⟨_, HES.out ▸ HC5.out⟩
      clear HC5 HG5 HES
      go_wp2_with fail
      clear x12
      go_loopg [38] x.f1.length (fun gg v38 wr => ∃ (jj m : Nat), jj ≤ x.f1.length ∧ x.f1.length - jj ≤ gg ∧ v38 = .int .i64 jj ∧ Aside0 (∃ ve, BAt W.heap.size (fun k => W.heap.size ≤ k) pc ve pmc wr ⟨B.es.take (kk + 1), m, cpyL B.asg kk (x.f1.take jj) (cpy B.asg B.es kk)⟩) ∧ Aside0 (m ≤ kk * T + jj) ∧ Aside0 (Below W.heap.size W wr) ∧ Aside0 (Kd.R (Kd.int .i64) 3 wr W.heap.size (fun k => k ≠ pmc) (.slice A3 x.f1.length c3) x.f1))
      case atStart => exact ⟨0, n, Nat.zero_le _, by omega, rfl, HC5', ⟨HN.out⟩, HB5, HR5⟩
      case round =>
        clear HC5' HB5 HR5
        obtain ⟨jj, m, hjj, hg, rfl, HCV, HM, HB6, HR6⟩ := hrel
        by_cases hjl : jj < x.f1.length
        · have hjlz : (jj : Int) < (x.f1.length : Int) := by omega
          obtain ⟨ad3, e3, hcell⟩ := Kd.at_int (Kd.R_reads' HR6.out).2.2 (jj : Int) (by omega) hjlz
          subst e3
          obtain ⟨rl, HRL⟩ : ∃ r, Aside0 (r = rd x.f1 (jj : Int)) := ⟨_, ⟨rfl⟩⟩
          rw [← HRL.out, Int.toNat_natCast] at hcell
          have hrj : rl = x.f1[jj] := by rw [HRL.out]; unfold rd; rw [Int.toNat_natCast, List.getD_eq_getElem?_getD, List.getElem?_eq_getElem hjl]; rfl
          have HRJ := Aside0.mk hrj
          have HWN : Aside0 ((Lit.int .i64 rl).wf = true) := ⟨HXW.out.2 rl (by rw [hrj]; exact List.getElem_mem hjl)⟩
          obtain ⟨ve6, hv6⟩ := HCV.out
          have HNN : Aside0 (m < 100000) := ⟨by have h1_ := HM.out; have h2_ := HXT.out; have h3_ := HI.out.es; have h5_ := HT.out; have h4_ : kk * T ≤ 64 * 900 := Nat.mul_le_mul (by omega) HT.out; omega⟩
          obtain ⟨C6, hC6⟩ : ∃ C : Bk, C = ⟨B.es.take (kk + 1), m, cpyL B.asg kk (x.f1.take jj) (cpy B.asg B.es kk)⟩ := ⟨_, rfl⟩
          rw [← hC6] at hv6
          have HC6 := Aside0.mk hv6
          have HBB6 := Aside0.mk (HBA.out.below HB6.out)
          have HNC : Aside0 (C6.n < 100000) := ⟨by rw [hC6]; exact HNN.out⟩
          have HCE6 := Aside0.mk hC6
          clear hC6 hv6 HCV hrj
          go_wp2_with fail
          clear hcell
          refine start_ (n := 15) (S := fun w' => w'.cell? ⟨pc, 1, none⟩ = some (.map (some pmc)) ∧ w'.cell? ⟨pb, 1, none⟩ = some (.map (some pm))) (ds := [14]) #[false, false, false, false, false, false, false, false, false, false, false, false, false, false, false] (by kernel_rfl) rfl rfl ⟨(blk_cell (blk_drew HC6.out.blk) 1).trans rfl, (blk_cell (blk_drew HBB6.out.blk) 1).trans rfl⟩ (fun hHeld => ?_); refine with_tabW copy.tab12 copy.bits12 (fun HT_ HW_ => ?_)
          have HCD := Aside0.mk HC6.out.drew; have HBD := Aside0.mk (HBB6.out.drew); have HB7 := Aside0.mk (below_drew1 HB6.out); have HR7 : Aside0 (Kd.R (Kd.int .i64) 3 wr.drew W.heap.size (fun k => k ≠ pmc) (.slice (some ad3) x.f1.length c3) x.f1) := ⟨Kd.R_drew HR6.out⟩; generalize wr.drew = w6 at HCD HBD HB7 HR7 hHeld ⊢
          refine pure_ (i := 0) (N := some 42) (v := ?_) (a' := ?_) #[true, false, false, false, false, false, false, false, false, false, false, false, false, false, false] rfl rfl (any_of HT_.out (by kernel_rfl)) (fun _ _ _ h => h) (Or.inl ⟨by rfl, ?_⟩) ?_ ?_
          rotate_left
          · intro w'
            go_simp
            with_reducible rfl
          rotate_left
          · simp only [Act.put, List.setIfInBounds_toArray, List.set_cons_zero, List.set_cons_succ, i64_w, i32_w]
            rfl
          refine pure_ (i := 1) (N := some 43) (v := ?_) (a' := ?_) #[true, true, false, false, false, false, false, false, false, false, false, false, false, false, false] rfl rfl (any_of HT_.out (by kernel_rfl)) (fun _ _ _ h => h) (Or.inl ⟨by rfl, ?_⟩) ?_ ?_
          rotate_left
          · intro w'
            go_simp
            with_reducible rfl
          rotate_left
          · simp only [Act.put, List.setIfInBounds_toArray, List.set_cons_zero, List.set_cons_succ, i64_w, i32_w]
            rfl
          refine pure_ (i := 2) (N := some 44) (v := ?_) (a' := ?_) #[true, true, true, false, false, false, false, false, false, false, false, false, false, false, false] rfl rfl (any_of HT_.out (by kernel_rfl)) (fun _ _ _ h => h) (Or.inl ⟨by rfl, ?_⟩) ?_ ?_
          rotate_left
          · intro w'
            go_simp
            with_reducible rfl
          rotate_left
          · simp only [Act.put, List.setIfInBounds_toArray, List.set_cons_zero, List.set_cons_succ, i64_w, i32_w]
            rfl
          refine pure_ (i := 4) (N := some 46) (v := ?_) (a' := ?_) #[true, true, true, false, true, false, false, false, false, false, false, false, false, false, false] rfl rfl (any_of HT_.out (by kernel_rfl)) (fun _ _ _ h => h) (Or.inl ⟨by rfl, ?_⟩) ?_ ?_
          rotate_left
          · intro w'
            go_simp
            with_reducible rfl
          rotate_left
          · simp only [Act.put, List.setIfInBounds_toArray, List.set_cons_zero, List.set_cons_succ, i64_w, i32_w]
            rfl
          refine pure_ (i := 5) (N := some 47) (v := ?_) (a' := ?_) #[true, true, true, false, true, true, false, false, false, false, false, false, false, false, false] rfl rfl (any_of HT_.out (by kernel_rfl)) (fun _ _ _ h => h) (Or.inl ⟨by rfl, ?_⟩) ?_ ?_
          rotate_left
          · intro w'
            go_simp
            with_reducible rfl
          rotate_left
          · simp only [Act.put, List.setIfInBounds_toArray, List.set_cons_zero, List.set_cons_succ, i64_w, i32_w]
            rfl
          refine pure_ (i := 6) (N := some 48) (v := ?_) (a' := ?_) #[true, true, true, false, true, true, true, false, false, false, false, false, false, false, false] rfl rfl (any_of HT_.out (by kernel_rfl)) (fun _ _ _ h => h) (Or.inl ⟨by rfl, ?_⟩) ?_ ?_
          rotate_left
          · intro w'
            go_simp
            with_reducible rfl
          rotate_left
          · simp only [Act.put, List.setIfInBounds_toArray, List.set_cons_zero, List.set_cons_succ, i64_w, i32_w]
            rfl
          refine pure_ (i := 7) (N := some 49) (v := ?_) (a' := ?_) #[true, true, true, false, true, true, true, true, false, false, false, false, false, false, false] rfl rfl (any_of HT_.out (by kernel_rfl)) (fun _ _ _ h => h) (Or.inl ⟨by rfl, ?_⟩) ?_ ?_
          rotate_left
          · intro w'
            go_simp
            with_reducible rfl
          rotate_left
          · simp only [Act.put, List.setIfInBounds_toArray, List.set_cons_zero, List.set_cons_succ, i64_w, i32_w]
            rfl
          refine pure_ (i := 8) (N := some 50) (v := ?_) (a' := ?_) #[true, true, true, false, true, true, true, true, true, false, false, false, false, false, false] rfl rfl (any_of HT_.out (by kernel_rfl)) (fun _ _ _ h => h) (Or.inl ⟨by rfl, ?_⟩) ?_ ?_
          rotate_left
          · intro w'
            go_simp
            with_reducible rfl
          rotate_left
          · simp only [Act.put, List.setIfInBounds_toArray, List.set_cons_zero, List.set_cons_succ, i64_w, i32_w]
            rfl
          refine pure_ (i := 10) (N := some 52) (v := ?_) (a' := ?_) #[true, true, true, false, true, true, true, true, true, false, true, false, false, false, false] rfl rfl (any_of HT_.out (by kernel_rfl)) (fun _ _ _ h => h) (Or.inl ⟨by rfl, ?_⟩) ?_ ?_
          rotate_left
          · intro w'
            go_simp
            with_reducible rfl
          rotate_left
          · simp only [Act.put, List.setIfInBounds_toArray, List.set_cons_zero, List.set_cons_succ, i64_w, i32_w]
            rfl
          refine take_ (i := 3) (N := some 45) (v := ?_) (a' := ?_) #[true, true, true, true, true, true, true, true, true, false, true, false, false, false, false] rfl rfl (take_ofW HT_.out HW_.out (by kernel_rfl)) (fun _ _ _ h => h) (Or.inl ⟨by rfl, ?_⟩) hHeld ?_ ?_
          rotate_left
          · rintro w' ⟨s0, s1⟩
            go_simp
            with_reducible rfl
          rotate_left
          · simp only [Act.put, List.setIfInBounds_toArray, List.set_cons_zero, List.set_cons_succ, i64_w, i32_w]
            rfl
          refine take_ (i := 9) (N := some 51) (v := ?_) (a' := ?_) #[true, true, true, true, true, true, true, true, true, true, true, false, false, false, false] rfl rfl (take_ofW HT_.out HW_.out (by kernel_rfl)) (fun _ _ _ h => h) (Or.inl ⟨by rfl, ?_⟩) hHeld ?_ ?_
          rotate_left
          · rintro w' ⟨s0, s1⟩
            go_simp
            with_reducible rfl
          rotate_left
          · simp only [Act.put, List.setIfInBounds_toArray, List.set_cons_zero, List.set_cons_succ, i64_w, i32_w]
            rfl
          refine one_ (i := 11) (N := some 53) #[true, true, true, true, true, true, true, true, true, true, true, true, false, false, false] rfl rfl (one_of HT_.out (by kernel_rfl)) (by decide) (fun K hK => ?_)
          refine pl_lookup_step (by rfl) (.tmp 51) (.tmp 52) 58 rfl Try.underlying3 Try.underlying58 (zero65 _) (by first | (go_simp; done) | (go_simp; rfl)) HBD.out.map rl (by first | (go_simp; done) | (go_simp; rfl)) HWN.out ?_
          refine hK.out _ _ ⟨hHeld.1, hHeld.2⟩ (fun hHeld => ?_)
          clear hK K
          refine norm_ (a' := ?_) ?_ ?_
          rotate_left
          · show Act.put _ (some 53) _ = _
            simp only [Act.put, List.setIfInBounds_toArray, List.set_cons_zero, List.set_cons_succ, i64_w, i32_w]
            rfl
          refine pure_ (i := 12) (N := some 54) (v := ?_) (a' := ?_) #[true, true, true, true, true, true, true, true, true, true, true, true, true, false, false] rfl rfl (any_of HT_.out (by kernel_rfl)) (fun _ _ _ h => h) (Or.inl ⟨by rfl, ?_⟩) ?_ ?_
          rotate_left
          · intro w'
            go_simp
            with_reducible rfl
          rotate_left
          · simp only [Act.put, List.setIfInBounds_toArray, List.set_cons_zero, List.set_cons_succ, i64_w, i32_w]
            rfl
          refine pure_ (i := 13) (N := some 55) (v := ?_) (a' := ?_) #[true, true, true, true, true, true, true, true, true, true, true, true, true, true, false] rfl rfl (any_of HT_.out (by kernel_rfl)) (fun _ _ _ h => h) (Or.inl ⟨by rfl, ?_⟩) ?_ ?_
          rotate_left
          · intro w'
            go_simp
            with_reducible rfl
          rotate_left
          · simp only [Act.put, List.setIfInBounds_toArray, List.set_cons_zero, List.set_cons_succ, i64_w, i32_w]
            rfl
          refine last_ (i := 14) (N := none) #[true, true, true, true, true, true, true, true, true, true, true, true, true, true, true] rfl rfl (one_of HT_.out (by kernel_rfl)) (by decide) (fun K hK => ?_)
          refine pl_update_step (by rfl) (.tmp 45) (.tmp 46) (.tmp 55) 58 rfl Try.underlying3 Try.underlying58 (by first | (go_simp; done) | (go_simp; rfl)) HCD.out.map ?hn rl (by first | (go_simp; done) | (go_simp; rfl)) (kk : Int) (((B.asg rl).getD (0, false)).2) (by first | (go_simp; done) | (go_simp; rfl)) HWN.out ?_
          (case hn => have := HNC.out; unfold maxLen; omega)
          intro w7 hm hg
          have HM7 := Aside0.mk hm
          have HG7 := Aside0.mk hg
          clear hm hg
          refine hK.out _ _ ?_
          clear hK K
          refine done_ (done_of HT_.out (by kernel_rfl)) ?_
          have hq := HCD.out.asgd HM7.out HG7.out
          have HC8 : Aside0 (∃ ve, BAt W.heap.size (fun k => W.heap.size ≤ k) pc ve pmc w7 ⟨B.es.take (kk + 1), m + 1, cpyL B.asg kk (x.f1.take (jj + 1)) (cpy B.asg B.es kk)⟩) := ⟨ve6, by rw [List.take_succ_eq_append_getElem hjl, ← HRJ.out, cpyL_snoc]; have h_ := hq.1; rw [HCE6.out] at h_; exact h_⟩
          have HB8 : Aside0 (Below W.heap.size W w7) := ⟨HB7.out.grown HG7.out (below_size HB7.out) (fun k hk => by injection hk with hk; rw [← hk]; exact HCD.out.ge.2.1)⟩
          have HR8 : Aside0 (Kd.R (Kd.int .i64) 3 w7 W.heap.size (fun k => k ≠ pmc) (.slice (some ad3) x.f1.length c3) x.f1) := ⟨Kd.R_grown HR7.out HG7.out (fun k hk e => hk (by injection e))⟩
          clear hq
          go_wp2_with fail
          go_roundg (x.f1.length - (jj + 1))
          case measure => omega
          case rel => exact ⟨jj + 1, m + 1, by omega, by omega, by go_num, HC8, ⟨by have := HM.out; omega⟩, HB8, HR8⟩
        · have hjlz : ¬ (jj : Int) < (x.f1.length : Int) := by omega
          have : jj = x.f1.length := by omega
          subst this
          obtain ⟨ve6, hv6⟩ := HCV.out
          rw [List.take_length] at hv6
          have HC9 : Aside0 (BAt W.heap.size (fun k => W.heap.size ≤ k) pc ve6 pmc wr ⟨B.es.take (kk + 1), m, cpy B.asg B.es (kk + 1)⟩) := ⟨by have h_ := hv6; rw [HX.out] at h_; exact h_⟩
          clear hv6 HCV
          go_wp2_with fail
          go_roundg (B.es.length - (kk + 1))
          case measure => omega
          case rel => exact ⟨kk + 1, ve6, m, by omega, by omega, by go_num, HC9, ⟨by have h1_ := HM.out; have h2_ := HXT.out; rw [Nat.succ_mul]; omega⟩, HB6⟩
    · have hltz : ¬ (kk : Int) < (B.es.length : Int) := by omega
      have : kk = B.es.length := by omega
      subst this
      go_wp2_with fail
      go_ret
      have hfin : BAt W.heap.size (fun k => W.heap.size ≤ k) pc vc pmc wr ⟨B.es, n, B.asg⟩ := by have h_ := HC.out; rw [List.take_length, cpy_all HI.out] at h_; exact h_
      have hnn : n ≤ 100 * T := by have h1_ := HN.out; have h2_ := HI.out.es; have h3_ : B.es.length * T ≤ 64 * T := Nat.mul_le_mul_right T h2_; omega
      refine ⟨pc, rfl, pmc, ?_⟩
      exact ⟨vc, n, hfin, hnn, HB.out⟩
theorem LB.Copy {W0 w : World} {P : Nat → Prop} {pb pm : Nat} {B : Bk} {T : Nat} (h : LB W0 P pb pm w B) (hi : B.Inv T) (hT : T ≤ 900) :
    Calls Try.prog 32 #[.pointer (some ⟨pb, 0, none⟩)] w fun e w' => ∃ Q pc pmc n, e = .returned (.pointer (some ⟨pc, 0, none⟩)) ∧ LB W0 Q pc pmc w' ⟨B.es, n, B.asg⟩ ∧ n ≤ 100 * T ∧ (∀ k, Q k → w.heap.size ≤ k) ∧ Below w.heap.size w w' := by
  obtain ⟨ve, h1⟩ := h.at_
  refine (Copy_calls w h1 hi hT).mono ?_
  rintro e w' ⟨pc, pmc, vc, n, rfl, hc, hn, hb⟩
  have hs := below_size h.b
  refine ⟨fun k => w.heap.size ≤ k ∧ k < w'.heap.size, pc, pmc, n, rfl, ⟨⟨vc, ⟨hc.blk, Kd.S_mono (Kd.S_lower (Kd.S_bound hc.ent) hs) (fun k hk => ⟨⟨hk.1.1, hk.2.2.1⟩, hk.1.2⟩), hc.map, Nat.le_trans hs hc.ge.1, Nat.le_trans hs hc.ge.2.1, ⟨hc.ge.1, hc.lt.1⟩, ⟨hc.ge.2.1, hc.lt.2⟩⟩⟩, below_step h.b hb, fun k hk => ⟨Nat.le_trans hs hk.1, hk.2⟩⟩, hn, fun k hk => hk.1, hb⟩
/-! ### Two books that differ in nothing that a call reads -/
theorem run_sim (es : List S68) (f : Int → Option (Int × Bool)) (n m : Nat) (x : S35) : ((⟨es, n, f⟩ : Bk).do_ x).1.es = ((⟨es, m, f⟩ : Bk).do_ x).1.es ∧ ((⟨es, n, f⟩ : Bk).do_ x).1.asg = ((⟨es, m, f⟩ : Bk).do_ x).1.asg := by
  have ho : ∀ id, (⟨es, n, f⟩ : Bk).open_ id = (⟨es, m, f⟩ : Bk).open_ id := fun _ => rfl
  have hh : ∀ r, (⟨es, n, f⟩ : Bk).held r = (⟨es, m, f⟩ : Bk).held r := fun _ => rfl
  have hf : ∀ id, (⟨es, n, f⟩ : Bk).find id = (⟨es, m, f⟩ : Bk).find id := fun _ => rfl
  unfold Bk.do_
  by_cases c0 : x.f0 = 0
  · rw [if_pos c0, if_pos c0]
    unfold Bk.Add
    rw [hf]
    dsimp only
    split
    · split
      · exact ⟨rfl, rfl⟩
      · split <;> exact ⟨rfl, rfl⟩
    · exact ⟨rfl, rfl⟩
  rw [if_neg c0, if_neg c0]
  by_cases c1 : x.f0 = 1
  · rw [if_pos c1, if_pos c1]
    unfold Bk.Amend
    rw [ho]
    dsimp only
    repeat' split
    all_goals exact ⟨rfl, rfl⟩
  rw [if_neg c1, if_neg c1]
  by_cases c2 : x.f0 = 2
  · rw [if_pos c2, if_pos c2]
    unfold Bk.Assign
    rw [ho]
    dsimp only
    repeat' split
    all_goals exact ⟨rfl, rfl⟩
  rw [if_neg c2, if_neg c2]
  by_cases c3 : x.f0 = 3
  · rw [if_pos c3, if_pos c3]
    unfold Bk.Release
    rw [hh]
    dsimp only
    repeat' split
    all_goals exact ⟨rfl, rfl⟩
  rw [if_neg c3, if_neg c3]
  by_cases c4 : x.f0 = 4
  · rw [if_pos c4, if_pos c4]
    unfold Bk.Ship
    rw [hh]
    dsimp only
    repeat' split
    all_goals exact ⟨rfl, rfl⟩
  rw [if_neg c4, if_neg c4]
  unfold Bk.Close
  rw [ho]
  dsimp only
  repeat' split
  all_goals exact ⟨rfl, rfl⟩
theorem runs_sim : ∀ (l : List S35) (es : List S68) (f : Int → Option (Int × Bool)) (n m : Nat), ((⟨es, n, f⟩ : Bk).run l).es = ((⟨es, m, f⟩ : Bk).run l).es ∧ ((⟨es, n, f⟩ : Bk).run l).asg = ((⟨es, m, f⟩ : Bk).run l).asg
  | [], _, _, _, _ => ⟨rfl, rfl⟩
  | x :: t, es, f, n, m => by
    have h := run_sim es f n m x
    have e1 : (⟨es, n, f⟩ : Bk).run (x :: t) = (((⟨es, n, f⟩ : Bk).do_ x).1).run t := rfl
    rw [e1]
    generalize ((⟨es, n, f⟩ : Bk).do_ x).1 = B at h ⊢
    have e2 : (⟨es, m, f⟩ : Bk).run (x :: t) = (((⟨es, m, f⟩ : Bk).do_ x).1).run t := rfl
    rw [e2]
    generalize ((⟨es, m, f⟩ : Bk).do_ x).1 = C at h ⊢
    obtain ⟨be, bn, bf⟩ := B
    obtain ⟨ce, cn, cf⟩ := C
    obtain ⟨h1, h2⟩ := h
    dsimp only at h1 h2
    subst h1
    subst h2
    exact runs_sim t be bf bn cn
theorem all_sim {B C : Bk} (h1 : B.es = C.es) (h2 : B.asg = C.asg) : B.all = C.all := by
  unfold Bk.all
  rw [h1]
  congr 1
  funext x
  unfold Bk.stat
  rw [h2]
theorem run_take' (B : Bk) (l : List S35) {k : Nat} (h : k < l.length) : B.run (l.take (k + 1)) = ((B.run (l.take k)).do_ (rd_T35 l (k : Int))).1 := by
  rw [rd35_is h, List.take_succ_eq_append_getElem h, Bk.run_snoc]
theorem Bk.Inv.taken' {B : Bk} {T : Nat} (hi : B.Inv T) (l : List S35) (k : Nat) {T' : Nat} (h : T + l.length ≤ T') : (B.run (l.take k)).Inv T' :=
  (hi.run (l.take k)).mono (by have : (l.take k).length ≤ l.length := by rw [List.length_take]; omega
                               omega)
/-- A law's book that calls have changed since wl: what is not the book's is as it was. -/
def LQ (W0 : World) (Q0 : Nat → Prop) (wl : World) (pb pm : Nat) (w : World) (B : Bk) : Prop := ∃ Q, LB W0 Q pb pm w B ∧ KeptB wl w Q0 ∧ ∀ k, Q k → Q0 k ∨ wl.heap.size ≤ k
section
variable {W0 wl w w' : World} {P Q0 S : Nat → Prop} {pb pm : Nat} {B : Bk}
theorem LQ.start (h : LB W0 Q0 pb pm w B) : LQ W0 Q0 w pb pm w B := ⟨Q0, h, KeptB.refl w Q0, fun _ hk => .inl hk⟩
theorem LQ.do_ {T : Nat} (h : LQ W0 Q0 wl pb pm w B) (hi : B.Inv T) (hT : T ≤ 900) (x : S35) (hw : (Lit.int .i64 x.f3).wf = true) :
    Calls Try.prog 16 #[.pointer (some ⟨pb, 0, none⟩), .agg #[.int .i64 x.f0, .int .i64 x.f1.f0, .int .i64 x.f1.f1, .int .i64 x.f1.f2, .int .i64 x.f1.f3, .int .i64 x.f1.f4, .int .i64 x.f1.f5, .int .i64 x.f1.f6, .int .i64 x.f1.f7, .int .i64 x.f1.f8, .int .i64 x.f1.f9, .int .i64 x.f1.f10, .int .i64 x.f1.f11, .int .i64 x.f2, .int .i64 x.f3]] w fun e w' => e = .returned (.int .i64 (B.do_ x).2) ∧ LQ W0 Q0 wl pb pm w' (B.do_ x).1 := by
  obtain ⟨Q, h1, h2, h3⟩ := h
  refine (h1.do_ hi hT x hw).mono ?_
  rintro e w' ⟨he, Q', g1, g2, g3⟩
  refine ⟨he, Q', g1, h2.then_ g2 h3, fun k hk => (g3 k hk).elim (h3 k) (fun q => .inr (Nat.le_trans h2.size q))⟩
theorem LB.kept (h : LB W0 P pb pm w B) (hk : KeptB w w' S) (hs : ∀ k, P k → ¬ S k) (hS : ∀ k, S k → W0.heap.size ≤ k) : LB W0 P pb pm w' B := by
  obtain ⟨⟨ve, h1⟩, h2, h3⟩ := h
  exact ⟨⟨ve, h1.kept hk.k hs⟩, h2.trans (hk.below hS (below_size h2)), fun k hk' => ⟨(h3 k hk').1, Nat.lt_of_lt_of_le (h3 k hk').2 hk.size⟩⟩
end
open Mono in
set_option maxHeartbeats 16000000 in
set_option maxRecDepth 100000 in
theorem OrderCopies_long (A0 : Option Addr) (c0 : Nat) (l0 : List S35) (A1 : Option Addr) (c1 : Nat) (l1 : List S35) (w : World) (hr0 : Kd.C k35 w A0 l0.length l0) (hc0 : l0.length ≤ c0) (hr1 : Kd.C k35 w A1 l1.length l1) (hc1 : l1.length ≤ c1) (hwf : wfs l0 = true) (hwf1 : wfs l1 = true) (hN : 60 < l0.length) :
    Calls Try.prog 9 #[.slice A0 l0.length c0, .slice A1 l1.length c1] w fun e w' => e = .returned (.bool true) ∧ Below w.heap.size w w' := by
  have hu35 := Try.underlying35
  have hu23 := Try.underlying23
  have hlen := hr0.2.1
  have hlen1 := hr1.2.1
  have HR0 := Aside0.mk hr0
  have HR1 := Aside0.mk hr1
  have HWF := Aside0.mk hwf
  have HWF1 := Aside0.mk hwf1
  clear hr0 hc0 hr1 hc1 hwf hwf1
  have c1b : decide ((60 : Int) < (l0.length : Int)) = true := decide_eq_true (by omega)
  have c1n : decide (60 < l0.length) = true := decide_eq_true hN
  have c1m := eq_true hN
  go_enter Try.func9, Try.ntmps9
  go_wp2_with fail
  refine (LB.new w _ (Below.refl _ _)).mono ?_
  rintro e w1 ⟨P, pb, pm, rfl, h, _, _⟩
  have HB := Aside0.mk h.b
  clear h
  go_wp2_with fail
  refine (aw_all _).mono ?_
  rintro e w2 ⟨rfl, hb⟩
  go_wp2
  go_ret
  exact ⟨rfl, below_step HB.out hb⟩
open Mono in
set_option maxHeartbeats 16000000 in
set_option maxRecDepth 100000 in
theorem OrderCopies_long1 (A0 : Option Addr) (c0 : Nat) (l0 : List S35) (A1 : Option Addr) (c1 : Nat) (l1 : List S35) (w : World) (hr0 : Kd.C k35 w A0 l0.length l0) (hc0 : l0.length ≤ c0) (hr1 : Kd.C k35 w A1 l1.length l1) (hc1 : l1.length ≤ c1) (hwf : wfs l0 = true) (hwf1 : wfs l1 = true) (hN : ¬ 60 < l0.length) (hM : 60 < l1.length) :
    Calls Try.prog 9 #[.slice A0 l0.length c0, .slice A1 l1.length c1] w fun e w' => e = .returned (.bool true) ∧ Below w.heap.size w w' := by
  have hu35 := Try.underlying35
  have hu23 := Try.underlying23
  have hlen := hr0.2.1
  have hlen1 := hr1.2.1
  have HR0 := Aside0.mk hr0
  have HR1 := Aside0.mk hr1
  have HWF := Aside0.mk hwf
  have HWF1 := Aside0.mk hwf1
  clear hr0 hc0 hr1 hc1 hwf hwf1
  have c1b : decide ((60 : Int) < (l0.length : Int)) = false := decide_eq_false (by omega)
  have c1n : decide (60 < l0.length) = false := decide_eq_false hN
  have c1m := eq_false hN
  have d1b : decide ((60 : Int) < (l1.length : Int)) = true := decide_eq_true (by omega)
  have d1n : decide (60 < l1.length) = true := decide_eq_true hM
  have d1m := eq_true hM
  go_enter Try.func9, Try.ntmps9
  go_wp2_with fail
  refine (LB.new w _ (Below.refl _ _)).mono ?_
  rintro e w1 ⟨P, pb, pm, rfl, h, _, _⟩
  have HB := Aside0.mk h.b
  clear h
  go_wp2_with fail
  refine (aw_all _).mono ?_
  rintro e w2 ⟨rfl, hb⟩
  go_wp2
  go_ret
  exact ⟨rfl, below_step HB.out hb⟩
open Mono in
set_option maxHeartbeats 16000000 in
set_option maxRecDepth 100000 in
theorem OrderCopies_all (A0 : Option Addr) (c0 : Nat) (l0 : List S35) (A1 : Option Addr) (c1 : Nat) (l1 : List S35) (w : World) (hr0 : Kd.C k35 w A0 l0.length l0) (hc0 : l0.length ≤ c0) (hr1 : Kd.C k35 w A1 l1.length l1) (hc1 : l1.length ≤ c1) (hwf : wfs l0 = true) (hwf1 : wfs l1 = true) (hN : ¬ 60 < l0.length) (hM : ¬ 60 < l1.length) :
    Calls Try.prog 9 #[.slice A0 l0.length c0, .slice A1 l1.length c1] w fun e w' => e = .returned (.bool true) ∧ Below w.heap.size w w' := by
  have hu35 := Try.underlying35
  have hu23 := Try.underlying23
  have hlen := hr0.2.1
  have hlen1 := hr1.2.1
  have HR0 := Aside0.mk hr0
  have HR1 := Aside0.mk hr1
  have HWF := Aside0.mk hwf
  have HWF1 := Aside0.mk hwf1
  clear hr0 hc0 hr1 hc1 hwf hwf1
  have c1b : decide ((60 : Int) < (l0.length : Int)) = false := decide_eq_false (by omega)
  have c1n : decide (60 < l0.length) = false := decide_eq_false hN
  have c1m := eq_false hN
  have d1b : decide ((60 : Int) < (l1.length : Int)) = false := decide_eq_false (by omega)
  have d1n : decide (60 < l1.length) = false := decide_eq_false hM
  have d1m := eq_false hM
  go_enter Try.func9, Try.ntmps9
  go_wp2_with fail
  refine (LB.new w _ (Below.refl _ _)).mono ?_
  rintro e w1 ⟨P0, pb, pm, rfl, h, _, _⟩
  have H1 : Aside0 (LQ w P0 w1 pb pm w1 (Bk.new.run (l0.take 0))) := ⟨LQ.start h⟩
  have HI0 : Aside0 (Bk.new.Inv 0) := ⟨Bk.Inv.new⟩
  clear h
  go_wp2_with fail
  go_loopg [6] l0.length (fun gg v6 wr => ∃ kk : Nat, kk ≤ l0.length ∧ l0.length - kk ≤ gg ∧ v6 = .int .i64 kk ∧ Aside0 (LQ w P0 w1 pb pm wr (Bk.new.run (l0.take kk))))
  case atStart => exact ⟨0, Nat.zero_le _, by omega, rfl, H1⟩
  case round =>
    clear H1
    obtain ⟨kk, hkk, hg, rfl, HB⟩ := hrel
    by_cases hlt : kk < l0.length
    · have hltz : (kk : Int) < (l0.length : Int) := by omega
      obtain ⟨Q_, hQ_, _, _⟩ := HB.out
      have HC := Aside0.mk (Kd.C_below HR0.out hQ_.b)
      have HWX := Aside0.mk (wfs_at HWF.out hlt)
      have HI_ := Aside0.mk (Bk.Inv.taken' HI0.out l0 kk (T' := 900) (by omega))
      clear hQ_
      obtain ⟨ad, e, x0, x1, x2, x3, x4, x5, x6, x7, x8, x9, x10, x11, x12, x13, x14⟩ := at_T35 HC.out (kk : Int) (by omega) hltz
      subst e
      obtain ⟨x, HX⟩ : ∃ x, Aside0 (x = rd_T35 l0 (kk : Int)) := ⟨_, ⟨rfl⟩⟩
      rw [← HX.out] at HWX x0 x1 x2 x3 x4 x5 x6 x7 x8 x9 x10 x11 x12 x13 x14
      rw [Int.toNat_natCast] at x0 x1 x2 x3 x4 x5 x6 x7 x8 x9 x10 x11 x12 x13 x14
      go_wp2_with fail
      refine (LQ.do_ HB.out HI_.out (Nat.le_refl _) x HWX.out).mono ?_
      rintro e w_ ⟨rfl, h⟩
      have HB2 : Aside0 (LQ w P0 w1 pb pm w_ (Bk.new.run (l0.take (kk + 1)))) := ⟨by rw [run_take' Bk.new l0 hlt, ← HX.out]; exact h⟩
      clear h
      go_wp2_with fail
      go_roundg (l0.length - (kk + 1))
      case measure => omega
      case rel => exact ⟨kk + 1, by omega, by omega, by go_num, HB2⟩
    · have hltz : ¬ (kk : Int) < (l0.length : Int) := by omega
      have hkl : kk = l0.length := by omega
      subst hkl
      obtain ⟨wq, hwq⟩ : ∃ wq, wq = wr := ⟨_, rfl⟩
      rw [List.take_length] at HB
      have hI := HI0.out.run l0
      have hI60 := hI.mono (show 0 + l0.length ≤ 60 by omega)
      obtain ⟨P, hP, _, _⟩ := HB.out
      generalize Bk.new.run l0 = B at hP hI60
      have HI := Aside0.mk hI60
      have HP := Aside0.mk hP
      have HPL := Aside0.mk hP.lo
      clear HB hP hI hI60
      go_wp2_with fail
      refine (LB.Copy HP.out HI.out (by omega)).mono ?_
      rintro e w2 ⟨Q, pc, pmc, n, rfl, hc, hn, hQ, hb⟩
      have HC := Aside0.mk hc
      have HIC := Aside0.mk (HI.out.copy hn)
      have HPQ : Aside0 (∀ k, P k → ¬ Q k) := ⟨fun k hp hq => by have h1_ := (HPL.out k hp).2; have h2_ := hQ k hq; omega⟩
      have HCA : Aside0 ((⟨B.es, n, B.asg⟩ : Bk).all = B.all) := ⟨rfl⟩
      obtain ⟨C, hC⟩ : ∃ C : Bk, C = ⟨B.es, n, B.asg⟩ := ⟨_, rfl⟩
      rw [← hC] at HC HIC HCA
      have HCE := Aside0.mk hC
      replace HP := Aside0.mk (HP.out.below hb)
      clear hc hn hQ hb hC
      have q := LB.All HC.out (HIC.out.ok (by omega))
      go_wp2_with fail
      refine q.mono ?_
      clear q
      rintro e w3 ⟨v, rfl, hs, hb⟩
      change Kd.S k41 41 w3 w2.heap.size (fun _ => True) v C.all at hs
      obtain ⟨X1, d1, rfl⟩ := Kd.S_slice hs
      have HS1 := Aside0.mk (Kd.S_reads' hs).2
      replace HP := Aside0.mk (HP.out.below hb)
      replace HC := Aside0.mk (HC.out.below hb)
      clear hs hb
      have q := LB.All HP.out (HI.out.ok (by omega))
      go_wp2_with fail
      refine q.mono ?_
      clear q
      rintro e w4 ⟨v, rfl, hs, hb⟩
      change Kd.S k41 41 w4 w3.heap.size (fun _ => True) v B.all at hs
      obtain ⟨X2, d2, rfl⟩ := Kd.S_slice hs
      have HS2 := Aside0.mk (Kd.S_reads' hs).2
      replace HS1 := Aside0.mk (And.intro HS1.out.1 (Kd.C_below HS1.out.2 hb))
      replace HP := Aside0.mk (HP.out.below hb)
      replace HC := Aside0.mk (HC.out.below hb)
      clear hs hb
      have HF := Aside0.mk (HI.out.few (by omega))
      have HL := Aside0.mk HI.out.allLen
      have q := same_calls C.all B.all (by rw [HCA.out]; exact HF.out) w4 HS1.out.2 HS1.out.1 HS2.out.2 HS2.out.1 (by rw [HCA.out]; have := HL.out; omega)
      rw [eqL41_iff.2 HCA.out] at q
      go_wp2_with fail
      refine q.mono ?_
      clear q
      rintro e w5 ⟨rfl, hb⟩
      replace HP := Aside0.mk (HP.out.below hb)
      replace HC := Aside0.mk (HC.out.below hb)
      clear hb HS1 HS2
      have HLO5 := Aside0.mk (And.intro HP.out.lo HC.out.lo)
      have q := LB.All HP.out (HI.out.ok (by omega))
      go_wp2_with fail
      refine q.mono ?_
      clear q
      rintro e w6 ⟨v, rfl, hs, hb⟩
      change Kd.S k41 41 w6 w5.heap.size (fun _ => True) v B.all at hs
      obtain ⟨X3, d3, rfl⟩ := Kd.S_slice hs
      have HS3 := Aside0.mk hs
      replace HP := Aside0.mk (HP.out.below hb)
      replace HC := Aside0.mk (HC.out.below hb)
      clear hs hb
      have H1 : Aside0 (LQ w Q w6 pc pmc w6 (C.run (l1.take 0))) := ⟨LQ.start HC.out⟩
      have HQW := Aside0.mk (fun k hk => (HC.out.lo k hk).1)
      clear HC
      go_wp2_with fail
      go_loopg [9] l1.length (fun gg v9 wr => ∃ kk : Nat, kk ≤ l1.length ∧ l1.length - kk ≤ gg ∧ v9 = .int .i64 kk ∧ Aside0 (LQ w Q w6 pc pmc wr (C.run (l1.take kk))))
      case atStart => exact ⟨0, Nat.zero_le _, by omega, rfl, H1⟩
      case round =>
        clear H1
        obtain ⟨kk, hkk, hg, rfl, HB⟩ := hrel
        by_cases hlt : kk < l1.length
        · have hltz : (kk : Int) < (l1.length : Int) := by omega
          obtain ⟨Q_, hQ_, _, _⟩ := HB.out
          have HC := Aside0.mk (Kd.C_below HR1.out hQ_.b)
          have HWX := Aside0.mk (wfs_at HWF1.out hlt)
          have HI_ := Aside0.mk (Bk.Inv.taken' HIC.out l1 kk (T' := 900) (by omega))
          clear hQ_
          obtain ⟨ad, e, x0, x1, x2, x3, x4, x5, x6, x7, x8, x9, x10, x11, x12, x13, x14⟩ := at_T35 HC.out (kk : Int) (by omega) hltz
          subst e
          obtain ⟨x, HX⟩ : ∃ x, Aside0 (x = rd_T35 l1 (kk : Int)) := ⟨_, ⟨rfl⟩⟩
          rw [← HX.out] at HWX x0 x1 x2 x3 x4 x5 x6 x7 x8 x9 x10 x11 x12 x13 x14
          rw [Int.toNat_natCast] at x0 x1 x2 x3 x4 x5 x6 x7 x8 x9 x10 x11 x12 x13 x14
          go_wp2_with fail
          refine (LQ.do_ HB.out HI_.out (Nat.le_refl _) x HWX.out).mono ?_
          rintro e w_ ⟨rfl, h⟩
          have HB2 : Aside0 (LQ w Q w6 pc pmc w_ (C.run (l1.take (kk + 1)))) := ⟨by rw [run_take' C l1 hlt, ← HX.out]; exact h⟩
          clear h
          go_wp2_with fail
          go_roundg (l1.length - (kk + 1))
          case measure => omega
          case rel => exact ⟨kk + 1, by omega, by omega, by go_num, HB2⟩
        · have hltz : ¬ (kk : Int) < (l1.length : Int) := by omega
          have hkl : kk = l1.length := by omega
          subst hkl
          obtain ⟨wq, hwq⟩ : ∃ wq, wq = wr := ⟨_, rfl⟩
          rw [List.take_length] at HB
          obtain ⟨Q2, hC2, hK2, hQ2⟩ := HB.out
          have HC := Aside0.mk hC2
          have HP2 := Aside0.mk (HP.out.kept hK2 HPQ.out HQW.out)
          have HS3b := Aside0.mk (Kd.S_kept (Kd.S_bound HS3.out) hK2.k (fun k hk hq => by have h1_ := (HLO5.out.2 k hq).2; have h2_ := hk.2.1; omega))
          have HPQ2 : Aside0 (∀ k, P k → ¬ Q2 k) := ⟨fun k hp hq => (hQ2 k hq).elim (fun h => HPQ.out k hp h) (fun h => by have h1_ := (HP.out.lo k hp).2; omega)⟩
          have HIC2 := Aside0.mk ((HIC.out.run l1).mono (show 60 + l1.length ≤ 120 by omega))
          clear HB hC2 hK2 hQ2 HP HS3
          have HP := HP2
          clear HP2
          generalize hD : C.run l1 = D at HC HIC2
          have HD := Aside0.mk hD
          clear hD
          have q := LB.All HC.out (HIC2.out.ok (by omega))
          go_wp2_with fail
          refine q.mono ?_
          clear q
          rintro e w7 ⟨v, rfl, hs, hb⟩
          change Kd.S k41 41 w7 wr.heap.size (fun _ => True) v D.all at hs
          obtain ⟨X4, d4, rfl⟩ := Kd.S_slice hs
          have HS4 := Aside0.mk hs
          have HS3c := Aside0.mk (Kd.S_below HS3b.out hb)
          have HLO7 := Aside0.mk (And.intro HP.out.lo HC.out.lo)
          replace HP := Aside0.mk (HP.out.below hb)
          replace HC := Aside0.mk (HC.out.below hb)
          clear hs hb HS3b
          have q := LB.All HP.out (HI.out.ok (by omega))
          go_wp2_with fail
          refine q.mono ?_
          clear q
          rintro e w8 ⟨v, rfl, hs, hb⟩
          change Kd.S k41 41 w8 w7.heap.size (fun _ => True) v B.all at hs
          obtain ⟨X5, d5, rfl⟩ := Kd.S_slice hs
          have HS5 := Aside0.mk (Kd.S_reads' hs).2
          have HS3d := Aside0.mk (Kd.S_reads' (Kd.S_below HS3c.out hb)).2
          replace HS4 := Aside0.mk (Kd.S_below HS4.out hb)
          replace HP := Aside0.mk (HP.out.below hb)
          replace HC := Aside0.mk (HC.out.below hb)
          clear hs hb HS3c
          have q := same_calls B.all B.all HF.out w8 HS5.out.2 HS5.out.1 HS3d.out.2 HS3d.out.1 (by have := HL.out; omega)
          rw [eqL41_iff.2 rfl] at q
          go_wp2_with fail
          refine q.mono ?_
          clear q
          rintro e w9 ⟨rfl, hb⟩
          replace HS4 := Aside0.mk (Kd.S_below HS4.out hb)
          replace HP := Aside0.mk (HP.out.below hb)
          replace HC := Aside0.mk (HC.out.below hb)
          clear hb HS5 HS3d
          have H1 : Aside0 (LQ w P w9 pb pm w9 (B.run (l1.take 0))) := ⟨LQ.start HP.out⟩
          have HPW := Aside0.mk (fun k hk => (HP.out.lo k hk).1)
          clear HP
          go_wp2_with fail
          go_loopg [11] l1.length (fun gg v11 wr => ∃ kk : Nat, kk ≤ l1.length ∧ l1.length - kk ≤ gg ∧ v11 = .int .i64 kk ∧ Aside0 (LQ w P w9 pb pm wr (B.run (l1.take kk))))
          case atStart => exact ⟨0, Nat.zero_le _, by omega, rfl, H1⟩
          case round =>
            clear H1
            obtain ⟨kk, hkk, hg, rfl, HB⟩ := hrel
            by_cases hlt : kk < l1.length
            · have hltz : (kk : Int) < (l1.length : Int) := by omega
              obtain ⟨Q_, hQ_, _, _⟩ := HB.out
              have HC := Aside0.mk (Kd.C_below HR1.out hQ_.b)
              have HWX := Aside0.mk (wfs_at HWF1.out hlt)
              have HI_ := Aside0.mk (Bk.Inv.taken' HI.out l1 kk (T' := 900) (by omega))
              clear hQ_
              obtain ⟨ad, e, x0, x1, x2, x3, x4, x5, x6, x7, x8, x9, x10, x11, x12, x13, x14⟩ := at_T35 HC.out (kk : Int) (by omega) hltz
              subst e
              obtain ⟨x, HX⟩ : ∃ x, Aside0 (x = rd_T35 l1 (kk : Int)) := ⟨_, ⟨rfl⟩⟩
              rw [← HX.out] at HWX x0 x1 x2 x3 x4 x5 x6 x7 x8 x9 x10 x11 x12 x13 x14
              rw [Int.toNat_natCast] at x0 x1 x2 x3 x4 x5 x6 x7 x8 x9 x10 x11 x12 x13 x14
              go_wp2_with fail
              refine (LQ.do_ HB.out HI_.out (Nat.le_refl _) x HWX.out).mono ?_
              rintro e w_ ⟨rfl, h⟩
              have HB2 : Aside0 (LQ w P w9 pb pm w_ (B.run (l1.take (kk + 1)))) := ⟨by rw [run_take' B l1 hlt, ← HX.out]; exact h⟩
              clear h
              go_wp2_with fail
              go_roundg (l1.length - (kk + 1))
              case measure => omega
              case rel => exact ⟨kk + 1, by omega, by omega, by go_num, HB2⟩
            · have hltz : ¬ (kk : Int) < (l1.length : Int) := by omega
              have hkl : kk = l1.length := by omega
              subst hkl
              obtain ⟨wq, hwq⟩ : ∃ wq, wq = wr := ⟨_, rfl⟩
              rw [List.take_length] at HB
              obtain ⟨P2, hP2, hK3, hQ3⟩ := HB.out
              have HP := Aside0.mk hP2
              have HC2 := Aside0.mk (HC.out.kept hK3 (fun k hq hp => HPQ2.out k hp hq) HPW.out)
              have HS4b := Aside0.mk (Kd.S_reads' (Kd.S_kept (Kd.S_bound HS4.out) hK3.k (fun k hk hq => by have h1_ := (HLO7.out.1 k hq).2; have h2_ := hk.2.1; omega))).2
              have HIB2 := Aside0.mk ((HI.out.run l1).mono (show 60 + l1.length ≤ 120 by omega))
              clear HB hP2 hK3 hQ3 HC HS4
              have HEQ : Aside0 ((B.run l1).all = D.all) := ⟨by have h_ := runs_sim l1 B.es B.asg B.n n; rw [← HD.out, HCE.out]; exact all_sim h_.1 h_.2⟩
              generalize B.run l1 = E at HP HIB2 HEQ
              have q := LB.All HC2.out (HIC2.out.ok (by omega))
              go_wp2_with fail
              refine q.mono ?_
              clear q
              rintro e w10 ⟨v, rfl, hs, hb⟩
              change Kd.S k41 41 w10 wr.heap.size (fun _ => True) v D.all at hs
              obtain ⟨X6, d6, rfl⟩ := Kd.S_slice hs
              have HS6 := Aside0.mk (Kd.S_reads' hs).2
              replace HS4b := Aside0.mk (And.intro HS4b.out.1 (Kd.C_below HS4b.out.2 hb))
              replace HP := Aside0.mk (HP.out.below hb)
              clear hs hb HC2
              have HFD := Aside0.mk (HIC2.out.few (by omega))
              have HLD := Aside0.mk HIC2.out.allLen
              have q := same_calls D.all D.all HFD.out w10 HS6.out.2 HS6.out.1 HS4b.out.2 HS4b.out.1 (by have := HLD.out; omega)
              rw [eqL41_iff.2 rfl] at q
              go_wp2_with fail
              refine q.mono ?_
              clear q
              rintro e w11 ⟨rfl, hb⟩
              replace HS4b := Aside0.mk (And.intro HS4b.out.1 (Kd.C_below HS4b.out.2 hb))
              replace HP := Aside0.mk (HP.out.below hb)
              clear hb HS6
              have q := LB.All HP.out (HIB2.out.ok (by omega))
              go_wp2_with fail
              refine q.mono ?_
              clear q
              rintro e w12 ⟨v, rfl, hs, hb⟩
              change Kd.S k41 41 w12 w11.heap.size (fun _ => True) v E.all at hs
              rw [HEQ.out] at hs
              obtain ⟨X7, d7, rfl⟩ := Kd.S_slice hs
              have HS7 := Aside0.mk (Kd.S_reads' hs).2
              replace HS4b := Aside0.mk (And.intro HS4b.out.1 (Kd.C_below HS4b.out.2 hb))
              replace HP := Aside0.mk (HP.out.below hb)
              clear hs hb
              have q := same_calls D.all D.all HFD.out w12 HS7.out.2 HS7.out.1 HS4b.out.2 HS4b.out.1 (by have := HLD.out; omega)
              rw [eqL41_iff.2 rfl] at q
              go_wp2_with fail
              refine q.mono ?_
              clear q
              rintro e w13 ⟨rfl, hb⟩
              replace HP := Aside0.mk (HP.out.below hb)
              clear hb HS7 HS4b
              go_wp2_with fail
              refine (aw_all _).mono ?_
              rintro e w14 ⟨rfl, hb⟩
              go_wp2
              go_ret
              exact ⟨rfl, below_step HP.out.b hb⟩
theorem OrderCopies_all_ (A0 : Option Addr) (c0 : Nat) (l0 : List S35) (A1 : Option Addr) (c1 : Nat) (l1 : List S35) (w : World) (hr0 : Kd.C k35 w A0 l0.length l0) (hc0 : l0.length ≤ c0) (hr1 : Kd.C k35 w A1 l1.length l1) (hc1 : l1.length ≤ c1) (hwf : wfs l0 = true) (hwf1 : wfs l1 = true) :
    Calls Try.prog 9 #[.slice A0 l0.length c0, .slice A1 l1.length c1] w fun e w' => e = .returned (.bool true) ∧ Below w.heap.size w w' := by
  by_cases hN : 60 < l0.length
  · exact OrderCopies_long A0 c0 l0 A1 c1 l1 w hr0 hc0 hr1 hc1 hwf hwf1 hN
  by_cases hM : 60 < l1.length
  · exact OrderCopies_long1 A0 c0 l0 A1 c1 l1 w hr0 hc0 hr1 hc1 hwf hwf1 hN hM
  exact OrderCopies_all A0 c0 l0 A1 c1 l1 w hr0 hc0 hr1 hc1 hwf hwf1 hN hM
def papermilllaw51_OrderCopies.f (l0 : List S35) (l1 : List S35) : Option Bool := if wfs l0 = true ∧ wfs l1 = true then some true else none
theorem papermilllaw51_OrderCopies.calls (A0 : Option Addr) (c0 : Nat) (l0 : List S35) (A1 : Option Addr) (c1 : Nat) (l1 : List S35) (r : Bool) (w : World) (hr0 : Kd.C k35 w A0 l0.length l0) (hc0 : l0.length ≤ c0) (hr1 : Kd.C k35 w A1 l1.length l1) (hc1 : l1.length ≤ c1) (h : papermilllaw51_OrderCopies.f l0 l1  = some r) :
    Calls Try.prog 9 #[.slice A0 l0.length c0, .slice A1 l1.length c1] w fun e w' => e = .returned (.bool r) ∧ Below w.heap.size w w' := by
  unfold papermilllaw51_OrderCopies.f at h
  split at h
  · rename_i hw0
    obtain rfl := Option.some.inj h
    exact OrderCopies_all_ A0 c0 l0 A1 c1 l1 w hr0 hc0 hr1 hc1 hw0.1 hw0.2
  · cases h

end Go.Proofs.Ythmhehfbepijgaa.Q
