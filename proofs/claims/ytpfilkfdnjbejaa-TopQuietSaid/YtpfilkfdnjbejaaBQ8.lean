import Derived.Test.YtpfilkfdnjbejaaBQ0
import Derived.Test.YtpfilkfdnjbejaaBQ1
import Derived.Test.YtpfilkfdnjbejaaBQ2
import Derived.Test.YtpfilkfdnjbejaaBQ3
import Derived.Test.YtpfilkfdnjbejaaBQ4
import Derived.Test.YtpfilkfdnjbejaaBQ5
import Derived.Test.YtpfilkfdnjbejaaBQ6
import Derived.Test.YtpfilkfdnjbejaaBQ7
namespace Go.Proofs.Ytpfilkfdnjbejaa.Q
open Go.RowKit Go.Proofs.YtpfilkfdnjbejaaW.PrintWords Go.Proofs.YtpfilkfdnjbejaaW.PrintLast Go.Proofs.YtpfilkfdnjbejaaW.PrintMore
attribute [local go_sem] max2_int min2_int max_two min_two max_three min_three max_four min_four
set_option linter.unusedVariables false
set_option linter.unusedSimpArgs false
def IR (base : Nat) (w : World) (v : Value) (l : List Int) : Prop := Kd.R (Kd.int .i64) 3 w base (fun _ => True) v l
def Ap (u v : Value) : Prop := ∀ k, u.ownBlock = some k → v.ownBlock ≠ some k
section
variable {base : Nat} {w w1 : World} {u v v1 : Value} {l m : List Int} {row : Option Nat}
theorem IR.to (h : IR base w v l) {ok : Nat → Prop} (hok : ∀ k, v.ownBlock = some k → ok k) : Kd.R (Kd.int .i64) 3 w base ok v l := Kd.R_of_own (Kd.own_of_R h) hok
theorem IR.below (h : IR base w v l) (hb : Below w.heap.size w w1) : IR base w1 v l := Kd.R_below h hb
theorem IR.grown (h : IR base w u l) (hg : w.grownBy w1 row) (ha : ∀ k, u.ownBlock = some k → row ≠ some k) : IR base w1 u l :=
  Kd.R_mono (Kd.R_grown (h.to (ok := fun k => u.ownBlock = some k) (fun _ hk => hk)) hg (fun k hk e => ha k hk e.symm)) (fun _ _ => trivial)
theorem Ap.symm (h : Ap u v) : Ap v u := fun k hk e => h k e hk
theorem Ap.after (h : Ap u v) (hu : IR base w u l) (hat : v1.ownBlock = v.ownBlock ∨ ∃ b, v1.ownBlock = some b ∧ w.heap.size ≤ b) : Ap u v1 := fun k hk e => by
  rcases hat with q | ⟨b, q, hb⟩
  · exact h k hk (q ▸ e)
  · rw [q] at e
    injection e with e
    have := Kd.R_lt hu k hk
    omega
theorem Ap.new (hv : IR base w v l) (hn : ∃ b, u.ownBlock = some b ∧ w.heap.size ≤ b) : Ap u v := fun k hk e => by
  obtain ⟨b, q, hb⟩ := hn
  rw [q] at hk
  injection hk with hk
  have := Kd.R_lt hv k e
  omega
theorem IR.slice (h : IR base w v l) {n : Nat} (hl : l.length = n) : ∃ A c, v = .slice A n c := by
  obtain ⟨A, c, e⟩ := Kd.R_slice h
  exact ⟨A, c, by rw [← hl]; exact e⟩
theorem IR.reads {A : Option Addr} {n c : Nat} (h : IR base w (.slice A n c) l) (_hl : l.length = n) : l.length ≤ c ∧ (Kd.int .i64).C w A l.length l := by
  have q := Kd.R_reads' h
  exact ⟨by rw [← q.1]; exact q.2.1, q.2.2⟩
end
structure F4 (base : Nat) (w : World) (v1 v2 v3 v4 : Value) (l1 l2 l3 l4 : List Int) : Prop where
  r1 : IR base w v1 l1
  r2 : IR base w v2 l2
  r3 : IR base w v3 l3
  r4 : IR base w v4 l4
  a12 : Ap v1 v2
  a13 : Ap v1 v3
  a14 : Ap v1 v4
  a23 : Ap v2 v3
  a24 : Ap v2 v4
  a34 : Ap v3 v4
section
variable {base : Nat} {w w1 : World} {u v1 v2 v3 v4 : Value} {l l1 l2 l3 l4 : List Int}
theorem F4.nil (base : Nat) (w : World) : F4 base w (.slice none 0 0) (.slice none 0 0) (.slice none 0 0) (.slice none 0 0) [] [] [] [] :=
  have h : IR base w (.slice none 0 0) [] := Kd.R_nil _ _ _ _ _
  have a : Ap (.slice none 0 0) (.slice none 0 0) := fun k hk => by simp [Value.ownBlock] at hk
  ⟨h, h, h, h, a, a, a, a, a, a⟩
theorem F4.below (h : F4 base w v1 v2 v3 v4 l1 l2 l3 l4) (hb : Below w.heap.size w w1) : F4 base w1 v1 v2 v3 v4 l1 l2 l3 l4 := ⟨h.r1.below hb, h.r2.below hb, h.r3.below hb, h.r4.below hb, h.a12, h.a13, h.a14, h.a23, h.a24, h.a34⟩
theorem F4.none_ (h : F4 base w v1 v2 v3 v4 l1 l2 l3 l4) (hg : w.grownBy w1 none) : F4 base w1 v1 v2 v3 v4 l1 l2 l3 l4 :=
  ⟨h.r1.grown hg (fun _ _ e => by cases e), h.r2.grown hg (fun _ _ e => by cases e), h.r3.grown hg (fun _ _ e => by cases e), h.r4.grown hg (fun _ _ e => by cases e), h.a12, h.a13, h.a14, h.a23, h.a24, h.a34⟩
theorem F4.swap (h : F4 base w v1 v2 v3 v4 l1 l2 l3 l4) : F4 base w v3 v4 v1 v2 l3 l4 l1 l2 := ⟨h.r3, h.r4, h.r1, h.r2, h.a34, h.a13.symm, h.a23.symm, h.a14.symm, h.a24.symm, h.a12⟩
theorem F4.flip (h : F4 base w v1 v2 v3 v4 l1 l2 l3 l4) : F4 base w v2 v1 v3 v4 l2 l1 l3 l4 := ⟨h.r2, h.r1, h.r3, h.r4, h.a12.symm, h.a23, h.a24, h.a13, h.a14, h.a34⟩
theorem F4.app (h : F4 base w v1 v2 v3 v4 l1 l2 l3 l4) (ho : IR base w1 u l) (hg : w.grownBy w1 v1.ownBlock) (hat : u.ownBlock = v1.ownBlock ∨ ∃ b, u.ownBlock = some b ∧ w.heap.size ≤ b) : F4 base w1 u v2 v3 v4 l l2 l3 l4 :=
  ⟨ho, h.r2.grown hg (h.a12.symm), h.r3.grown hg (h.a13.symm), h.r4.grown hg (h.a14.symm), (h.a12.symm.after h.r2 hat).symm, (h.a13.symm.after h.r3 hat).symm, (h.a14.symm.after h.r4 hat).symm, h.a23, h.a24, h.a34⟩
theorem F4.put {g n cap : Nat} (h : F4 base w v1 v2 v3 (.slice (some ⟨g, 0, none⟩) n cap) l1 l2 l3 l4) (i : Int) (x : Int) : F4 base (w.setCell ⟨g, i.toNat, none⟩ (.int .i64 x)) v1 v2 v3 (.slice (some ⟨g, 0, none⟩) n cap) l1 l2 l3 (l4.set i.toNat x) ∧ w.grownBy (w.setCell ⟨g, i.toNat, none⟩ (.int .i64 x)) (some g) := by
  have q := Kd.R_putg h.r4 i x
  have nx : ∀ {u : Value}, Ap u (.slice (some ⟨g, 0, none⟩) n cap) → ∀ k, u.ownBlock = some k → (some g : Option Nat) ≠ some k := fun ha k hk e => ha k hk e
  exact ⟨⟨h.r1.grown q.2 (nx h.a14), h.r2.grown q.2 (nx h.a24), h.r3.grown q.2 (nx h.a34), q.1, h.a12, h.a13, h.a14, h.a23, h.a24, h.a34⟩, q.2⟩
end
structure WSg (w : World) (gx gs : Nat) (cx cs : Array Value) (wr : World) : Prop where
  hb : Below w.heap.size w wr
  bx : wr.heap[gx]? = some (.cells cx 29 (0, 0))
  bs : wr.heap[gs]? = some (.cells cs 37 (0, 0))
section
variable {w wr w1 : World} {gx gs : Nat} {cx cs : Array Value} {base : Nat} {v : Value} {l : List Int} {row : Option Nat}
theorem WSg.below (h : WSg w gx gs cx cs wr) (hb : Below wr.heap.size wr w1) : WSg w gx gs cx cs w1 := ⟨below_step h.hb hb, blk_below h.bx hb, blk_below h.bs hb⟩
theorem WSg.none_ (h : WSg w gx gs cx cs wr) (hg : wr.grownBy w1 none) (hb : Below w.heap.size w w1) : WSg w gx gs cx cs w1 := ⟨hb, blk_grown h.bx hg (by simp), blk_grown h.bs hg (by simp)⟩
theorem WSg.app (h : WSg w gx gs cx cs wr) (hr : IR base wr v l) (hg : wr.grownBy w1 v.ownBlock) (hb : Below w.heap.size w w1) : WSg w gx gs cx cs w1 := ⟨hb, blk_grown h.bx hg (Kd.R_ne hr h.bx (by decide)), blk_grown h.bs hg (Kd.R_ne hr h.bs (by decide))⟩
end
theorem R62_grown {base : Nat} {w w1 : World} {v u : Value} {l : List S62} {m : List S31} {ok : Nat → Prop} (h : Kd.R k62 62 w base (fun _ => True) v l) (ho : Kd.R k31 31 w base ok u m) (hg : w.grownBy w1 u.ownBlock) : Kd.R k62 62 w1 base (fun _ => True) v l := by
  refine Kd.R_mono (Kd.R_grown (Kd.R_bound h) hg (fun k hk e => ?_)) (fun _ _ => trivial)
  obtain ⟨_, _, _, q, hq, cells, hc⟩ := hk
  have hq : q = 62 := by simpa using (show q ∈ [62] from hq)
  exact Kd.R_ne ho hc (by rw [hq]; decide) e
theorem R62_put {base g n cap : Nat} {w : World} {v : Value} {l : List S62} {m : List Int} (h : Kd.R k62 62 w base (fun _ => True) v l) (ho : IR base w (.slice (some ⟨g, 0, none⟩) n cap) m) (hm : 0 < m.length) (j : Nat) (u : Value) : Kd.R k62 62 (w.setCell ⟨g, j, none⟩ u) base (fun _ => True) v l := by
  obtain ⟨g', cap', e, _, _, cells, hc⟩ := Kd.R_form ho hm
  obtain rfl : g = g' := by injection e with e _ _; injection e with e; injection e with e
  exact Kd.R_set h hc (fun q hq => by rw [show q = 62 from (by simpa using (show q ∈ [62] from hq))]; decide) j u
def clim (n : Int) : Int := mx (-65536) (mn n 65536)
def disL (x : S29) (B : List S62) (SB DM : List Int) : Nat → List Int
  | 0 => DM
  | k + 1 => (disL x B SB DM k).set k (clim ((disL x B SB DM k).getD k 0 + cpl x (B.getD k z62).f2 (SB.getD k 0)))
def zipL (B M : List S62) : Nat → List S31
  | 0 => []
  | k + 1 => zipL B M k ++ [⟨(B.getD k z62).f2, (M.getD k z62).f2⟩]
def runW3 (x : S29) (s : S37) (SB SM DB DM : List Int) : List S31 × Int :=
  if (runC x.f0 s.f0.f0 s.f1.f0 SB DB).2 = 0 then (if (runC x.f1 s.f0.f1 s.f1.f1 SM DM).2 = 0 then
    (if (runC x.f1 s.f0.f1 s.f1.f1 SM (disL x (runC x.f0 s.f0.f0 s.f1.f0 SB DB).1 SB DM SB.length)).2 = 0 then
      (zipL (runC x.f0 s.f0.f0 s.f1.f0 SB DB).1 (runC x.f1 s.f0.f1 s.f1.f1 SM (disL x (runC x.f0 s.f0.f0 s.f1.f0 SB DB).1 SB DM SB.length)).1 SB.length, 0)
      else ([], (runC x.f1 s.f0.f1 s.f1.f1 SM (disL x (runC x.f0 s.f0.f0 s.f1.f0 SB DB).1 SB DM SB.length)).2))
    else ([], (runC x.f1 s.f0.f1 s.f1.f1 SM DM).2)) else ([], (runC x.f0 s.f0.f0 s.f1.f0 SB DB).2)
def runW (x : S29) (s : S37) (l2 l3 : List S31) : List S31 × Int :=
  if ckW x = 0 then (if l2.length ≤ 512 then (if l3.length = l2.length then runW3 x s (l2.map S31.f0) (l2.map S31.f1) (l3.map S31.f0) (l3.map S31.f1) else ([], 3)) else ([], 8)) else ([], ckW x)
theorem disL_length (x : S29) (B : List S62) (SB DM : List Int) : ∀ k, (disL x B SB DM k).length = DM.length
  | 0 => rfl
  | k + 1 => by rw [disL, List.length_set, disL_length x B SB DM k]
theorem zipL_length (B M : List S62) : ∀ k, (zipL B M k).length = k
  | 0 => rfl
  | k + 1 => by rw [zipL, List.length_append, zipL_length B M k]; rfl
theorem runC_is {c : S27} {out v : Int} {A D : List Int} (h : (runC c out v A D).2 = 0) : ckC c = 0 ∧ A.length ≤ 512 ∧ D.length = A.length ∧ beginB c out v = true ∧ okN A D A.length = true ∧ runC c out v A D = (smL c (st0 c out v) A D A.length, 0) := by
  unfold runC at h ⊢
  split at h
  · rename_i hc
    split at h
    · rename_i h5
      split at h
      · rename_i hl
        split at h
        · rename_i hb
          obtain ⟨h1, h2⟩ := (Bool.and_eq_true _ _).mp hb
          exact ⟨hc, h5, hl, h1, h2, by rw [if_pos hc, if_pos h5, if_pos hl, if_pos hb]⟩
        · exact absurd h (by decide)
      · exact absurd h (by decide)
    · exact absurd h (by decide)
  · exact absurd h (by assumption)
theorem smN_v {c : S27} {s : St} (hc : ckC c = 0) (h : s.Ok c) (A D : List Int) (n : Nat) (hn : okN A D n = true) (k : Nat) (hk : k < n) : -33554432 ≤ (smN c s A D k).f2 ∧ (smN c s A D k).f2 ≤ 33554432 :=
  (stN_ok hc h A D (k + 1) (okN_le A D n hn (k + 1) hk)).bound hc
theorem map_take {α β : Type} (f : α → β) (l : List α) (k : Nat) (z : α) (hk : k < l.length) : (l.take (k + 1)).map f = (l.take k).map f ++ [f (l.getD k z)] := by
  rw [List.take_add_one, List.getElem?_eq_getElem hk, List.map_append, List.getD_eq_getElem?_getD, List.getElem?_eq_getElem hk]
  rfl
theorem RunN_calls (c : S27) (out v : Int) (n : Nat) (A3 : Option Addr) (c3 : Nat) (A : List Int) (A4 : Option Addr) (c4 : Nat) (D : List Int) (base : Nat) (w : World) (hA : A.length = n) (hD : D.length = n) (h3 : IR base w (.slice A3 n c3) A) (h4 : IR base w (.slice A4 n c4) D) (R : List S62 × Int) (hR : runC c out v A D = R) : Calls Try.prog 14 #[.agg #[.int .i64 c.f0.f0, .int .i64 c.f0.f1, .int .i64 c.f0.f2, .int .i64 c.f0.f3, .int .i64 c.f0.f4, .int .i64 c.f0.f5, .int .i64 c.f1.f0, .int .i64 c.f1.f1, .int .i64 c.f1.f2], .int .i64 out, .int .i64 v, .slice A3 n c3, .slice A4 n c4] w fun e w' => ∃ v0 : Value, e = .returned (.tuple #[v0, .int .i64 R.2]) ∧ Kd.R k62 62 w' w.heap.size (fun _ => True) v0 R.1 ∧ Below w.heap.size w w' := by
  subst hR
  have q3 := h3.reads hA
  have q4 := h4.reads hD
  have q := RunC_calls c out v A3 c3 A A4 c4 D w q3.2 q3.1 q4.2 q4.1
  rw [hA, hD] at q
  exact q
theorem disL_ge (x : S29) (B : List S62) (SB DM : List Int) : ∀ k j, k ≤ j → (disL x B SB DM k).getD j 0 = DM.getD j 0
  | 0, _, _ => rfl
  | k + 1, j, h => by
    rw [disL, List.getD_eq_getElem?_getD, List.getElem?_set_ne (by omega), ← List.getD_eq_getElem?_getD]
    exact disL_ge x B SB DM k j (by omega)
attribute [local go_sem] max2_int min2_int max_two min_two
theorem Limited_calls (n : Int) (w : World) : Calls Try.prog 15 #[.int .i64 n] w fun e w' => e = .returned (.int .i64 (clim n)) ∧ Below w.heap.size w w' := by
  obtain ⟨j, hj⟩ : ∃ j, mn n 65536 = j := ⟨_, rfl⟩
  have hj_ : (if 65536 < n then 65536 else n) = j := hj
  obtain ⟨i, hi⟩ : ∃ i, mx (-65536) j = i := ⟨_, rfl⟩
  have hi_ : (if (-65536) < j then j else (-65536)) = i := hi
  have e : clim n = i := by unfold clim; rw [hj, hi]
  rw [e]
  clear hj hi e
  go_enter Try.func15, Try.ntmps15
  go_wp2
  go_ret
  exact ⟨rfl, Below.refl _ _⟩
theorem run_bound {c : S27} {out v : Int} {A D : List Int} {B : List S62} (h : runC c out v A D = (B, 0)) : B.length = A.length ∧ ∀ k, k < A.length → (-33554432 ≤ (B.getD k z62).f2 ∧ (B.getD k z62).f2 ≤ 33554432) ∧ (-16777216 ≤ A.getD k 0 ∧ A.getD k 0 ≤ 16777216) ∧ (-65536 ≤ D.getD k 0 ∧ D.getD k 0 ≤ 65536) := by
  have q := runC_is (c := c) (out := out) (v := v) (A := A) (D := D) (by rw [h])
  obtain ⟨hc, _, _, hb, hok, he⟩ := q
  rw [h] at he
  obtain rfl : B = smL c (st0 c out v) A D A.length := (Prod.mk.inj he).1
  refine ⟨smL_length _ _ _ _ _, fun k hk => ?_⟩
  rw [smL_get _ _ _ _ _ _ _ hk]
  obtain ⟨h1, h2⟩ := stepB_is (okN_is A D _ hok k hk)
  exact ⟨smN_v hc (st0_ok hc hb) A D _ hok k hk, sg_is h1, h2⟩
theorem info31 : (Try.prog.info? 31).map (fun i => (i.zero, i.size, i.bytes)) = some (some (.agg #[.int .i64 0, .int .i64 0]), 2, 16) := by kernel_rfl
set_option maxHeartbeats 16000000 in
set_option maxRecDepth 100000 in
theorem WRun_ck (x : S29) (s : S37) (A2 : Option Addr) (c2 : Nat) (l2 : List S31) (A3 : Option Addr) (c3 : Nat) (l3 : List S31) (w : World) (hr2 : Kd.C k31 w A2 l2.length l2) (hr3 : Kd.C k31 w A3 l3.length l3) (hk : ¬ ckW x = 0) : Calls Try.prog 7 #[.agg #[.int .i64 x.f0.f0.f0, .int .i64 x.f0.f0.f1, .int .i64 x.f0.f0.f2, .int .i64 x.f0.f0.f3, .int .i64 x.f0.f0.f4, .int .i64 x.f0.f0.f5, .int .i64 x.f0.f1.f0, .int .i64 x.f0.f1.f1, .int .i64 x.f0.f1.f2, .int .i64 x.f1.f0.f0, .int .i64 x.f1.f0.f1, .int .i64 x.f1.f0.f2, .int .i64 x.f1.f0.f3, .int .i64 x.f1.f0.f4, .int .i64 x.f1.f0.f5, .int .i64 x.f1.f1.f0, .int .i64 x.f1.f1.f1, .int .i64 x.f1.f1.f2, .int .i64 x.f2], .agg #[.int .i64 s.f0.f0, .int .i64 s.f0.f1, .int .i64 s.f1.f0, .int .i64 s.f1.f1], .slice A2 l2.length c2, .slice A3 l3.length c3] w fun e w' => ∃ v0 : Value, e = .returned (.tuple #[v0, .int .i64 (ckW x)]) ∧ Kd.R k31 31 w' w.heap.size (fun _ => True) v0 ([]) ∧ Below w.heap.size w w' := by
  have hu29 := Try.underlying29
  have hu37 := Try.underlying37
  have hu27 := Try.underlying27
  have hu31 := Try.underlying31
  have hu56 := Try.underlying56
  have hu57 := Try.underlying57
  have hu41 := Try.underlying41
  have hu62 := Try.underlying62
  have hu3 := Try.underlying3
  have HB := Aside0.mk (Below.refl w.heap.size w)
  have t1 : (ckW x != 0) = true := bne_iff_ne.2 hk
  clear hk
  clear hr2 hr3
  go_enter Try.func7, Try.ntmps7
  go_wp2_with (first | ((with_reducible refine gate_dst (N := 4) rfl ?_); refine box_event ?hg (N := 4) ?hd (cs := #[.int .i64 x.f0.f0.f0, .int .i64 x.f0.f0.f1, .int .i64 x.f0.f0.f2, .int .i64 x.f0.f0.f3, .int .i64 x.f0.f0.f4, .int .i64 x.f0.f0.f5, .int .i64 x.f0.f1.f0, .int .i64 x.f0.f1.f1, .int .i64 x.f0.f1.f2, .int .i64 x.f1.f0.f0, .int .i64 x.f1.f0.f1, .int .i64 x.f1.f0.f2, .int .i64 x.f1.f0.f3, .int .i64 x.f1.f0.f4, .int .i64 x.f1.f0.f5, .int .i64 x.f1.f1.f0, .int .i64 x.f1.f1.f1, .int .i64 x.f1.f1.f2, .int .i64 x.f2]) (t := 29) ?hr ?_; (case hd => rfl); (case hg => rfl); (case hr => first | (go_simp; done) | (go_simp; rfl)); intro Mg1 hg_ Mw2 hbox_ hb_; have MB3 := Aside0.mk hbox_; have MG4 : Aside0 (w.heap.size ≤ Mg1) := ⟨by rw [hg_]; exact below_size HB.out⟩; have MH5 := Aside0.mk (below_step HB.out hb_); clear hbox_ hb_ hg_) | ((with_reducible refine gate_dst (N := 5) rfl ?_); refine box_event ?hg (N := 5) ?hd (cs := #[.int .i64 s.f0.f0, .int .i64 s.f0.f1, .int .i64 s.f1.f0, .int .i64 s.f1.f1]) (t := 37) ?hr ?_; (case hd => rfl); (case hg => rfl); (case hr => first | (go_simp; done) | (go_simp; rfl)); intro Mg6 hg_ Mw7 hbox_ hb_; have MB8 := Aside0.mk hbox_; have MG9 : Aside0 (w.heap.size ≤ Mg6) := ⟨by rw [hg_]; exact below_size MH5.out⟩; have MN10 : Aside0 (Mg1 ≠ Mg6) := ⟨by rw [hg_]; exact Nat.ne_of_lt (blk_lt MB3.out)⟩; have MB11 := Aside0.mk (blk_below MB3.out hb_); have MH12 := Aside0.mk (below_step MH5.out hb_); clear hbox_ hb_ hg_) | ((with_reducible refine gate_dst (N := 25) rfl ?_); refine wpList_load_seg rfl 29 (.tmp 4) rfl Mg1 0 rfl 29 #[.int .i64 x.f0.f0.f0, .int .i64 x.f0.f0.f1, .int .i64 x.f0.f0.f2, .int .i64 x.f0.f0.f3, .int .i64 x.f0.f0.f4, .int .i64 x.f0.f0.f5, .int .i64 x.f0.f1.f0, .int .i64 x.f0.f1.f1, .int .i64 x.f0.f1.f2, .int .i64 x.f1.f0.f0, .int .i64 x.f1.f0.f1, .int .i64 x.f1.f0.f2, .int .i64 x.f1.f0.f3, .int .i64 x.f1.f0.f4, .int .i64 x.f1.f0.f5, .int .i64 x.f1.f1.f0, .int .i64 x.f1.f1.f1, .int .i64 x.f1.f1.f2, .int .i64 x.f2] (0, 0) _ MB11.out [.int .i64 x.f0.f0.f0, .int .i64 x.f0.f0.f1, .int .i64 x.f0.f0.f2, .int .i64 x.f0.f0.f3, .int .i64 x.f0.f0.f4, .int .i64 x.f0.f0.f5, .int .i64 x.f0.f1.f0, .int .i64 x.f0.f1.f1, .int .i64 x.f0.f1.f2, .int .i64 x.f1.f0.f0, .int .i64 x.f1.f0.f1, .int .i64 x.f1.f0.f2, .int .i64 x.f1.f0.f3, .int .i64 x.f1.f0.f4, .int .i64 x.f1.f0.f5, .int .i64 x.f1.f1.f0, .int .i64 x.f1.f1.f1, .int .i64 x.f1.f1.f2, .int .i64 x.f2] rfl Try.underlying29 rfl (by kernel_rfl) ?_) | ((go_at_call 9); ((with_reducible refine (web_Check.calls 3 x.f0.f0.f0 x.f0.f0.f1 x.f0.f0.f2 x.f0.f0.f3 x.f0.f0.f4 x.f0.f0.f5 x.f0.f1.f0 x.f0.f1.f1 x.f0.f1.f2 x.f1.f0.f0 x.f1.f0.f1 x.f1.f0.f2 x.f1.f0.f3 x.f1.f0.f4 x.f1.f0.f5 x.f1.f1.f0 x.f1.f1.f1 x.f1.f1.f2 x.f2 (ckW x) _ (ckW_f x)).mono ?_); rintro e Mw13 ⟨rfl, hb0_⟩; have hb_ := hb0_; clear hb0_; have MB14 := Aside0.mk (blk_below MB11.out hb_); have MB15 := Aside0.mk (blk_below MB8.out hb_); have MH16 := Aside0.mk (below_step MH12.out hb_); clear hb_)))
  go_ret2
  exact ⟨_, rfl, Kd.R_nil _ _ _ _ _, MH16.out⟩
set_option maxHeartbeats 16000000 in
set_option maxRecDepth 100000 in
theorem WRun_long (x : S29) (s : S37) (A2 : Option Addr) (c2 : Nat) (l2 : List S31) (A3 : Option Addr) (c3 : Nat) (l3 : List S31) (w : World) (hr2 : Kd.C k31 w A2 l2.length l2) (hr3 : Kd.C k31 w A3 l3.length l3) (hk : ckW x = 0) (h5 : ¬ l2.length ≤ 512) : Calls Try.prog 7 #[.agg #[.int .i64 x.f0.f0.f0, .int .i64 x.f0.f0.f1, .int .i64 x.f0.f0.f2, .int .i64 x.f0.f0.f3, .int .i64 x.f0.f0.f4, .int .i64 x.f0.f0.f5, .int .i64 x.f0.f1.f0, .int .i64 x.f0.f1.f1, .int .i64 x.f0.f1.f2, .int .i64 x.f1.f0.f0, .int .i64 x.f1.f0.f1, .int .i64 x.f1.f0.f2, .int .i64 x.f1.f0.f3, .int .i64 x.f1.f0.f4, .int .i64 x.f1.f0.f5, .int .i64 x.f1.f1.f0, .int .i64 x.f1.f1.f1, .int .i64 x.f1.f1.f2, .int .i64 x.f2], .agg #[.int .i64 s.f0.f0, .int .i64 s.f0.f1, .int .i64 s.f1.f0, .int .i64 s.f1.f1], .slice A2 l2.length c2, .slice A3 l3.length c3] w fun e w' => ∃ v0 : Value, e = .returned (.tuple #[v0, .int .i64 (8)]) ∧ Kd.R k31 31 w' w.heap.size (fun _ => True) v0 ([]) ∧ Below w.heap.size w w' := by
  have hu29 := Try.underlying29
  have hu37 := Try.underlying37
  have hu27 := Try.underlying27
  have hu31 := Try.underlying31
  have hu56 := Try.underlying56
  have hu57 := Try.underlying57
  have hu41 := Try.underlying41
  have hu62 := Try.underlying62
  have hu3 := Try.underlying3
  have HB := Aside0.mk (Below.refl w.heap.size w)
  have HK := Aside0.mk hk
  clear hk
  have t1 : decide (512 < (l2.length : Int)) = true := decide_eq_true (by omega)
  have t2 : decide (512 < l2.length) = true := decide_eq_true (by omega)
  clear h5
  clear hr2 hr3
  go_enter Try.func7, Try.ntmps7
  go_wp2_with (first | ((with_reducible refine gate_dst (N := 4) rfl ?_); refine box_event ?hg (N := 4) ?hd (cs := #[.int .i64 x.f0.f0.f0, .int .i64 x.f0.f0.f1, .int .i64 x.f0.f0.f2, .int .i64 x.f0.f0.f3, .int .i64 x.f0.f0.f4, .int .i64 x.f0.f0.f5, .int .i64 x.f0.f1.f0, .int .i64 x.f0.f1.f1, .int .i64 x.f0.f1.f2, .int .i64 x.f1.f0.f0, .int .i64 x.f1.f0.f1, .int .i64 x.f1.f0.f2, .int .i64 x.f1.f0.f3, .int .i64 x.f1.f0.f4, .int .i64 x.f1.f0.f5, .int .i64 x.f1.f1.f0, .int .i64 x.f1.f1.f1, .int .i64 x.f1.f1.f2, .int .i64 x.f2]) (t := 29) ?hr ?_; (case hd => rfl); (case hg => rfl); (case hr => first | (go_simp; done) | (go_simp; rfl)); intro Mg1 hg_ Mw2 hbox_ hb_; have MB3 := Aside0.mk hbox_; have MG4 : Aside0 (w.heap.size ≤ Mg1) := ⟨by rw [hg_]; exact below_size HB.out⟩; have MH5 := Aside0.mk (below_step HB.out hb_); clear hbox_ hb_ hg_) | ((with_reducible refine gate_dst (N := 5) rfl ?_); refine box_event ?hg (N := 5) ?hd (cs := #[.int .i64 s.f0.f0, .int .i64 s.f0.f1, .int .i64 s.f1.f0, .int .i64 s.f1.f1]) (t := 37) ?hr ?_; (case hd => rfl); (case hg => rfl); (case hr => first | (go_simp; done) | (go_simp; rfl)); intro Mg6 hg_ Mw7 hbox_ hb_; have MB8 := Aside0.mk hbox_; have MG9 : Aside0 (w.heap.size ≤ Mg6) := ⟨by rw [hg_]; exact below_size MH5.out⟩; have MN10 : Aside0 (Mg1 ≠ Mg6) := ⟨by rw [hg_]; exact Nat.ne_of_lt (blk_lt MB3.out)⟩; have MB11 := Aside0.mk (blk_below MB3.out hb_); have MH12 := Aside0.mk (below_step MH5.out hb_); clear hbox_ hb_ hg_) | ((with_reducible refine gate_dst (N := 25) rfl ?_); refine wpList_load_seg rfl 29 (.tmp 4) rfl Mg1 0 rfl 29 #[.int .i64 x.f0.f0.f0, .int .i64 x.f0.f0.f1, .int .i64 x.f0.f0.f2, .int .i64 x.f0.f0.f3, .int .i64 x.f0.f0.f4, .int .i64 x.f0.f0.f5, .int .i64 x.f0.f1.f0, .int .i64 x.f0.f1.f1, .int .i64 x.f0.f1.f2, .int .i64 x.f1.f0.f0, .int .i64 x.f1.f0.f1, .int .i64 x.f1.f0.f2, .int .i64 x.f1.f0.f3, .int .i64 x.f1.f0.f4, .int .i64 x.f1.f0.f5, .int .i64 x.f1.f1.f0, .int .i64 x.f1.f1.f1, .int .i64 x.f1.f1.f2, .int .i64 x.f2] (0, 0) _ MB11.out [.int .i64 x.f0.f0.f0, .int .i64 x.f0.f0.f1, .int .i64 x.f0.f0.f2, .int .i64 x.f0.f0.f3, .int .i64 x.f0.f0.f4, .int .i64 x.f0.f0.f5, .int .i64 x.f0.f1.f0, .int .i64 x.f0.f1.f1, .int .i64 x.f0.f1.f2, .int .i64 x.f1.f0.f0, .int .i64 x.f1.f0.f1, .int .i64 x.f1.f0.f2, .int .i64 x.f1.f0.f3, .int .i64 x.f1.f0.f4, .int .i64 x.f1.f0.f5, .int .i64 x.f1.f1.f0, .int .i64 x.f1.f1.f1, .int .i64 x.f1.f1.f2, .int .i64 x.f2] rfl Try.underlying29 rfl (by kernel_rfl) ?_) | ((go_at_call 9); ((with_reducible refine (web_Check.calls 3 x.f0.f0.f0 x.f0.f0.f1 x.f0.f0.f2 x.f0.f0.f3 x.f0.f0.f4 x.f0.f0.f5 x.f0.f1.f0 x.f0.f1.f1 x.f0.f1.f2 x.f1.f0.f0 x.f1.f0.f1 x.f1.f0.f2 x.f1.f0.f3 x.f1.f0.f4 x.f1.f0.f5 x.f1.f1.f0 x.f1.f1.f1 x.f1.f1.f2 x.f2 (ckW x) _ (ckW_f x)).mono ?_); rintro e Mw13 ⟨rfl, hb0_⟩; have hb_ := hb0_; clear hb0_; rw [HK.out]; have MB14 := Aside0.mk (blk_below MB11.out hb_); have MB15 := Aside0.mk (blk_below MB8.out hb_); have MH16 := Aside0.mk (below_step MH12.out hb_); clear hb_)))
  go_ret2
  exact ⟨_, rfl, Kd.R_nil _ _ _ _ _, MH16.out⟩
set_option maxHeartbeats 16000000 in
set_option maxRecDepth 100000 in
theorem WRun_len (x : S29) (s : S37) (A2 : Option Addr) (c2 : Nat) (l2 : List S31) (A3 : Option Addr) (c3 : Nat) (l3 : List S31) (w : World) (hr2 : Kd.C k31 w A2 l2.length l2) (hr3 : Kd.C k31 w A3 l3.length l3) (hk : ckW x = 0) (h5 : l2.length ≤ 512) (hl : ¬ l3.length = l2.length) : Calls Try.prog 7 #[.agg #[.int .i64 x.f0.f0.f0, .int .i64 x.f0.f0.f1, .int .i64 x.f0.f0.f2, .int .i64 x.f0.f0.f3, .int .i64 x.f0.f0.f4, .int .i64 x.f0.f0.f5, .int .i64 x.f0.f1.f0, .int .i64 x.f0.f1.f1, .int .i64 x.f0.f1.f2, .int .i64 x.f1.f0.f0, .int .i64 x.f1.f0.f1, .int .i64 x.f1.f0.f2, .int .i64 x.f1.f0.f3, .int .i64 x.f1.f0.f4, .int .i64 x.f1.f0.f5, .int .i64 x.f1.f1.f0, .int .i64 x.f1.f1.f1, .int .i64 x.f1.f1.f2, .int .i64 x.f2], .agg #[.int .i64 s.f0.f0, .int .i64 s.f0.f1, .int .i64 s.f1.f0, .int .i64 s.f1.f1], .slice A2 l2.length c2, .slice A3 l3.length c3] w fun e w' => ∃ v0 : Value, e = .returned (.tuple #[v0, .int .i64 (3)]) ∧ Kd.R k31 31 w' w.heap.size (fun _ => True) v0 ([]) ∧ Below w.heap.size w w' := by
  have hu29 := Try.underlying29
  have hu37 := Try.underlying37
  have hu27 := Try.underlying27
  have hu31 := Try.underlying31
  have hu56 := Try.underlying56
  have hu57 := Try.underlying57
  have hu41 := Try.underlying41
  have hu62 := Try.underlying62
  have hu3 := Try.underlying3
  have HB := Aside0.mk (Below.refl w.heap.size w)
  have HK := Aside0.mk hk
  clear hk
  have t1 : decide (512 < (l2.length : Int)) = false := decide_eq_false (by omega)
  have t2 : decide (512 < l2.length) = false := decide_eq_false (by omega)
  have t3 : ((l3.length : Int) != (l2.length : Int)) = true := bne_iff_ne.2 (by omega)
  have t4 : (l3.length != l2.length) = true := bne_iff_ne.2 hl
  have t5 : ((l3.length : Int) == (l2.length : Int)) = false := beq_eq_false_iff_ne.2 (by omega)
  have t6 : (l3.length == l2.length) = false := beq_eq_false_iff_ne.2 hl
  clear h5 hl
  clear hr2 hr3
  go_enter Try.func7, Try.ntmps7
  go_wp2_with (first | ((with_reducible refine gate_dst (N := 4) rfl ?_); refine box_event ?hg (N := 4) ?hd (cs := #[.int .i64 x.f0.f0.f0, .int .i64 x.f0.f0.f1, .int .i64 x.f0.f0.f2, .int .i64 x.f0.f0.f3, .int .i64 x.f0.f0.f4, .int .i64 x.f0.f0.f5, .int .i64 x.f0.f1.f0, .int .i64 x.f0.f1.f1, .int .i64 x.f0.f1.f2, .int .i64 x.f1.f0.f0, .int .i64 x.f1.f0.f1, .int .i64 x.f1.f0.f2, .int .i64 x.f1.f0.f3, .int .i64 x.f1.f0.f4, .int .i64 x.f1.f0.f5, .int .i64 x.f1.f1.f0, .int .i64 x.f1.f1.f1, .int .i64 x.f1.f1.f2, .int .i64 x.f2]) (t := 29) ?hr ?_; (case hd => rfl); (case hg => rfl); (case hr => first | (go_simp; done) | (go_simp; rfl)); intro Mg1 hg_ Mw2 hbox_ hb_; have MB3 := Aside0.mk hbox_; have MG4 : Aside0 (w.heap.size ≤ Mg1) := ⟨by rw [hg_]; exact below_size HB.out⟩; have MH5 := Aside0.mk (below_step HB.out hb_); clear hbox_ hb_ hg_) | ((with_reducible refine gate_dst (N := 5) rfl ?_); refine box_event ?hg (N := 5) ?hd (cs := #[.int .i64 s.f0.f0, .int .i64 s.f0.f1, .int .i64 s.f1.f0, .int .i64 s.f1.f1]) (t := 37) ?hr ?_; (case hd => rfl); (case hg => rfl); (case hr => first | (go_simp; done) | (go_simp; rfl)); intro Mg6 hg_ Mw7 hbox_ hb_; have MB8 := Aside0.mk hbox_; have MG9 : Aside0 (w.heap.size ≤ Mg6) := ⟨by rw [hg_]; exact below_size MH5.out⟩; have MN10 : Aside0 (Mg1 ≠ Mg6) := ⟨by rw [hg_]; exact Nat.ne_of_lt (blk_lt MB3.out)⟩; have MB11 := Aside0.mk (blk_below MB3.out hb_); have MH12 := Aside0.mk (below_step MH5.out hb_); clear hbox_ hb_ hg_) | ((with_reducible refine gate_dst (N := 25) rfl ?_); refine wpList_load_seg rfl 29 (.tmp 4) rfl Mg1 0 rfl 29 #[.int .i64 x.f0.f0.f0, .int .i64 x.f0.f0.f1, .int .i64 x.f0.f0.f2, .int .i64 x.f0.f0.f3, .int .i64 x.f0.f0.f4, .int .i64 x.f0.f0.f5, .int .i64 x.f0.f1.f0, .int .i64 x.f0.f1.f1, .int .i64 x.f0.f1.f2, .int .i64 x.f1.f0.f0, .int .i64 x.f1.f0.f1, .int .i64 x.f1.f0.f2, .int .i64 x.f1.f0.f3, .int .i64 x.f1.f0.f4, .int .i64 x.f1.f0.f5, .int .i64 x.f1.f1.f0, .int .i64 x.f1.f1.f1, .int .i64 x.f1.f1.f2, .int .i64 x.f2] (0, 0) _ MB11.out [.int .i64 x.f0.f0.f0, .int .i64 x.f0.f0.f1, .int .i64 x.f0.f0.f2, .int .i64 x.f0.f0.f3, .int .i64 x.f0.f0.f4, .int .i64 x.f0.f0.f5, .int .i64 x.f0.f1.f0, .int .i64 x.f0.f1.f1, .int .i64 x.f0.f1.f2, .int .i64 x.f1.f0.f0, .int .i64 x.f1.f0.f1, .int .i64 x.f1.f0.f2, .int .i64 x.f1.f0.f3, .int .i64 x.f1.f0.f4, .int .i64 x.f1.f0.f5, .int .i64 x.f1.f1.f0, .int .i64 x.f1.f1.f1, .int .i64 x.f1.f1.f2, .int .i64 x.f2] rfl Try.underlying29 rfl (by kernel_rfl) ?_) | ((go_at_call 9); ((with_reducible refine (web_Check.calls 3 x.f0.f0.f0 x.f0.f0.f1 x.f0.f0.f2 x.f0.f0.f3 x.f0.f0.f4 x.f0.f0.f5 x.f0.f1.f0 x.f0.f1.f1 x.f0.f1.f2 x.f1.f0.f0 x.f1.f0.f1 x.f1.f0.f2 x.f1.f0.f3 x.f1.f0.f4 x.f1.f0.f5 x.f1.f1.f0 x.f1.f1.f1 x.f1.f1.f2 x.f2 (ckW x) _ (ckW_f x)).mono ?_); rintro e Mw13 ⟨rfl, hb0_⟩; have hb_ := hb0_; clear hb0_; rw [HK.out]; have MB14 := Aside0.mk (blk_below MB11.out hb_); have MB15 := Aside0.mk (blk_below MB8.out hb_); have MH16 := Aside0.mk (below_step MH12.out hb_); clear hb_)))
  go_ret2
  exact ⟨_, rfl, Kd.R_nil _ _ _ _ _, MH16.out⟩
def wrun13.T13 : Bool × List (List Nat × List Nat) := (true, [([], []), ([], []), ([], []), ([1, 2], [1, 2]), ([3], [3]), ([4], [4]), ([5], [5]), ([0, 6], [0, 6]), ([], []), ([], []), ([], []), ([9, 10], [9, 10]), ([11], [11]), ([12], [12]), ([13], [13]), ([8, 14, 7], [8, 14]), ([7, 15, 0, 1, 2, 3, 4, 5, 6, 7], [0, 7]), ([15, 16, 0, 1, 2, 3, 4, 5, 6, 7, 8, 9, 10, 11, 12, 13, 14, 15, 16], [8, 15])])
def wrun13.B13 : List Nat := [0, 0, 0, 6, 14, 30, 62, 127, 0, 0, 0, 1536, 3584, 7680, 15872, 32767, 65535, 131071]
theorem wrun13.tab13 : rtab .any (opsOf Try.f7 13) = wrun13.T13 := by kernel_rfl
theorem wrun13.bits13 : waitsOk wrun13.T13.2 wrun13.B13 = true := by kernel_rfl
def wrun14.T14 : Bool × List (List Nat × List Nat) := (true, [([], []), ([], []), ([], []), ([1, 2], [1, 2]), ([3], [3]), ([4], [4]), ([5], [5]), ([0, 6], [0, 6]), ([], []), ([], []), ([], []), ([9, 10], [9, 10]), ([11], [11]), ([12], [12]), ([13], [13]), ([8, 14, 7], [8, 14]), ([7, 15, 0, 1, 2, 3, 4, 5, 6, 7], [0, 7]), ([15, 16, 0, 1, 2, 3, 4, 5, 6, 7, 8, 9, 10, 11, 12, 13, 14, 15, 16], [8, 15])])
def wrun14.B14 : List Nat := [0, 0, 0, 6, 14, 30, 62, 127, 0, 0, 0, 1536, 3584, 7680, 15872, 32767, 65535, 131071]
theorem wrun14.tab14 : rtab .any (opsOf Try.f7 14) = wrun14.T14 := by kernel_rfl
theorem wrun14.bits14 : waitsOk wrun14.T14.2 wrun14.B14 = true := by kernel_rfl
def wrun25.T25 : Bool × List (List Nat × List Nat) := (true, [([], []), ([], []), ([], []), ([], []), ([2, 3], [2, 3]), ([4], [4]), ([], []), ([], []), ([], []), ([7, 8], [7, 8]), ([9], [9]), ([10], [10]), ([], []), ([], []), ([12, 13], [12, 13]), ([14], [14]), ([6, 11, 15], [6, 11, 15]), ([5, 16], [5, 16]), ([17, 16], [17]), ([0, 1, 0, 1, 2, 3, 4, 5, 6, 7, 8, 9, 10, 11, 12, 13, 14, 15, 16, 17, 18], [0, 1]), ([19, 18, 18, 0, 1, 2, 3, 4, 5, 6, 7, 8, 9, 10, 11, 12, 13, 14, 15, 16, 17, 18], [18, 19])])
def wrun25.B25 : List Nat := [0, 0, 0, 0, 12, 28, 0, 0, 0, 384, 896, 1920, 0, 0, 12288, 28672, 65472, 131068, 262140, 524287, 1048575]
theorem wrun25.tab25 : rtab .any (opsOf Try.f7 25) = wrun25.T25 := by kernel_rfl
theorem wrun25.bits25 : waitsOk wrun25.T25.2 wrun25.B25 = true := by kernel_rfl
def wrun34.T34 : Bool × List (List Nat × List Nat) := (true, [([], []), ([], []), ([], []), ([1, 2], [1, 2]), ([3], [3]), ([4], [4]), ([], []), ([], []), ([6, 7], [6, 7]), ([8], [8]), ([9], [9]), ([5, 10], [5, 10]), ([11], [11]), ([0, 12], [0, 12]), ([13, 13, 0, 1, 2, 3, 4, 5, 6, 7, 8, 9, 10, 11, 12, 13], [0, 13])])
def wrun34.B34 : List Nat := [0, 0, 0, 6, 14, 30, 0, 0, 192, 448, 960, 2046, 4094, 8191, 16383]
theorem wrun34.tab34 : rtab .any (opsOf Try.f7 34) = wrun34.T34 := by kernel_rfl
theorem wrun34.bits34 : waitsOk wrun34.T34.2 wrun34.B34 = true := by kernel_rfl
set_option maxHeartbeats 16000000 in
set_option maxRecDepth 100000 in
theorem WRun_main (x : S29) (s : S37) (A2 : Option Addr) (c2 : Nat) (l2 : List S31) (A3 : Option Addr) (c3 : Nat) (l3 : List S31) (w : World) (hr2 : Kd.C k31 w A2 l2.length l2) (hr3 : Kd.C k31 w A3 l3.length l3) (hk : ckW x = 0) (h5 : l2.length ≤ 512) (hl : l3.length = l2.length) : Calls Try.prog 7 #[.agg #[.int .i64 x.f0.f0.f0, .int .i64 x.f0.f0.f1, .int .i64 x.f0.f0.f2, .int .i64 x.f0.f0.f3, .int .i64 x.f0.f0.f4, .int .i64 x.f0.f0.f5, .int .i64 x.f0.f1.f0, .int .i64 x.f0.f1.f1, .int .i64 x.f0.f1.f2, .int .i64 x.f1.f0.f0, .int .i64 x.f1.f0.f1, .int .i64 x.f1.f0.f2, .int .i64 x.f1.f0.f3, .int .i64 x.f1.f0.f4, .int .i64 x.f1.f0.f5, .int .i64 x.f1.f1.f0, .int .i64 x.f1.f1.f1, .int .i64 x.f1.f1.f2, .int .i64 x.f2], .agg #[.int .i64 s.f0.f0, .int .i64 s.f0.f1, .int .i64 s.f1.f0, .int .i64 s.f1.f1], .slice A2 l2.length c2, .slice A3 l3.length c3] w fun e w' => ∃ v0 : Value, e = .returned (.tuple #[v0, .int .i64 ((runW3 x s (l2.map S31.f0) (l2.map S31.f1) (l3.map S31.f0) (l3.map S31.f1)).2)]) ∧ Kd.R k31 31 w' w.heap.size (fun _ => True) v0 ((runW3 x s (l2.map S31.f0) (l2.map S31.f1) (l3.map S31.f0) (l3.map S31.f1)).1) ∧ Below w.heap.size w w' := by
  have hu29 := Try.underlying29
  have hu37 := Try.underlying37
  have hu27 := Try.underlying27
  have hu31 := Try.underlying31
  have hu56 := Try.underlying56
  have hu57 := Try.underlying57
  have hu41 := Try.underlying41
  have hu62 := Try.underlying62
  have hu3 := Try.underlying3
  have HB := Aside0.mk (Below.refl w.heap.size w)
  obtain ⟨hc0, hc1, hf0, hf1⟩ := ckW_is hk
  have HC0 := Aside0.mk hc0
  have HC1 := Aside0.mk hc1
  have HFX := Aside0.mk (And.intro hf0 hf1)
  have HK := Aside0.mk hk
  clear hk
  obtain ⟨RR, hR⟩ : ∃ RR, runW3 x s (l2.map S31.f0) (l2.map S31.f1) (l3.map S31.f0) (l3.map S31.f1) = RR := ⟨_, rfl⟩
  rw [hR]
  have HR := Aside0.mk hR
  obtain ⟨n, hn⟩ : ∃ n, l2.length = n := ⟨_, rfl⟩
  rw [hl, hn]
  rw [hl, hn] at hr3
  rw [hn] at hr2 h5
  have HN2 := Aside0.mk hn
  have HN3 := Aside0.mk (hl.trans hn)
  have HA2 := Aside0.mk hr2
  have HA3 := Aside0.mk hr3
  have t1 : decide (512 < (n : Int)) = false := decide_eq_false (by omega)
  have t2 : decide (512 < n) = false := decide_eq_false (by omega)
  clear hc0 hc1 hf0 hf1 hR hn hl hr2 hr3
  go_enter Try.func7, Try.ntmps7
  go_wp2_with (first | ((with_reducible refine gate_dst (N := 4) rfl ?_); refine box_event ?hg (N := 4) ?hd (cs := #[.int .i64 x.f0.f0.f0, .int .i64 x.f0.f0.f1, .int .i64 x.f0.f0.f2, .int .i64 x.f0.f0.f3, .int .i64 x.f0.f0.f4, .int .i64 x.f0.f0.f5, .int .i64 x.f0.f1.f0, .int .i64 x.f0.f1.f1, .int .i64 x.f0.f1.f2, .int .i64 x.f1.f0.f0, .int .i64 x.f1.f0.f1, .int .i64 x.f1.f0.f2, .int .i64 x.f1.f0.f3, .int .i64 x.f1.f0.f4, .int .i64 x.f1.f0.f5, .int .i64 x.f1.f1.f0, .int .i64 x.f1.f1.f1, .int .i64 x.f1.f1.f2, .int .i64 x.f2]) (t := 29) ?hr ?_; (case hd => rfl); (case hg => rfl); (case hr => first | (go_simp; done) | (go_simp; rfl)); intro Mg1 hg_ Mw2 hbox_ hb_; have MB3 := Aside0.mk hbox_; have MG4 : Aside0 (w.heap.size ≤ Mg1) := ⟨by rw [hg_]; exact below_size HB.out⟩; have MH5 := Aside0.mk (below_step HB.out hb_); clear hbox_ hb_ hg_) | ((with_reducible refine gate_dst (N := 5) rfl ?_); refine box_event ?hg (N := 5) ?hd (cs := #[.int .i64 s.f0.f0, .int .i64 s.f0.f1, .int .i64 s.f1.f0, .int .i64 s.f1.f1]) (t := 37) ?hr ?_; (case hd => rfl); (case hg => rfl); (case hr => first | (go_simp; done) | (go_simp; rfl)); intro Mg6 hg_ Mw7 hbox_ hb_; have MB8 := Aside0.mk hbox_; have MG9 : Aside0 (w.heap.size ≤ Mg6) := ⟨by rw [hg_]; exact below_size MH5.out⟩; have MN10 : Aside0 (Mg1 ≠ Mg6) := ⟨by rw [hg_]; exact Nat.ne_of_lt (blk_lt MB3.out)⟩; have MB11 := Aside0.mk (blk_below MB3.out hb_); have MH12 := Aside0.mk (below_step MH5.out hb_); clear hbox_ hb_ hg_) | ((with_reducible refine gate_dst (N := 25) rfl ?_); refine wpList_load_seg rfl 29 (.tmp 4) rfl Mg1 0 rfl 29 #[.int .i64 x.f0.f0.f0, .int .i64 x.f0.f0.f1, .int .i64 x.f0.f0.f2, .int .i64 x.f0.f0.f3, .int .i64 x.f0.f0.f4, .int .i64 x.f0.f0.f5, .int .i64 x.f0.f1.f0, .int .i64 x.f0.f1.f1, .int .i64 x.f0.f1.f2, .int .i64 x.f1.f0.f0, .int .i64 x.f1.f0.f1, .int .i64 x.f1.f0.f2, .int .i64 x.f1.f0.f3, .int .i64 x.f1.f0.f4, .int .i64 x.f1.f0.f5, .int .i64 x.f1.f1.f0, .int .i64 x.f1.f1.f1, .int .i64 x.f1.f1.f2, .int .i64 x.f2] (0, 0) _ MB11.out [.int .i64 x.f0.f0.f0, .int .i64 x.f0.f0.f1, .int .i64 x.f0.f0.f2, .int .i64 x.f0.f0.f3, .int .i64 x.f0.f0.f4, .int .i64 x.f0.f0.f5, .int .i64 x.f0.f1.f0, .int .i64 x.f0.f1.f1, .int .i64 x.f0.f1.f2, .int .i64 x.f1.f0.f0, .int .i64 x.f1.f0.f1, .int .i64 x.f1.f0.f2, .int .i64 x.f1.f0.f3, .int .i64 x.f1.f0.f4, .int .i64 x.f1.f0.f5, .int .i64 x.f1.f1.f0, .int .i64 x.f1.f1.f1, .int .i64 x.f1.f1.f2, .int .i64 x.f2] rfl Try.underlying29 rfl (by kernel_rfl) ?_) | ((go_at_call 9); ((with_reducible refine (web_Check.calls 3 x.f0.f0.f0 x.f0.f0.f1 x.f0.f0.f2 x.f0.f0.f3 x.f0.f0.f4 x.f0.f0.f5 x.f0.f1.f0 x.f0.f1.f1 x.f0.f1.f2 x.f1.f0.f0 x.f1.f0.f1 x.f1.f0.f2 x.f1.f0.f3 x.f1.f0.f4 x.f1.f0.f5 x.f1.f1.f0 x.f1.f1.f1 x.f1.f1.f2 x.f2 (ckW x) _ (ckW_f x)).mono ?_); rintro e Mw13 ⟨rfl, hb0_⟩; have hb_ := hb0_; clear hb0_; rw [HK.out]; have MB14 := Aside0.mk (blk_below MB11.out hb_); have MB15 := Aside0.mk (blk_below MB8.out hb_); have MH16 := Aside0.mk (below_step MH12.out hb_); clear hb_)))
  clear t1 t2
  obtain ⟨gx, hgx⟩ : ∃ g, g = Mg1 := ⟨_, rfl⟩
  obtain ⟨gs, hgs⟩ : ∃ g, g = Mg6 := ⟨_, rfl⟩
  have HSa : Aside0 (WSg w gx gs #[.int .i64 x.f0.f0.f0, .int .i64 x.f0.f0.f1, .int .i64 x.f0.f0.f2, .int .i64 x.f0.f0.f3, .int .i64 x.f0.f0.f4, .int .i64 x.f0.f0.f5, .int .i64 x.f0.f1.f0, .int .i64 x.f0.f1.f1, .int .i64 x.f0.f1.f2, .int .i64 x.f1.f0.f0, .int .i64 x.f1.f0.f1, .int .i64 x.f1.f0.f2, .int .i64 x.f1.f0.f3, .int .i64 x.f1.f0.f4, .int .i64 x.f1.f0.f5, .int .i64 x.f1.f1.f0, .int .i64 x.f1.f1.f1, .int .i64 x.f1.f1.f2, .int .i64 x.f2] #[.int .i64 s.f0.f0, .int .i64 s.f0.f1, .int .i64 s.f1.f0, .int .i64 s.f1.f1] Mw13) := ⟨⟨MH16.out, by rw [hgx]; exact MB14.out, by rw [hgs]; exact MB15.out⟩⟩
  rw [← hgx, ← hgs]
  clear hgx hgs
  go_loopg [12, 13, 14, 15, 41] n (fun gg v12 v13 v14 v15 v41 wr => ∃ kk : Nat, kk ≤ n ∧ n - kk ≤ gg ∧ v41 = .int .i64 kk ∧ Aside0 (F4 w.heap.size wr v12 v13 v14 v15 ((l2.take kk).map S31.f0) ((l2.take kk).map S31.f1) ((l3.take kk).map S31.f0) ((l3.take kk).map S31.f1)) ∧ Aside0 (WSg w gx gs #[.int .i64 x.f0.f0.f0, .int .i64 x.f0.f0.f1, .int .i64 x.f0.f0.f2, .int .i64 x.f0.f0.f3, .int .i64 x.f0.f0.f4, .int .i64 x.f0.f0.f5, .int .i64 x.f0.f1.f0, .int .i64 x.f0.f1.f1, .int .i64 x.f0.f1.f2, .int .i64 x.f1.f0.f0, .int .i64 x.f1.f0.f1, .int .i64 x.f1.f0.f2, .int .i64 x.f1.f0.f3, .int .i64 x.f1.f0.f4, .int .i64 x.f1.f0.f5, .int .i64 x.f1.f1.f0, .int .i64 x.f1.f1.f1, .int .i64 x.f1.f1.f2, .int .i64 x.f2] #[.int .i64 s.f0.f0, .int .i64 s.f0.f1, .int .i64 s.f1.f0, .int .i64 s.f1.f1] wr))
  case atStart => exact ⟨0, Nat.zero_le _, by omega, rfl, ⟨F4.nil _ _⟩, HSa⟩
  case round =>
    clear HSa
    obtain ⟨kk, hkk, hg, rfl, HF, HW⟩ := hrel
    by_cases hlt : kk < n
    · have hltz : (kk : Int) < (n : Int) := by omega
      have q1 : decide ((kk : Int) < (n : Int)) = true := decide_eq_true hltz
      obtain ⟨L1, hL1⟩ : ∃ L, ((l2.take kk).map S31.f0) = L := ⟨_, rfl⟩
      obtain ⟨L2, hL2⟩ : ∃ L, ((l2.take kk).map S31.f1) = L := ⟨_, rfl⟩
      obtain ⟨L3, hL3⟩ : ∃ L, ((l3.take kk).map S31.f0) = L := ⟨_, rfl⟩
      obtain ⟨L4, hL4⟩ : ∃ L, ((l3.take kk).map S31.f1) = L := ⟨_, rfl⟩
      have HLn1 : Aside0 (L1.length ≤ 512) := ⟨by rw [← hL1, List.length_map, List.length_take]; omega⟩
      have HLn2 : Aside0 (L2.length ≤ 512) := ⟨by rw [← hL2, List.length_map, List.length_take]; omega⟩
      have HLn3 : Aside0 (L3.length ≤ 512) := ⟨by rw [← hL3, List.length_map, List.length_take]; omega⟩
      have HLn4 : Aside0 (L4.length ≤ 512) := ⟨by rw [← hL4, List.length_map, List.length_take]; omega⟩
      rw [hL1, hL2, hL3, hL4] at HF
      obtain ⟨adp, e, h0, h1⟩ := at_T31 HA2.out (kk : Int) (by omega) hltz
      subst e
      rw [Int.toNat_natCast] at h0 h1
      have hrd : rd_T31 l2 (kk : Int) = l2.getD kk z31 := by simp [rd_T31]
      rw [hrd] at h0 h1
      have ha := map_take S31.f0 l2 kk z31 (by rw [HN2.out]; exact hlt)
      have hb := map_take S31.f1 l2 kk z31 (by rw [HN2.out]; exact hlt)
      clear hrd
      rw [hL1] at ha
      rw [hL2] at hb
      generalize (l2.getD kk z31).f0 = a at h0 ha
      generalize (l2.getD kk z31).f1 = b at h1 hb
      have HXa := Aside0.mk h0
      have HXb := Aside0.mk h1
      have HT1 := Aside0.mk ha
      have HT2 := Aside0.mk hb
      clear h0 h1 ha hb
      clear hL1 hL2
      go_wp2_with fail
      refine start_ (n := 18) (S := fun w' => w'.cell? (adp.add (kk * 2)) = some (.int .i64 a) ∧ w'.cell? ⟨(adp.add (kk * 2)).block, (adp.add (kk * 2)).off + 1, none⟩ = some (.int .i64 b)) (ds := [15]) #[false, false, false, false, false, false, false, false, false, false, false, false, false, false, false, false, false, false] (by kernel_rfl) rfl rfl ⟨pw_cell_below (below_drew1 (Below.refl _ _)) (pw_cell_below HW.out.hb HXa.out), pw_cell_below (below_drew1 (Below.refl _ _)) (pw_cell_below HW.out.hb HXb.out)⟩ (fun hHeld => ?_); refine with_tabW wrun13.tab13 wrun13.bits13 (fun HT_ HW_ => ?_)
      have HF0 := Aside0.mk (HF.out.below (below_drew1 (Below.refl _ _))); have HS0 := Aside0.mk (HW.out.below (below_drew1 (Below.refl _ _))); generalize wr.drew = w00 at HF0 HS0 hHeld ⊢
      refine pure_ (i := 0) (N := some 44) (v := ?_) (a' := ?_) #[true, false, false, false, false, false, false, false, false, false, false, false, false, false, false, false, false, false] rfl rfl (any_of HT_.out (by kernel_rfl)) (fun _ _ _ h => h) (Or.inl ⟨by rfl, ?_⟩) ?_ ?_
      rotate_left
      · intro w'
        go_simp
        with_reducible rfl
      rotate_left
      · simp only [Act.put, List.setIfInBounds_toArray, List.set_cons_zero, List.set_cons_succ, i64_w, i32_w]
        rfl
      refine pure_ (i := 1) (N := some 45) (v := ?_) (a' := ?_) #[true, true, false, false, false, false, false, false, false, false, false, false, false, false, false, false, false, false] rfl rfl (any_of HT_.out (by kernel_rfl)) (fun _ _ _ h => h) (Or.inl ⟨by rfl, ?_⟩) ?_ ?_
      rotate_left
      · intro w'
        go_simp
        with_reducible rfl
      rotate_left
      · simp only [Act.put, List.setIfInBounds_toArray, List.set_cons_zero, List.set_cons_succ, i64_w, i32_w]
        rfl
      refine pure_ (i := 2) (N := some 46) (v := ?_) (a' := ?_) #[true, true, true, false, false, false, false, false, false, false, false, false, false, false, false, false, false, false] rfl rfl (any_of HT_.out (by kernel_rfl)) (fun _ _ _ h => h) (Or.inl ⟨by rfl, ?_⟩) ?_ ?_
      rotate_left
      · intro w'
        go_simp
        with_reducible rfl
      rotate_left
      · simp only [Act.put, List.setIfInBounds_toArray, List.set_cons_zero, List.set_cons_succ, i64_w, i32_w]
        rfl
      refine pure_ (i := 3) (N := some 47) (v := ?_) (a' := ?_) #[true, true, true, true, false, false, false, false, false, false, false, false, false, false, false, false, false, false] rfl rfl (any_of HT_.out (by kernel_rfl)) (fun _ _ _ h => h) (Or.inl ⟨by rfl, ?_⟩) ?_ ?_
      rotate_left
      · intro w'
        go_simp
        with_reducible rfl
      rotate_left
      · simp only [Act.put, List.setIfInBounds_toArray, List.set_cons_zero, List.set_cons_succ, i64_w, i32_w]
        rfl
      refine pure_ (i := 4) (N := some 48) (v := ?_) (a' := ?_) #[true, true, true, true, true, false, false, false, false, false, false, false, false, false, false, false, false, false] rfl rfl (any_of HT_.out (by kernel_rfl)) (fun _ _ _ h => h) (Or.inl ⟨by rfl, ?_⟩) ?_ ?_
      rotate_left
      · intro w'
        go_simp
        with_reducible rfl
      rotate_left
      · simp only [Act.put, List.setIfInBounds_toArray, List.set_cons_zero, List.set_cons_succ, i64_w, i32_w]
        rfl
      refine pure_ (i := 8) (N := some 52) (v := ?_) (a' := ?_) #[true, true, true, true, true, false, false, false, true, false, false, false, false, false, false, false, false, false] rfl rfl (any_of HT_.out (by kernel_rfl)) (fun _ _ _ h => h) (Or.inl ⟨by rfl, ?_⟩) ?_ ?_
      rotate_left
      · intro w'
        go_simp
        with_reducible rfl
      rotate_left
      · simp only [Act.put, List.setIfInBounds_toArray, List.set_cons_zero, List.set_cons_succ, i64_w, i32_w]
        rfl
      refine pure_ (i := 9) (N := some 53) (v := ?_) (a' := ?_) #[true, true, true, true, true, false, false, false, true, true, false, false, false, false, false, false, false, false] rfl rfl (any_of HT_.out (by kernel_rfl)) (fun _ _ _ h => h) (Or.inl ⟨by rfl, ?_⟩) ?_ ?_
      rotate_left
      · intro w'
        go_simp
        with_reducible rfl
      rotate_left
      · simp only [Act.put, List.setIfInBounds_toArray, List.set_cons_zero, List.set_cons_succ, i64_w, i32_w]
        rfl
      refine pure_ (i := 10) (N := some 54) (v := ?_) (a' := ?_) #[true, true, true, true, true, false, false, false, true, true, true, false, false, false, false, false, false, false] rfl rfl (any_of HT_.out (by kernel_rfl)) (fun _ _ _ h => h) (Or.inl ⟨by rfl, ?_⟩) ?_ ?_
      rotate_left
      · intro w'
        go_simp
        with_reducible rfl
      rotate_left
      · simp only [Act.put, List.setIfInBounds_toArray, List.set_cons_zero, List.set_cons_succ, i64_w, i32_w]
        rfl
      refine pure_ (i := 11) (N := some 55) (v := ?_) (a' := ?_) #[true, true, true, true, true, false, false, false, true, true, true, true, false, false, false, false, false, false] rfl rfl (any_of HT_.out (by kernel_rfl)) (fun _ _ _ h => h) (Or.inl ⟨by rfl, ?_⟩) ?_ ?_
      rotate_left
      · intro w'
        go_simp
        with_reducible rfl
      rotate_left
      · simp only [Act.put, List.setIfInBounds_toArray, List.set_cons_zero, List.set_cons_succ, i64_w, i32_w]
        rfl
      refine pure_ (i := 12) (N := some 56) (v := ?_) (a' := ?_) #[true, true, true, true, true, false, false, false, true, true, true, true, true, false, false, false, false, false] rfl rfl (any_of HT_.out (by kernel_rfl)) (fun _ _ _ h => h) (Or.inl ⟨by rfl, ?_⟩) ?_ ?_
      rotate_left
      · intro w'
        go_simp
        with_reducible rfl
      rotate_left
      · simp only [Act.put, List.setIfInBounds_toArray, List.set_cons_zero, List.set_cons_succ, i64_w, i32_w]
        rfl
      refine take_ (i := 5) (N := some 49) (v := ?_) (a' := ?_) #[true, true, true, true, true, true, false, false, true, true, true, true, true, false, false, false, false, false] rfl rfl (take_ofW HT_.out HW_.out (by kernel_rfl)) (fun _ _ _ h => h) (Or.inl ⟨by rfl, ?_⟩) hHeld ?_ ?_
      rotate_left
      · rintro w' ⟨s0, s1⟩
        go_simp
        with_reducible rfl
      rotate_left
      · simp only [Act.put, List.setIfInBounds_toArray, List.set_cons_zero, List.set_cons_succ, i64_w, i32_w]
        rfl
      refine take_ (i := 13) (N := some 57) (v := ?_) (a' := ?_) #[true, true, true, true, true, true, false, false, true, true, true, true, true, true, false, false, false, false] rfl rfl (take_ofW HT_.out HW_.out (by kernel_rfl)) (fun _ _ _ h => h) (Or.inl ⟨by rfl, ?_⟩) hHeld ?_ ?_
      rotate_left
      · rintro w' ⟨s0, s1⟩
        go_simp
        with_reducible rfl
      rotate_left
      · simp only [Act.put, List.setIfInBounds_toArray, List.set_cons_zero, List.set_cons_succ, i64_w, i32_w]
        rfl
      refine join_ (σ := Value × Value × Value) 3 #[true, true, true, true, true, true, true, true, true, true, true, true, true, true, true, false, false, false] (fun s_ => [(50, s_.1), (51, s_.2.1), (58, s_.2.2)]) (fun s_ w' => (w'.cell? (adp.add (kk * 2)) = some (.int .i64 a) ∧ w'.cell? ⟨(adp.add (kk * 2)).block, (adp.add (kk * 2)).off + 1, none⟩ = some (.int .i64 b)) ∧ F4 w.heap.size w' s_.2.1 u13 u14 u15 (L1 ++ [a]) L2 L3 L4 ∧ IR w.heap.size w' s_.2.2 [b] ∧ WSg w gx gs #[.int .i64 x.f0.f0.f0, .int .i64 x.f0.f0.f1, .int .i64 x.f0.f0.f2, .int .i64 x.f0.f0.f3, .int .i64 x.f0.f0.f4, .int .i64 x.f0.f0.f5, .int .i64 x.f0.f1.f0, .int .i64 x.f0.f1.f1, .int .i64 x.f0.f1.f2, .int .i64 x.f1.f0.f0, .int .i64 x.f1.f0.f1, .int .i64 x.f1.f0.f2, .int .i64 x.f1.f0.f3, .int .i64 x.f1.f0.f4, .int .i64 x.f1.f0.f5, .int .i64 x.f1.f1.f0, .int .i64 x.f1.f1.f1, .int .i64 x.f1.f1.f2, .int .i64 x.f2] #[.int .i64 s.f0.f0, .int .i64 s.f0.f1, .int .i64 s.f1.f0, .int .i64 s.f1.f1] w') ?_ ?_
      rotate_left
      · intro hCont
        refine two_ (i := 6) (j := 14) (Ni := some 50) (Nj := some 58) #[true, true, true, true, true, true, true, false, true, true, true, true, true, true, false, false, false, false] #[true, true, true, true, true, true, false, false, true, true, true, true, true, true, true, false, false, false] rfl rfl rfl rfl (two_of HT_.out (by kernel_rfl)) (by decide) (by decide) (fun K hK => ?_) (fun K hK => ?_)
        · skip
          refine Kd.R_lit_step (Kd.int .i64) (w0 := w) w.heap.size 3 ?hg (N := 50) ?hd (xs := [a]) (inner := [.int .i64 a]) (ok := fun _ => True) (okp := fun _ => True) ?hr ?hp (fun _ hk => hk) trivial HS0.out.hb HS0.out.hb.size (by simp) ?_
          (case hd => rfl)
          (case hg => rfl)
          (case hr => first | (go_simp; done) | (go_simp; rfl))
          (case hp => exact (Reps.one (show Kd.M (Kd.int .i64) _ _ _ a [.int .i64 a] from rfl) (Reps.none _ _)))
          intro va w6 ho hb hg_ hn
          have HF6 := Aside0.mk (HF0.out.none_ hg_)
          have HS6 := Aside0.mk (HS0.out.none_ hg_ hb)
          obtain ⟨Aa, ca, e1_⟩ := Kd.R_slice ho
          have e2_ : va = .slice Aa 1 ca := e1_
          subst e2_
          have HA6 : Aside0 (IR w.heap.size w6 (.slice Aa 1 ca) [a]) := ⟨ho⟩
          clear ho hb hg_ hn e1_
          refine hK.out _ _ ⟨pw_cell_below HS6.out.hb HXa.out, pw_cell_below HS6.out.hb HXb.out⟩ (fun hHeld => ?_)
          clear hK K
          refine norm_ (a' := ?_) ?_ ?_
          rotate_left
          · show Act.put _ (some 50) _ = _
            simp only [Act.put, List.setIfInBounds_toArray, List.set_cons_zero, List.set_cons_succ, i64_w, i32_w]
            rfl
          refine two_ (i := 7) (j := 14) (Ni := some 51) (Nj := some 58) #[true, true, true, true, true, true, true, true, true, true, true, true, true, true, false, false, false, false] #[true, true, true, true, true, true, true, false, true, true, true, true, true, true, true, false, false, false] rfl rfl rfl rfl (two_of HT_.out (by kernel_rfl)) (by decide) (by decide) (fun K hK => ?_) (fun K hK => ?_)
          · skip
            refine Kd.R_append_rows_step (Kd.int .i64) (w0 := w) w.heap.size (by rfl) (.tmp 44) (.tmp 50) 56 3 (.int .i64 0) 8 rfl Try.underlying56 info3 rfl (by decide) (by omega) u12 L1 [a] _ 1 _ (fun _ => True) (fun _ => False) rfl rfl HF6.out.r1 (Kd.R_reads' HA6.out).2.2 (fun _ _ h => h) (fun _ h => h.elim) (fun _ _ => trivial) HS6.out.hb HS6.out.hb.size (by have := HLn1.out; omega) ?_
            intro u1 w6_7 ho hb hg hat
            have HF6_7 := Aside0.mk (HF6.out.app ho hg hat)
            have HS6_7 := Aside0.mk (HS6.out.app HF6.out.r1 hg hb)
            clear ho hb hg hat
            refine hK.out _ _ ⟨pw_cell_below HS6_7.out.hb HXa.out, pw_cell_below HS6_7.out.hb HXb.out⟩ (fun hHeld => ?_)
            clear hK K
            refine norm_ (a' := ?_) ?_ ?_
            rotate_left
            · show Act.put _ (some 51) _ = _
              simp only [Act.put, List.setIfInBounds_toArray, List.set_cons_zero, List.set_cons_succ, i64_w, i32_w]
              rfl
            refine one_ (i := 14) (N := some 58) #[true, true, true, true, true, true, true, true, true, true, true, true, true, true, true, false, false, false] rfl rfl (one_of HT_.out (by kernel_rfl)) (by decide) (fun K hK => ?_)
            refine Kd.R_lit_step (Kd.int .i64) (w0 := w) w.heap.size 3 ?hg (N := 58) ?hd (xs := [b]) (inner := [.int .i64 b]) (ok := fun _ => True) (okp := fun _ => True) ?hr ?hp (fun _ hk => hk) trivial HS6_7.out.hb HS6_7.out.hb.size (by simp) ?_
            (case hd => rfl)
            (case hg => rfl)
            (case hr => first | (go_simp; done) | (go_simp; rfl))
            (case hp => exact (Reps.one (show Kd.M (Kd.int .i64) _ _ _ b [.int .i64 b] from rfl) (Reps.none _ _)))
            intro vb w6_7_14 ho hb hg_ hn
            have HF6_7_14 := Aside0.mk (HF6_7.out.none_ hg_)
            have HS6_7_14 := Aside0.mk (HS6_7.out.none_ hg_ hb)
            obtain ⟨Ab, cb, e1_⟩ := Kd.R_slice ho
            have e2_ : vb = .slice Ab 1 cb := e1_
            subst e2_
            have HV6_7_14 : Aside0 (IR w.heap.size w6_7_14 (.slice Ab 1 cb) [b]) := ⟨ho⟩
            clear ho hb hg_ hn e1_
            refine hK.out _ _ ⟨pw_cell_below HS6_7_14.out.hb HXa.out, pw_cell_below HS6_7_14.out.hb HXb.out⟩ (fun hHeld => ?_)
            clear hK K
            refine norm_ (a' := ?_) ?_ ?_
            rotate_left
            · show Act.put _ (some 58) _ = _
              simp only [Act.put, List.setIfInBounds_toArray, List.set_cons_zero, List.set_cons_succ, i64_w, i32_w]
              rfl
            exact norm_ (by simp only [putAll, Act.put, List.setIfInBounds_toArray, List.set_cons_zero, List.set_cons_succ]) (hCont (.slice Aa 1 ca, u1, .slice Ab 1 cb) _ ⟨hHeld, HF6_7_14.out, HV6_7_14.out, HS6_7_14.out⟩)
          · skip
            refine Kd.R_lit_step (Kd.int .i64) (w0 := w) w.heap.size 3 ?hg (N := 58) ?hd (xs := [b]) (inner := [.int .i64 b]) (ok := fun _ => True) (okp := fun _ => True) ?hr ?hp (fun _ hk => hk) trivial HS6.out.hb HS6.out.hb.size (by simp) ?_
            (case hd => rfl)
            (case hg => rfl)
            (case hr => first | (go_simp; done) | (go_simp; rfl))
            (case hp => exact (Reps.one (show Kd.M (Kd.int .i64) _ _ _ b [.int .i64 b] from rfl) (Reps.none _ _)))
            intro vb w6_14 ho hb hg_ hn
            have HF6_14 := Aside0.mk (HF6.out.none_ hg_)
            have HS6_14 := Aside0.mk (HS6.out.none_ hg_ hb)
            have HP6_14 := Aside0.mk (Ap.new HF6.out.r1 hn)
            have HA6_14 := Aside0.mk (HA6.out.grown hg_ (fun _ _ e => by cases e))
            obtain ⟨Ab, cb, e1_⟩ := Kd.R_slice ho
            have e2_ : vb = .slice Ab 1 cb := e1_
            subst e2_
            have HV6_14 : Aside0 (IR w.heap.size w6_14 (.slice Ab 1 cb) [b]) := ⟨ho⟩
            clear ho hb hg_ hn e1_
            refine hK.out _ _ ⟨pw_cell_below HS6_14.out.hb HXa.out, pw_cell_below HS6_14.out.hb HXb.out⟩ (fun hHeld => ?_)
            clear hK K
            refine norm_ (a' := ?_) ?_ ?_
            rotate_left
            · show Act.put _ (some 58) _ = _
              simp only [Act.put, List.setIfInBounds_toArray, List.set_cons_zero, List.set_cons_succ, i64_w, i32_w]
              rfl
            refine one_ (i := 7) (N := some 51) #[true, true, true, true, true, true, true, true, true, true, true, true, true, true, true, false, false, false] rfl rfl (one_of HT_.out (by kernel_rfl)) (by decide) (fun K hK => ?_)
            refine Kd.R_append_rows_step (Kd.int .i64) (w0 := w) w.heap.size (by rfl) (.tmp 44) (.tmp 50) 56 3 (.int .i64 0) 8 rfl Try.underlying56 info3 rfl (by decide) (by omega) u12 L1 [a] _ 1 _ (fun _ => True) (fun _ => False) rfl rfl HF6_14.out.r1 (Kd.R_reads' HA6_14.out).2.2 (fun _ _ h => h) (fun _ h => h.elim) (fun _ _ => trivial) HS6_14.out.hb HS6_14.out.hb.size (by have := HLn1.out; omega) ?_
            intro u1 w6_14_7 ho hb hg hat
            have HF6_14_7 := Aside0.mk (HF6_14.out.app ho hg hat)
            have HS6_14_7 := Aside0.mk (HS6_14.out.app HF6_14.out.r1 hg hb)
            have HV6_14_7 := Aside0.mk (HV6_14.out.grown hg (fun k hk => HP6_14.out k hk))
            clear ho hb hg hat
            refine hK.out _ _ ⟨pw_cell_below HS6_14_7.out.hb HXa.out, pw_cell_below HS6_14_7.out.hb HXb.out⟩ (fun hHeld => ?_)
            clear hK K
            refine norm_ (a' := ?_) ?_ ?_
            rotate_left
            · show Act.put _ (some 51) _ = _
              simp only [Act.put, List.setIfInBounds_toArray, List.set_cons_zero, List.set_cons_succ, i64_w, i32_w]
              rfl
            exact norm_ (by simp only [putAll, Act.put, List.setIfInBounds_toArray, List.set_cons_zero, List.set_cons_succ]) (hCont (.slice Aa 1 ca, u1, .slice Ab 1 cb) _ ⟨hHeld, HF6_14_7.out, HV6_14_7.out, HS6_14_7.out⟩)
        · skip
          refine Kd.R_lit_step (Kd.int .i64) (w0 := w) w.heap.size 3 ?hg (N := 58) ?hd (xs := [b]) (inner := [.int .i64 b]) (ok := fun _ => True) (okp := fun _ => True) ?hr ?hp (fun _ hk => hk) trivial HS0.out.hb HS0.out.hb.size (by simp) ?_
          (case hd => rfl)
          (case hg => rfl)
          (case hr => first | (go_simp; done) | (go_simp; rfl))
          (case hp => exact (Reps.one (show Kd.M (Kd.int .i64) _ _ _ b [.int .i64 b] from rfl) (Reps.none _ _)))
          intro vb w14 ho hb hg_ hn
          have HF14 := Aside0.mk (HF0.out.none_ hg_)
          have HS14 := Aside0.mk (HS0.out.none_ hg_ hb)
          have HP14 := Aside0.mk (Ap.new HF0.out.r1 hn)
          obtain ⟨Ab, cb, e1_⟩ := Kd.R_slice ho
          have e2_ : vb = .slice Ab 1 cb := e1_
          subst e2_
          have HV14 : Aside0 (IR w.heap.size w14 (.slice Ab 1 cb) [b]) := ⟨ho⟩
          clear ho hb hg_ hn e1_
          refine hK.out _ _ ⟨pw_cell_below HS14.out.hb HXa.out, pw_cell_below HS14.out.hb HXb.out⟩ (fun hHeld => ?_)
          clear hK K
          refine norm_ (a' := ?_) ?_ ?_
          rotate_left
          · show Act.put _ (some 58) _ = _
            simp only [Act.put, List.setIfInBounds_toArray, List.set_cons_zero, List.set_cons_succ, i64_w, i32_w]
            rfl
          refine one_ (i := 6) (N := some 50) #[true, true, true, true, true, true, true, false, true, true, true, true, true, true, true, false, false, false] rfl rfl (one_of HT_.out (by kernel_rfl)) (by decide) (fun K hK => ?_)
          refine Kd.R_lit_step (Kd.int .i64) (w0 := w) w.heap.size 3 ?hg (N := 50) ?hd (xs := [a]) (inner := [.int .i64 a]) (ok := fun _ => True) (okp := fun _ => True) ?hr ?hp (fun _ hk => hk) trivial HS14.out.hb HS14.out.hb.size (by simp) ?_
          (case hd => rfl)
          (case hg => rfl)
          (case hr => first | (go_simp; done) | (go_simp; rfl))
          (case hp => exact (Reps.one (show Kd.M (Kd.int .i64) _ _ _ a [.int .i64 a] from rfl) (Reps.none _ _)))
          intro va w14_6 ho hb hg_ hn
          have HF14_6 := Aside0.mk (HF14.out.none_ hg_)
          have HS14_6 := Aside0.mk (HS14.out.none_ hg_ hb)
          have HV14_6 := Aside0.mk (HV14.out.grown hg_ (fun _ _ e => by cases e))
          have HP14_6 := HP14
          obtain ⟨Aa, ca, e1_⟩ := Kd.R_slice ho
          have e2_ : va = .slice Aa 1 ca := e1_
          subst e2_
          have HA14_6 : Aside0 (IR w.heap.size w14_6 (.slice Aa 1 ca) [a]) := ⟨ho⟩
          clear ho hb hg_ hn e1_
          refine hK.out _ _ ⟨pw_cell_below HS14_6.out.hb HXa.out, pw_cell_below HS14_6.out.hb HXb.out⟩ (fun hHeld => ?_)
          clear hK K
          refine norm_ (a' := ?_) ?_ ?_
          rotate_left
          · show Act.put _ (some 50) _ = _
            simp only [Act.put, List.setIfInBounds_toArray, List.set_cons_zero, List.set_cons_succ, i64_w, i32_w]
            rfl
          refine one_ (i := 7) (N := some 51) #[true, true, true, true, true, true, true, true, true, true, true, true, true, true, true, false, false, false] rfl rfl (one_of HT_.out (by kernel_rfl)) (by decide) (fun K hK => ?_)
          refine Kd.R_append_rows_step (Kd.int .i64) (w0 := w) w.heap.size (by rfl) (.tmp 44) (.tmp 50) 56 3 (.int .i64 0) 8 rfl Try.underlying56 info3 rfl (by decide) (by omega) u12 L1 [a] _ 1 _ (fun _ => True) (fun _ => False) rfl rfl HF14_6.out.r1 (Kd.R_reads' HA14_6.out).2.2 (fun _ _ h => h) (fun _ h => h.elim) (fun _ _ => trivial) HS14_6.out.hb HS14_6.out.hb.size (by have := HLn1.out; omega) ?_
          intro u1 w14_6_7 ho hb hg hat
          have HF14_6_7 := Aside0.mk (HF14_6.out.app ho hg hat)
          have HS14_6_7 := Aside0.mk (HS14_6.out.app HF14_6.out.r1 hg hb)
          have HV14_6_7 := Aside0.mk (HV14_6.out.grown hg (fun k hk => HP14_6.out k hk))
          clear ho hb hg hat
          refine hK.out _ _ ⟨pw_cell_below HS14_6_7.out.hb HXa.out, pw_cell_below HS14_6_7.out.hb HXb.out⟩ (fun hHeld => ?_)
          clear hK K
          refine norm_ (a' := ?_) ?_ ?_
          rotate_left
          · show Act.put _ (some 51) _ = _
            simp only [Act.put, List.setIfInBounds_toArray, List.set_cons_zero, List.set_cons_succ, i64_w, i32_w]
            rfl
          exact norm_ (by simp only [putAll, Act.put, List.setIfInBounds_toArray, List.set_cons_zero, List.set_cons_succ]) (hCont (.slice Aa 1 ca, u1, .slice Ab 1 cb) _ ⟨hHeld, HF14_6_7.out, HV14_6_7.out, HS14_6_7.out⟩)
      rintro ⟨va, u1, vb⟩ wJ ⟨hS, hF, hV, hW⟩
      dsimp only at hF hV
      have hHeld : wJ.cell? (adp.add (kk * 2)) = some (.int .i64 a) ∧ wJ.cell? ⟨(adp.add (kk * 2)).block, (adp.add (kk * 2)).off + 1, none⟩ = some (.int .i64 b) := hS
      obtain ⟨Ab, cb, e1_⟩ := Kd.R_slice hV
      have e2_ : vb = .slice Ab 1 cb := e1_
      subst e2_
      have HFJ := Aside0.mk hF
      have HVJ : Aside0 (IR w.heap.size wJ (.slice Ab 1 cb) [b]) := ⟨hV⟩
      have HSJ := Aside0.mk hW
      clear hS hF hV hW e1_
      refine norm_ (a' := ?_) ?_ ?_
      rotate_left
      · simp only [putAll, Act.put, List.setIfInBounds_toArray, List.set_cons_zero, List.set_cons_succ]
        rfl
      refine last_ (i := 15) (N := some 59) #[true, true, true, true, true, true, true, true, true, true, true, true, true, true, true, true, false, false] rfl rfl (one_of HT_.out (by kernel_rfl)) (by decide) (fun K hK => ?_)
      refine Kd.R_append_rows_step (Kd.int .i64) (w0 := w) w.heap.size (by rfl) (.tmp 52) (.tmp 58) 56 3 (.int .i64 0) 8 rfl Try.underlying56 info3 rfl (by decide) (by omega) u13 L2 [b] _ 1 _ (fun _ => True) (fun _ => False) rfl rfl HFJ.out.r2 (Kd.R_reads' HVJ.out).2.2 (fun _ _ h => h) (fun _ h => h.elim) (fun _ _ => trivial) HSJ.out.hb HSJ.out.hb.size (by have := HLn2.out; omega) ?_
      intro u2 wZ ho hb hg hat
      have HFZ := Aside0.mk ((HFJ.out.flip.app ho hg hat).flip)
      have HSZ := Aside0.mk (HSJ.out.app HFJ.out.r2 hg hb)
      clear ho hb hg hat
      refine hK.out _ _ ?_
      clear hK K
      refine norm_ (a' := ?_) ?_ ?_
      rotate_left
      · show Act.put _ (some 59) _ = _
        simp only [Act.put, List.setIfInBounds_toArray, List.set_cons_zero, List.set_cons_succ, i64_w, i32_w]
        rfl
      refine pure_ (i := 16) (N := some 12) (v := ?_) (a' := ?_) #[true, true, true, true, true, true, true, true, true, true, true, true, true, true, true, true, true, false] rfl rfl (any_of HT_.out (by kernel_rfl)) (fun _ _ _ h => h) (Or.inl ⟨by rfl, ?_⟩) ?_ ?_
      rotate_left
      · intro w'
        go_simp
        with_reducible rfl
      rotate_left
      · simp only [Act.put, List.setIfInBounds_toArray, List.set_cons_zero, List.set_cons_succ, i64_w, i32_w]
        rfl
      refine pure_ (i := 17) (N := some 13) (v := ?_) (a' := ?_) #[true, true, true, true, true, true, true, true, true, true, true, true, true, true, true, true, true, true] rfl rfl (any_of HT_.out (by kernel_rfl)) (fun _ _ _ h => h) (Or.inl ⟨by rfl, ?_⟩) ?_ ?_
      rotate_left
      · intro w'
        go_simp
        with_reducible rfl
      rotate_left
      · simp only [Act.put, List.setIfInBounds_toArray, List.set_cons_zero, List.set_cons_succ, i64_w, i32_w]
        rfl
      refine done_ (done_of HT_.out (by kernel_rfl)) ?_
      have HF := HFZ
      have HW := HSZ
      have HT1 := HT1
      clear HXa HXb HLn1 HLn2 HFZ HSZ
      skip
      obtain ⟨K1, hK1⟩ : ∃ K, L1 ++ [a] = K := ⟨_, rfl⟩
      obtain ⟨K2, hK2⟩ : ∃ K, L2 ++ [b] = K := ⟨_, rfl⟩
      rw [hK1, hK2] at HF
      rw [hK1] at HT1
      rw [hK2] at HT2
      clear hK1 hK2
      obtain ⟨adq, e, h0, h1⟩ := at_T31 HA3.out (kk : Int) (by omega) hltz
      subst e
      rw [Int.toNat_natCast] at h0 h1
      have hrd : rd_T31 l3 (kk : Int) = l3.getD kk z31 := by simp [rd_T31]
      rw [hrd] at h0 h1
      have ha := map_take S31.f0 l3 kk z31 (by rw [HN3.out]; exact hlt)
      have hb := map_take S31.f1 l3 kk z31 (by rw [HN3.out]; exact hlt)
      clear hrd
      rw [hL3] at ha
      rw [hL4] at hb
      generalize (l3.getD kk z31).f0 = a at h0 ha
      generalize (l3.getD kk z31).f1 = b at h1 hb
      have HXa := Aside0.mk h0
      have HXb := Aside0.mk h1
      have HT3 := Aside0.mk ha
      have HT4 := Aside0.mk hb
      clear h0 h1 ha hb
      clear hL3 hL4
      have HLn1 := HLn3
      have HLn2 := HLn4
      go_wp2_with fail
      refine start_ (n := 18) (S := fun w' => w'.cell? (adq.add (kk * 2)) = some (.int .i64 a) ∧ w'.cell? ⟨(adq.add (kk * 2)).block, (adq.add (kk * 2)).off + 1, none⟩ = some (.int .i64 b)) (ds := [15]) #[false, false, false, false, false, false, false, false, false, false, false, false, false, false, false, false, false, false] (by kernel_rfl) rfl rfl ⟨pw_cell_below (below_drew1 (Below.refl _ _)) (pw_cell_below HW.out.hb HXa.out), pw_cell_below (below_drew1 (Below.refl _ _)) (pw_cell_below HW.out.hb HXb.out)⟩ (fun hHeld => ?_); refine with_tabW wrun14.tab14 wrun14.bits14 (fun HT_ HW_ => ?_)
      have HF0 := Aside0.mk (HF.out.swap.below (below_drew1 (Below.refl _ _))); have HS0 := Aside0.mk (HW.out.below (below_drew1 (Below.refl _ _))); generalize wZ.drew = w00 at HF0 HS0 hHeld ⊢
      refine pure_ (i := 0) (N := some 60) (v := ?_) (a' := ?_) #[true, false, false, false, false, false, false, false, false, false, false, false, false, false, false, false, false, false] rfl rfl (any_of HT_.out (by kernel_rfl)) (fun _ _ _ h => h) (Or.inl ⟨by rfl, ?_⟩) ?_ ?_
      rotate_left
      · intro w'
        go_simp
        with_reducible rfl
      rotate_left
      · simp only [Act.put, List.setIfInBounds_toArray, List.set_cons_zero, List.set_cons_succ, i64_w, i32_w]
        rfl
      refine pure_ (i := 1) (N := some 61) (v := ?_) (a' := ?_) #[true, true, false, false, false, false, false, false, false, false, false, false, false, false, false, false, false, false] rfl rfl (any_of HT_.out (by kernel_rfl)) (fun _ _ _ h => h) (Or.inl ⟨by rfl, ?_⟩) ?_ ?_
      rotate_left
      · intro w'
        go_simp
        with_reducible rfl
      rotate_left
      · simp only [Act.put, List.setIfInBounds_toArray, List.set_cons_zero, List.set_cons_succ, i64_w, i32_w]
        rfl
      refine pure_ (i := 2) (N := some 62) (v := ?_) (a' := ?_) #[true, true, true, false, false, false, false, false, false, false, false, false, false, false, false, false, false, false] rfl rfl (any_of HT_.out (by kernel_rfl)) (fun _ _ _ h => h) (Or.inl ⟨by rfl, ?_⟩) ?_ ?_
      rotate_left
      · intro w'
        go_simp
        with_reducible rfl
      rotate_left
      · simp only [Act.put, List.setIfInBounds_toArray, List.set_cons_zero, List.set_cons_succ, i64_w, i32_w]
        rfl
      refine pure_ (i := 3) (N := some 63) (v := ?_) (a' := ?_) #[true, true, true, true, false, false, false, false, false, false, false, false, false, false, false, false, false, false] rfl rfl (any_of HT_.out (by kernel_rfl)) (fun _ _ _ h => h) (Or.inl ⟨by rfl, ?_⟩) ?_ ?_
      rotate_left
      · intro w'
        go_simp
        with_reducible rfl
      rotate_left
      · simp only [Act.put, List.setIfInBounds_toArray, List.set_cons_zero, List.set_cons_succ, i64_w, i32_w]
        rfl
      refine pure_ (i := 4) (N := some 64) (v := ?_) (a' := ?_) #[true, true, true, true, true, false, false, false, false, false, false, false, false, false, false, false, false, false] rfl rfl (any_of HT_.out (by kernel_rfl)) (fun _ _ _ h => h) (Or.inl ⟨by rfl, ?_⟩) ?_ ?_
      rotate_left
      · intro w'
        go_simp
        with_reducible rfl
      rotate_left
      · simp only [Act.put, List.setIfInBounds_toArray, List.set_cons_zero, List.set_cons_succ, i64_w, i32_w]
        rfl
      refine pure_ (i := 8) (N := some 68) (v := ?_) (a' := ?_) #[true, true, true, true, true, false, false, false, true, false, false, false, false, false, false, false, false, false] rfl rfl (any_of HT_.out (by kernel_rfl)) (fun _ _ _ h => h) (Or.inl ⟨by rfl, ?_⟩) ?_ ?_
      rotate_left
      · intro w'
        go_simp
        with_reducible rfl
      rotate_left
      · simp only [Act.put, List.setIfInBounds_toArray, List.set_cons_zero, List.set_cons_succ, i64_w, i32_w]
        rfl
      refine pure_ (i := 9) (N := some 69) (v := ?_) (a' := ?_) #[true, true, true, true, true, false, false, false, true, true, false, false, false, false, false, false, false, false] rfl rfl (any_of HT_.out (by kernel_rfl)) (fun _ _ _ h => h) (Or.inl ⟨by rfl, ?_⟩) ?_ ?_
      rotate_left
      · intro w'
        go_simp
        with_reducible rfl
      rotate_left
      · simp only [Act.put, List.setIfInBounds_toArray, List.set_cons_zero, List.set_cons_succ, i64_w, i32_w]
        rfl
      refine pure_ (i := 10) (N := some 70) (v := ?_) (a' := ?_) #[true, true, true, true, true, false, false, false, true, true, true, false, false, false, false, false, false, false] rfl rfl (any_of HT_.out (by kernel_rfl)) (fun _ _ _ h => h) (Or.inl ⟨by rfl, ?_⟩) ?_ ?_
      rotate_left
      · intro w'
        go_simp
        with_reducible rfl
      rotate_left
      · simp only [Act.put, List.setIfInBounds_toArray, List.set_cons_zero, List.set_cons_succ, i64_w, i32_w]
        rfl
      refine pure_ (i := 11) (N := some 71) (v := ?_) (a' := ?_) #[true, true, true, true, true, false, false, false, true, true, true, true, false, false, false, false, false, false] rfl rfl (any_of HT_.out (by kernel_rfl)) (fun _ _ _ h => h) (Or.inl ⟨by rfl, ?_⟩) ?_ ?_
      rotate_left
      · intro w'
        go_simp
        with_reducible rfl
      rotate_left
      · simp only [Act.put, List.setIfInBounds_toArray, List.set_cons_zero, List.set_cons_succ, i64_w, i32_w]
        rfl
      refine pure_ (i := 12) (N := some 72) (v := ?_) (a' := ?_) #[true, true, true, true, true, false, false, false, true, true, true, true, true, false, false, false, false, false] rfl rfl (any_of HT_.out (by kernel_rfl)) (fun _ _ _ h => h) (Or.inl ⟨by rfl, ?_⟩) ?_ ?_
      rotate_left
      · intro w'
        go_simp
        with_reducible rfl
      rotate_left
      · simp only [Act.put, List.setIfInBounds_toArray, List.set_cons_zero, List.set_cons_succ, i64_w, i32_w]
        rfl
      refine take_ (i := 5) (N := some 65) (v := ?_) (a' := ?_) #[true, true, true, true, true, true, false, false, true, true, true, true, true, false, false, false, false, false] rfl rfl (take_ofW HT_.out HW_.out (by kernel_rfl)) (fun _ _ _ h => h) (Or.inl ⟨by rfl, ?_⟩) hHeld ?_ ?_
      rotate_left
      · rintro w' ⟨s0, s1⟩
        go_simp
        with_reducible rfl
      rotate_left
      · simp only [Act.put, List.setIfInBounds_toArray, List.set_cons_zero, List.set_cons_succ, i64_w, i32_w]
        rfl
      refine take_ (i := 13) (N := some 73) (v := ?_) (a' := ?_) #[true, true, true, true, true, true, false, false, true, true, true, true, true, true, false, false, false, false] rfl rfl (take_ofW HT_.out HW_.out (by kernel_rfl)) (fun _ _ _ h => h) (Or.inl ⟨by rfl, ?_⟩) hHeld ?_ ?_
      rotate_left
      · rintro w' ⟨s0, s1⟩
        go_simp
        with_reducible rfl
      rotate_left
      · simp only [Act.put, List.setIfInBounds_toArray, List.set_cons_zero, List.set_cons_succ, i64_w, i32_w]
        rfl
      refine join_ (σ := Value × Value × Value) 3 #[true, true, true, true, true, true, true, true, true, true, true, true, true, true, true, false, false, false] (fun s_ => [(66, s_.1), (67, s_.2.1), (74, s_.2.2)]) (fun s_ w' => (w'.cell? (adq.add (kk * 2)) = some (.int .i64 a) ∧ w'.cell? ⟨(adq.add (kk * 2)).block, (adq.add (kk * 2)).off + 1, none⟩ = some (.int .i64 b)) ∧ F4 w.heap.size w' s_.2.1 u15 u1 u2 (L3 ++ [a]) L4 K1 K2 ∧ IR w.heap.size w' s_.2.2 [b] ∧ WSg w gx gs #[.int .i64 x.f0.f0.f0, .int .i64 x.f0.f0.f1, .int .i64 x.f0.f0.f2, .int .i64 x.f0.f0.f3, .int .i64 x.f0.f0.f4, .int .i64 x.f0.f0.f5, .int .i64 x.f0.f1.f0, .int .i64 x.f0.f1.f1, .int .i64 x.f0.f1.f2, .int .i64 x.f1.f0.f0, .int .i64 x.f1.f0.f1, .int .i64 x.f1.f0.f2, .int .i64 x.f1.f0.f3, .int .i64 x.f1.f0.f4, .int .i64 x.f1.f0.f5, .int .i64 x.f1.f1.f0, .int .i64 x.f1.f1.f1, .int .i64 x.f1.f1.f2, .int .i64 x.f2] #[.int .i64 s.f0.f0, .int .i64 s.f0.f1, .int .i64 s.f1.f0, .int .i64 s.f1.f1] w') ?_ ?_
      rotate_left
      · intro hCont
        refine two_ (i := 6) (j := 14) (Ni := some 66) (Nj := some 74) #[true, true, true, true, true, true, true, false, true, true, true, true, true, true, false, false, false, false] #[true, true, true, true, true, true, false, false, true, true, true, true, true, true, true, false, false, false] rfl rfl rfl rfl (two_of HT_.out (by kernel_rfl)) (by decide) (by decide) (fun K hK => ?_) (fun K hK => ?_)
        · skip
          refine Kd.R_lit_step (Kd.int .i64) (w0 := w) w.heap.size 3 ?hg (N := 66) ?hd (xs := [a]) (inner := [.int .i64 a]) (ok := fun _ => True) (okp := fun _ => True) ?hr ?hp (fun _ hk => hk) trivial HS0.out.hb HS0.out.hb.size (by simp) ?_
          (case hd => rfl)
          (case hg => rfl)
          (case hr => first | (go_simp; done) | (go_simp; rfl))
          (case hp => exact (Reps.one (show Kd.M (Kd.int .i64) _ _ _ a [.int .i64 a] from rfl) (Reps.none _ _)))
          intro va w6 ho hb hg_ hn
          have HF6 := Aside0.mk (HF0.out.none_ hg_)
          have HS6 := Aside0.mk (HS0.out.none_ hg_ hb)
          obtain ⟨Aa, ca, e1_⟩ := Kd.R_slice ho
          have e2_ : va = .slice Aa 1 ca := e1_
          subst e2_
          have HA6 : Aside0 (IR w.heap.size w6 (.slice Aa 1 ca) [a]) := ⟨ho⟩
          clear ho hb hg_ hn e1_
          refine hK.out _ _ ⟨pw_cell_below HS6.out.hb HXa.out, pw_cell_below HS6.out.hb HXb.out⟩ (fun hHeld => ?_)
          clear hK K
          refine norm_ (a' := ?_) ?_ ?_
          rotate_left
          · show Act.put _ (some 66) _ = _
            simp only [Act.put, List.setIfInBounds_toArray, List.set_cons_zero, List.set_cons_succ, i64_w, i32_w]
            rfl
          refine two_ (i := 7) (j := 14) (Ni := some 67) (Nj := some 74) #[true, true, true, true, true, true, true, true, true, true, true, true, true, true, false, false, false, false] #[true, true, true, true, true, true, true, false, true, true, true, true, true, true, true, false, false, false] rfl rfl rfl rfl (two_of HT_.out (by kernel_rfl)) (by decide) (by decide) (fun K hK => ?_) (fun K hK => ?_)
          · skip
            refine Kd.R_append_rows_step (Kd.int .i64) (w0 := w) w.heap.size (by rfl) (.tmp 60) (.tmp 66) 56 3 (.int .i64 0) 8 rfl Try.underlying56 info3 rfl (by decide) (by omega) u14 L3 [a] _ 1 _ (fun _ => True) (fun _ => False) rfl rfl HF6.out.r1 (Kd.R_reads' HA6.out).2.2 (fun _ _ h => h) (fun _ h => h.elim) (fun _ _ => trivial) HS6.out.hb HS6.out.hb.size (by have := HLn1.out; omega) ?_
            intro u1 w6_7 ho hb hg hat
            have HF6_7 := Aside0.mk (HF6.out.app ho hg hat)
            have HS6_7 := Aside0.mk (HS6.out.app HF6.out.r1 hg hb)
            clear ho hb hg hat
            refine hK.out _ _ ⟨pw_cell_below HS6_7.out.hb HXa.out, pw_cell_below HS6_7.out.hb HXb.out⟩ (fun hHeld => ?_)
            clear hK K
            refine norm_ (a' := ?_) ?_ ?_
            rotate_left
            · show Act.put _ (some 67) _ = _
              simp only [Act.put, List.setIfInBounds_toArray, List.set_cons_zero, List.set_cons_succ, i64_w, i32_w]
              rfl
            refine one_ (i := 14) (N := some 74) #[true, true, true, true, true, true, true, true, true, true, true, true, true, true, true, false, false, false] rfl rfl (one_of HT_.out (by kernel_rfl)) (by decide) (fun K hK => ?_)
            refine Kd.R_lit_step (Kd.int .i64) (w0 := w) w.heap.size 3 ?hg (N := 74) ?hd (xs := [b]) (inner := [.int .i64 b]) (ok := fun _ => True) (okp := fun _ => True) ?hr ?hp (fun _ hk => hk) trivial HS6_7.out.hb HS6_7.out.hb.size (by simp) ?_
            (case hd => rfl)
            (case hg => rfl)
            (case hr => first | (go_simp; done) | (go_simp; rfl))
            (case hp => exact (Reps.one (show Kd.M (Kd.int .i64) _ _ _ b [.int .i64 b] from rfl) (Reps.none _ _)))
            intro vb w6_7_14 ho hb hg_ hn
            have HF6_7_14 := Aside0.mk (HF6_7.out.none_ hg_)
            have HS6_7_14 := Aside0.mk (HS6_7.out.none_ hg_ hb)
            obtain ⟨Ab, cb, e1_⟩ := Kd.R_slice ho
            have e2_ : vb = .slice Ab 1 cb := e1_
            subst e2_
            have HV6_7_14 : Aside0 (IR w.heap.size w6_7_14 (.slice Ab 1 cb) [b]) := ⟨ho⟩
            clear ho hb hg_ hn e1_
            refine hK.out _ _ ⟨pw_cell_below HS6_7_14.out.hb HXa.out, pw_cell_below HS6_7_14.out.hb HXb.out⟩ (fun hHeld => ?_)
            clear hK K
            refine norm_ (a' := ?_) ?_ ?_
            rotate_left
            · show Act.put _ (some 74) _ = _
              simp only [Act.put, List.setIfInBounds_toArray, List.set_cons_zero, List.set_cons_succ, i64_w, i32_w]
              rfl
            exact norm_ (by simp only [putAll, Act.put, List.setIfInBounds_toArray, List.set_cons_zero, List.set_cons_succ]) (hCont (.slice Aa 1 ca, u1, .slice Ab 1 cb) _ ⟨hHeld, HF6_7_14.out, HV6_7_14.out, HS6_7_14.out⟩)
          · skip
            refine Kd.R_lit_step (Kd.int .i64) (w0 := w) w.heap.size 3 ?hg (N := 74) ?hd (xs := [b]) (inner := [.int .i64 b]) (ok := fun _ => True) (okp := fun _ => True) ?hr ?hp (fun _ hk => hk) trivial HS6.out.hb HS6.out.hb.size (by simp) ?_
            (case hd => rfl)
            (case hg => rfl)
            (case hr => first | (go_simp; done) | (go_simp; rfl))
            (case hp => exact (Reps.one (show Kd.M (Kd.int .i64) _ _ _ b [.int .i64 b] from rfl) (Reps.none _ _)))
            intro vb w6_14 ho hb hg_ hn
            have HF6_14 := Aside0.mk (HF6.out.none_ hg_)
            have HS6_14 := Aside0.mk (HS6.out.none_ hg_ hb)
            have HP6_14 := Aside0.mk (Ap.new HF6.out.r1 hn)
            have HA6_14 := Aside0.mk (HA6.out.grown hg_ (fun _ _ e => by cases e))
            obtain ⟨Ab, cb, e1_⟩ := Kd.R_slice ho
            have e2_ : vb = .slice Ab 1 cb := e1_
            subst e2_
            have HV6_14 : Aside0 (IR w.heap.size w6_14 (.slice Ab 1 cb) [b]) := ⟨ho⟩
            clear ho hb hg_ hn e1_
            refine hK.out _ _ ⟨pw_cell_below HS6_14.out.hb HXa.out, pw_cell_below HS6_14.out.hb HXb.out⟩ (fun hHeld => ?_)
            clear hK K
            refine norm_ (a' := ?_) ?_ ?_
            rotate_left
            · show Act.put _ (some 74) _ = _
              simp only [Act.put, List.setIfInBounds_toArray, List.set_cons_zero, List.set_cons_succ, i64_w, i32_w]
              rfl
            refine one_ (i := 7) (N := some 67) #[true, true, true, true, true, true, true, true, true, true, true, true, true, true, true, false, false, false] rfl rfl (one_of HT_.out (by kernel_rfl)) (by decide) (fun K hK => ?_)
            refine Kd.R_append_rows_step (Kd.int .i64) (w0 := w) w.heap.size (by rfl) (.tmp 60) (.tmp 66) 56 3 (.int .i64 0) 8 rfl Try.underlying56 info3 rfl (by decide) (by omega) u14 L3 [a] _ 1 _ (fun _ => True) (fun _ => False) rfl rfl HF6_14.out.r1 (Kd.R_reads' HA6_14.out).2.2 (fun _ _ h => h) (fun _ h => h.elim) (fun _ _ => trivial) HS6_14.out.hb HS6_14.out.hb.size (by have := HLn1.out; omega) ?_
            intro u1 w6_14_7 ho hb hg hat
            have HF6_14_7 := Aside0.mk (HF6_14.out.app ho hg hat)
            have HS6_14_7 := Aside0.mk (HS6_14.out.app HF6_14.out.r1 hg hb)
            have HV6_14_7 := Aside0.mk (HV6_14.out.grown hg (fun k hk => HP6_14.out k hk))
            clear ho hb hg hat
            refine hK.out _ _ ⟨pw_cell_below HS6_14_7.out.hb HXa.out, pw_cell_below HS6_14_7.out.hb HXb.out⟩ (fun hHeld => ?_)
            clear hK K
            refine norm_ (a' := ?_) ?_ ?_
            rotate_left
            · show Act.put _ (some 67) _ = _
              simp only [Act.put, List.setIfInBounds_toArray, List.set_cons_zero, List.set_cons_succ, i64_w, i32_w]
              rfl
            exact norm_ (by simp only [putAll, Act.put, List.setIfInBounds_toArray, List.set_cons_zero, List.set_cons_succ]) (hCont (.slice Aa 1 ca, u1, .slice Ab 1 cb) _ ⟨hHeld, HF6_14_7.out, HV6_14_7.out, HS6_14_7.out⟩)
        · skip
          refine Kd.R_lit_step (Kd.int .i64) (w0 := w) w.heap.size 3 ?hg (N := 74) ?hd (xs := [b]) (inner := [.int .i64 b]) (ok := fun _ => True) (okp := fun _ => True) ?hr ?hp (fun _ hk => hk) trivial HS0.out.hb HS0.out.hb.size (by simp) ?_
          (case hd => rfl)
          (case hg => rfl)
          (case hr => first | (go_simp; done) | (go_simp; rfl))
          (case hp => exact (Reps.one (show Kd.M (Kd.int .i64) _ _ _ b [.int .i64 b] from rfl) (Reps.none _ _)))
          intro vb w14 ho hb hg_ hn
          have HF14 := Aside0.mk (HF0.out.none_ hg_)
          have HS14 := Aside0.mk (HS0.out.none_ hg_ hb)
          have HP14 := Aside0.mk (Ap.new HF0.out.r1 hn)
          obtain ⟨Ab, cb, e1_⟩ := Kd.R_slice ho
          have e2_ : vb = .slice Ab 1 cb := e1_
          subst e2_
          have HV14 : Aside0 (IR w.heap.size w14 (.slice Ab 1 cb) [b]) := ⟨ho⟩
          clear ho hb hg_ hn e1_
          refine hK.out _ _ ⟨pw_cell_below HS14.out.hb HXa.out, pw_cell_below HS14.out.hb HXb.out⟩ (fun hHeld => ?_)
          clear hK K
          refine norm_ (a' := ?_) ?_ ?_
          rotate_left
          · show Act.put _ (some 74) _ = _
            simp only [Act.put, List.setIfInBounds_toArray, List.set_cons_zero, List.set_cons_succ, i64_w, i32_w]
            rfl
          refine one_ (i := 6) (N := some 66) #[true, true, true, true, true, true, true, false, true, true, true, true, true, true, true, false, false, false] rfl rfl (one_of HT_.out (by kernel_rfl)) (by decide) (fun K hK => ?_)
          refine Kd.R_lit_step (Kd.int .i64) (w0 := w) w.heap.size 3 ?hg (N := 66) ?hd (xs := [a]) (inner := [.int .i64 a]) (ok := fun _ => True) (okp := fun _ => True) ?hr ?hp (fun _ hk => hk) trivial HS14.out.hb HS14.out.hb.size (by simp) ?_
          (case hd => rfl)
          (case hg => rfl)
          (case hr => first | (go_simp; done) | (go_simp; rfl))
          (case hp => exact (Reps.one (show Kd.M (Kd.int .i64) _ _ _ a [.int .i64 a] from rfl) (Reps.none _ _)))
          intro va w14_6 ho hb hg_ hn
          have HF14_6 := Aside0.mk (HF14.out.none_ hg_)
          have HS14_6 := Aside0.mk (HS14.out.none_ hg_ hb)
          have HV14_6 := Aside0.mk (HV14.out.grown hg_ (fun _ _ e => by cases e))
          have HP14_6 := HP14
          obtain ⟨Aa, ca, e1_⟩ := Kd.R_slice ho
          have e2_ : va = .slice Aa 1 ca := e1_
          subst e2_
          have HA14_6 : Aside0 (IR w.heap.size w14_6 (.slice Aa 1 ca) [a]) := ⟨ho⟩
          clear ho hb hg_ hn e1_
          refine hK.out _ _ ⟨pw_cell_below HS14_6.out.hb HXa.out, pw_cell_below HS14_6.out.hb HXb.out⟩ (fun hHeld => ?_)
          clear hK K
          refine norm_ (a' := ?_) ?_ ?_
          rotate_left
          · show Act.put _ (some 66) _ = _
            simp only [Act.put, List.setIfInBounds_toArray, List.set_cons_zero, List.set_cons_succ, i64_w, i32_w]
            rfl
          refine one_ (i := 7) (N := some 67) #[true, true, true, true, true, true, true, true, true, true, true, true, true, true, true, false, false, false] rfl rfl (one_of HT_.out (by kernel_rfl)) (by decide) (fun K hK => ?_)
          refine Kd.R_append_rows_step (Kd.int .i64) (w0 := w) w.heap.size (by rfl) (.tmp 60) (.tmp 66) 56 3 (.int .i64 0) 8 rfl Try.underlying56 info3 rfl (by decide) (by omega) u14 L3 [a] _ 1 _ (fun _ => True) (fun _ => False) rfl rfl HF14_6.out.r1 (Kd.R_reads' HA14_6.out).2.2 (fun _ _ h => h) (fun _ h => h.elim) (fun _ _ => trivial) HS14_6.out.hb HS14_6.out.hb.size (by have := HLn1.out; omega) ?_
          intro u1 w14_6_7 ho hb hg hat
          have HF14_6_7 := Aside0.mk (HF14_6.out.app ho hg hat)
          have HS14_6_7 := Aside0.mk (HS14_6.out.app HF14_6.out.r1 hg hb)
          have HV14_6_7 := Aside0.mk (HV14_6.out.grown hg (fun k hk => HP14_6.out k hk))
          clear ho hb hg hat
          refine hK.out _ _ ⟨pw_cell_below HS14_6_7.out.hb HXa.out, pw_cell_below HS14_6_7.out.hb HXb.out⟩ (fun hHeld => ?_)
          clear hK K
          refine norm_ (a' := ?_) ?_ ?_
          rotate_left
          · show Act.put _ (some 67) _ = _
            simp only [Act.put, List.setIfInBounds_toArray, List.set_cons_zero, List.set_cons_succ, i64_w, i32_w]
            rfl
          exact norm_ (by simp only [putAll, Act.put, List.setIfInBounds_toArray, List.set_cons_zero, List.set_cons_succ]) (hCont (.slice Aa 1 ca, u1, .slice Ab 1 cb) _ ⟨hHeld, HF14_6_7.out, HV14_6_7.out, HS14_6_7.out⟩)
      rintro ⟨va, u1, vb⟩ wJ ⟨hS, hF, hV, hW⟩
      dsimp only at hF hV
      have hHeld : wJ.cell? (adq.add (kk * 2)) = some (.int .i64 a) ∧ wJ.cell? ⟨(adq.add (kk * 2)).block, (adq.add (kk * 2)).off + 1, none⟩ = some (.int .i64 b) := hS
      obtain ⟨Ab, cb, e1_⟩ := Kd.R_slice hV
      have e2_ : vb = .slice Ab 1 cb := e1_
      subst e2_
      have HFJ := Aside0.mk hF
      have HVJ : Aside0 (IR w.heap.size wJ (.slice Ab 1 cb) [b]) := ⟨hV⟩
      have HSJ := Aside0.mk hW
      clear hS hF hV hW e1_
      refine norm_ (a' := ?_) ?_ ?_
      rotate_left
      · simp only [putAll, Act.put, List.setIfInBounds_toArray, List.set_cons_zero, List.set_cons_succ]
        rfl
      refine last_ (i := 15) (N := some 75) #[true, true, true, true, true, true, true, true, true, true, true, true, true, true, true, true, false, false] rfl rfl (one_of HT_.out (by kernel_rfl)) (by decide) (fun K hK => ?_)
      refine Kd.R_append_rows_step (Kd.int .i64) (w0 := w) w.heap.size (by rfl) (.tmp 68) (.tmp 74) 56 3 (.int .i64 0) 8 rfl Try.underlying56 info3 rfl (by decide) (by omega) u15 L4 [b] _ 1 _ (fun _ => True) (fun _ => False) rfl rfl HFJ.out.r2 (Kd.R_reads' HVJ.out).2.2 (fun _ _ h => h) (fun _ h => h.elim) (fun _ _ => trivial) HSJ.out.hb HSJ.out.hb.size (by have := HLn2.out; omega) ?_
      intro u2 wZ ho hb hg hat
      have HFZ := Aside0.mk ((HFJ.out.flip.app ho hg hat).flip)
      have HSZ := Aside0.mk (HSJ.out.app HFJ.out.r2 hg hb)
      clear ho hb hg hat
      refine hK.out _ _ ?_
      clear hK K
      refine norm_ (a' := ?_) ?_ ?_
      rotate_left
      · show Act.put _ (some 75) _ = _
        simp only [Act.put, List.setIfInBounds_toArray, List.set_cons_zero, List.set_cons_succ, i64_w, i32_w]
        rfl
      refine pure_ (i := 16) (N := some 14) (v := ?_) (a' := ?_) #[true, true, true, true, true, true, true, true, true, true, true, true, true, true, true, true, true, false] rfl rfl (any_of HT_.out (by kernel_rfl)) (fun _ _ _ h => h) (Or.inl ⟨by rfl, ?_⟩) ?_ ?_
      rotate_left
      · intro w'
        go_simp
        with_reducible rfl
      rotate_left
      · simp only [Act.put, List.setIfInBounds_toArray, List.set_cons_zero, List.set_cons_succ, i64_w, i32_w]
        rfl
      refine pure_ (i := 17) (N := some 15) (v := ?_) (a' := ?_) #[true, true, true, true, true, true, true, true, true, true, true, true, true, true, true, true, true, true] rfl rfl (any_of HT_.out (by kernel_rfl)) (fun _ _ _ h => h) (Or.inl ⟨by rfl, ?_⟩) ?_ ?_
      rotate_left
      · intro w'
        go_simp
        with_reducible rfl
      rotate_left
      · simp only [Act.put, List.setIfInBounds_toArray, List.set_cons_zero, List.set_cons_succ, i64_w, i32_w]
        rfl
      refine done_ (done_of HT_.out (by kernel_rfl)) ?_
      clear HXa HXb
      have HF9 : Aside0 (F4 w.heap.size wZ _ _ u1 u2 K1 K2 (L3 ++ [a]) (L4 ++ [b])) := ⟨HFZ.out.swap⟩
      rw [← HT1.out, ← HT2.out, ← HT3.out, ← HT4.out] at HF9
      go_wp2_with fail
      go_roundg (n - (kk + 1))
      case measure => omega
      case rel => exact ⟨kk + 1, by omega, by omega, by go_num, HF9, HSZ⟩
    · have hltz : ¬ (kk : Int) < (n : Int) := by omega
      obtain rfl : kk = n := by omega
      have q1 : decide ((kk : Int) < (kk : Int)) = false := decide_eq_false hltz
      have e2 : l2.take kk = l2 := List.take_of_length_le (by rw [HN2.out]; exact Nat.le_refl _)
      have e3 : l3.take kk = l3 := List.take_of_length_le (by rw [HN3.out]; exact Nat.le_refl _)
      rw [e2, e3] at HF
      clear e2 e3
      have hR := HR.out
      clear HR
      have hSB : (l2.map S31.f0).length = kk := by rw [List.length_map, HN2.out]
      obtain ⟨SB, eSB⟩ : ∃ L, l2.map S31.f0 = L := ⟨_, rfl⟩
      rw [eSB] at HF hSB hR
      have HLSB := Aside0.mk hSB
      clear eSB
      have hSM : (l2.map S31.f1).length = kk := by rw [List.length_map, HN2.out]
      obtain ⟨SM, eSM⟩ : ∃ L, l2.map S31.f1 = L := ⟨_, rfl⟩
      rw [eSM] at HF hSM hR
      have HLSM := Aside0.mk hSM
      clear eSM
      have hDB : (l3.map S31.f0).length = kk := by rw [List.length_map, HN3.out]
      obtain ⟨DB, eDB⟩ : ∃ L, l3.map S31.f0 = L := ⟨_, rfl⟩
      rw [eDB] at HF hDB hR
      have HLDB := Aside0.mk hDB
      clear eDB
      have hDM : (l3.map S31.f1).length = kk := by rw [List.length_map, HN3.out]
      obtain ⟨DM, eDM⟩ : ∃ L, l3.map S31.f1 = L := ⟨_, rfl⟩
      rw [eDM] at HF hDM hR
      have HLDM := Aside0.mk hDM
      clear eDM
      unfold runW3 at hR
      obtain ⟨⟨B, eB⟩, hRb⟩ : ∃ R, runC x.f0 s.f0.f0 s.f1.f0 SB DB = R := ⟨_, rfl⟩
      obtain ⟨⟨MA, eA⟩, hRa⟩ : ∃ R, runC x.f1 s.f0.f1 s.f1.f1 SM DM = R := ⟨_, rfl⟩
      rw [hRb, hRa, hSB] at hR
      dsimp only at hR
      obtain ⟨⟨MC, eC⟩, hRc⟩ : ∃ R, runC x.f1 s.f0.f1 s.f1.f1 SM (disL x B SB DM kk) = R := ⟨_, rfl⟩
      rw [hRc] at hR
      dsimp only at hR
      have HRb := Aside0.mk hRb
      have HRa := Aside0.mk hRa
      have HRc := Aside0.mk hRc
      obtain ⟨A12, c12, e_⟩ := HF.out.r1.slice hSB
      subst e_
      obtain ⟨A13, c13, e_⟩ := HF.out.r2.slice hSM
      subst e_
      obtain ⟨A14, c14, e_⟩ := HF.out.r3.slice hDB
      subst e_
      obtain ⟨A15, c15, e_⟩ := HF.out.r4.slice hDM
      subst e_
      clear hRb hRa hRc hSB hSM hDB hDM
      have HRR := Aside0.mk hR
      clear hR
      have HFa := HF
      have HWa := HW
      clear HF HW
      obtain ⟨s0, s1, s2, s3⟩ := bc4 HWa.out.bs
      rcases (Decidable.em (eB = 0)).symm with h1 | h1
      · have t1 : (eB != 0) = true := bne_iff_ne.2 h1
        have HX1 := Aside0.mk h1
        clear h1
        go_wp2_with (first | ((with_reducible refine gate_dst (N := 79) rfl ?_); refine wpList_load_seg rfl 27 (.tmp 78) rfl gx 0 rfl 29 #[.int .i64 x.f0.f0.f0, .int .i64 x.f0.f0.f1, .int .i64 x.f0.f0.f2, .int .i64 x.f0.f0.f3, .int .i64 x.f0.f0.f4, .int .i64 x.f0.f0.f5, .int .i64 x.f0.f1.f0, .int .i64 x.f0.f1.f1, .int .i64 x.f0.f1.f2, .int .i64 x.f1.f0.f0, .int .i64 x.f1.f0.f1, .int .i64 x.f1.f0.f2, .int .i64 x.f1.f0.f3, .int .i64 x.f1.f0.f4, .int .i64 x.f1.f0.f5, .int .i64 x.f1.f1.f0, .int .i64 x.f1.f1.f1, .int .i64 x.f1.f1.f2, .int .i64 x.f2] (0, 0) _ HWa.out.bx [.int .i64 x.f0.f0.f0, .int .i64 x.f0.f0.f1, .int .i64 x.f0.f0.f2, .int .i64 x.f0.f0.f3, .int .i64 x.f0.f0.f4, .int .i64 x.f0.f0.f5, .int .i64 x.f0.f1.f0, .int .i64 x.f0.f1.f1, .int .i64 x.f0.f1.f2] rfl Try.underlying27 rfl (by kernel_rfl) ?_) | ((go_at_call 14); ((with_reducible refine (RunN_calls x.f0 s.f0.f0 s.f1.f0 kk A12 c12 SB A14 c14 DB w.heap.size _ HLSB.out HLDB.out HFa.out.r1 HFa.out.r3 (B, eB) HRb.out).mono ?_); rintro e wb ⟨vB, rfl, ho, hb⟩; have HFb := Aside0.mk (HFa.out.below hb); have HWb := Aside0.mk (HWa.out.below hb); have HVb := Aside0.mk (Kd.R_lower ho HWa.out.hb.size); have HBb := Aside0.mk hb; clear ho hb s0 s1 s2 s3; obtain ⟨s0, s1, s2, s3⟩ := bc4 HWb.out.bs)))
        have hE : RR = ([], eB) := by rw [← HRR.out]; exact if_neg HX1.out
        go_ret2
        rw [hE]
        exact ⟨_, rfl, Kd.R_nil _ _ _ _ _, HWb.out.hb⟩
      subst h1
      rw [if_pos rfl] at HRR
      rcases (Decidable.em (eA = 0)).symm with h1 | h1
      · have t1 : (eA != 0) = true := bne_iff_ne.2 h1
        have HX1 := Aside0.mk h1
        clear h1
        go_wp2_with (first | ((with_reducible refine gate_dst (N := 79) rfl ?_); refine wpList_load_seg rfl 27 (.tmp 78) rfl gx 0 rfl 29 #[.int .i64 x.f0.f0.f0, .int .i64 x.f0.f0.f1, .int .i64 x.f0.f0.f2, .int .i64 x.f0.f0.f3, .int .i64 x.f0.f0.f4, .int .i64 x.f0.f0.f5, .int .i64 x.f0.f1.f0, .int .i64 x.f0.f1.f1, .int .i64 x.f0.f1.f2, .int .i64 x.f1.f0.f0, .int .i64 x.f1.f0.f1, .int .i64 x.f1.f0.f2, .int .i64 x.f1.f0.f3, .int .i64 x.f1.f0.f4, .int .i64 x.f1.f0.f5, .int .i64 x.f1.f1.f0, .int .i64 x.f1.f1.f1, .int .i64 x.f1.f1.f2, .int .i64 x.f2] (0, 0) _ HWa.out.bx [.int .i64 x.f0.f0.f0, .int .i64 x.f0.f0.f1, .int .i64 x.f0.f0.f2, .int .i64 x.f0.f0.f3, .int .i64 x.f0.f0.f4, .int .i64 x.f0.f0.f5, .int .i64 x.f0.f1.f0, .int .i64 x.f0.f1.f1, .int .i64 x.f0.f1.f2] rfl Try.underlying27 rfl (by kernel_rfl) ?_) | ((go_at_call 14); ((with_reducible refine (RunN_calls x.f0 s.f0.f0 s.f1.f0 kk A12 c12 SB A14 c14 DB w.heap.size _ HLSB.out HLDB.out HFa.out.r1 HFa.out.r3 (B, 0) HRb.out).mono ?_); rintro e wb ⟨vB, rfl, ho, hb⟩; have HFb := Aside0.mk (HFa.out.below hb); have HWb := Aside0.mk (HWa.out.below hb); have HVb := Aside0.mk (Kd.R_lower ho HWa.out.hb.size); have HBb := Aside0.mk hb; clear ho hb s0 s1 s2 s3; obtain ⟨s0, s1, s2, s3⟩ := bc4 HWb.out.bs)) | ((with_reducible refine gate_dst (N := 96) rfl ?_); refine wpList_load_seg rfl 27 (.tmp 95) rfl gx 9 rfl 29 #[.int .i64 x.f0.f0.f0, .int .i64 x.f0.f0.f1, .int .i64 x.f0.f0.f2, .int .i64 x.f0.f0.f3, .int .i64 x.f0.f0.f4, .int .i64 x.f0.f0.f5, .int .i64 x.f0.f1.f0, .int .i64 x.f0.f1.f1, .int .i64 x.f0.f1.f2, .int .i64 x.f1.f0.f0, .int .i64 x.f1.f0.f1, .int .i64 x.f1.f0.f2, .int .i64 x.f1.f0.f3, .int .i64 x.f1.f0.f4, .int .i64 x.f1.f0.f5, .int .i64 x.f1.f1.f0, .int .i64 x.f1.f1.f1, .int .i64 x.f1.f1.f2, .int .i64 x.f2] (0, 0) _ HWb.out.bx [.int .i64 x.f1.f0.f0, .int .i64 x.f1.f0.f1, .int .i64 x.f1.f0.f2, .int .i64 x.f1.f0.f3, .int .i64 x.f1.f0.f4, .int .i64 x.f1.f0.f5, .int .i64 x.f1.f1.f0, .int .i64 x.f1.f1.f1, .int .i64 x.f1.f1.f2] rfl Try.underlying27 rfl (by kernel_rfl) ?_) | ((go_at_call 14); ((with_reducible refine (RunN_calls x.f1 s.f0.f1 s.f1.f1 kk A13 c13 SM A15 c15 DM w.heap.size _ HLSM.out HLDM.out HFb.out.r2 HFb.out.r4 (MA, eA) HRa.out).mono ?_); rintro e wc ⟨vA, rfl, ho, hb⟩; have HFc := Aside0.mk (HFb.out.below hb); have HWc := Aside0.mk (HWb.out.below hb); have HVc := Aside0.mk (Kd.R_lower ho HWb.out.hb.size); have HBc := Aside0.mk hb; clear ho hb s0 s1 s2 s3; obtain ⟨s0, s1, s2, s3⟩ := bc4 HWc.out.bs)))
        have hE : RR = ([], eA) := by rw [← HRR.out]; exact if_neg HX1.out
        go_ret2
        rw [hE]
        exact ⟨_, rfl, Kd.R_nil _ _ _ _ _, HWc.out.hb⟩
      subst h1
      rw [if_pos rfl] at HRR
      go_wp2_with (first | ((with_reducible refine gate_dst (N := 79) rfl ?_); refine wpList_load_seg rfl 27 (.tmp 78) rfl gx 0 rfl 29 #[.int .i64 x.f0.f0.f0, .int .i64 x.f0.f0.f1, .int .i64 x.f0.f0.f2, .int .i64 x.f0.f0.f3, .int .i64 x.f0.f0.f4, .int .i64 x.f0.f0.f5, .int .i64 x.f0.f1.f0, .int .i64 x.f0.f1.f1, .int .i64 x.f0.f1.f2, .int .i64 x.f1.f0.f0, .int .i64 x.f1.f0.f1, .int .i64 x.f1.f0.f2, .int .i64 x.f1.f0.f3, .int .i64 x.f1.f0.f4, .int .i64 x.f1.f0.f5, .int .i64 x.f1.f1.f0, .int .i64 x.f1.f1.f1, .int .i64 x.f1.f1.f2, .int .i64 x.f2] (0, 0) _ HWa.out.bx [.int .i64 x.f0.f0.f0, .int .i64 x.f0.f0.f1, .int .i64 x.f0.f0.f2, .int .i64 x.f0.f0.f3, .int .i64 x.f0.f0.f4, .int .i64 x.f0.f0.f5, .int .i64 x.f0.f1.f0, .int .i64 x.f0.f1.f1, .int .i64 x.f0.f1.f2] rfl Try.underlying27 rfl (by kernel_rfl) ?_) | ((go_at_call 14); ((with_reducible refine (RunN_calls x.f0 s.f0.f0 s.f1.f0 kk A12 c12 SB A14 c14 DB w.heap.size _ HLSB.out HLDB.out HFa.out.r1 HFa.out.r3 (B, 0) HRb.out).mono ?_); rintro e wb ⟨vB, rfl, ho, hb⟩; have HFb := Aside0.mk (HFa.out.below hb); have HWb := Aside0.mk (HWa.out.below hb); have HVb := Aside0.mk (Kd.R_lower ho HWa.out.hb.size); have HBb := Aside0.mk hb; clear ho hb s0 s1 s2 s3; obtain ⟨s0, s1, s2, s3⟩ := bc4 HWb.out.bs)) | ((with_reducible refine gate_dst (N := 96) rfl ?_); refine wpList_load_seg rfl 27 (.tmp 95) rfl gx 9 rfl 29 #[.int .i64 x.f0.f0.f0, .int .i64 x.f0.f0.f1, .int .i64 x.f0.f0.f2, .int .i64 x.f0.f0.f3, .int .i64 x.f0.f0.f4, .int .i64 x.f0.f0.f5, .int .i64 x.f0.f1.f0, .int .i64 x.f0.f1.f1, .int .i64 x.f0.f1.f2, .int .i64 x.f1.f0.f0, .int .i64 x.f1.f0.f1, .int .i64 x.f1.f0.f2, .int .i64 x.f1.f0.f3, .int .i64 x.f1.f0.f4, .int .i64 x.f1.f0.f5, .int .i64 x.f1.f1.f0, .int .i64 x.f1.f1.f1, .int .i64 x.f1.f1.f2, .int .i64 x.f2] (0, 0) _ HWb.out.bx [.int .i64 x.f1.f0.f0, .int .i64 x.f1.f0.f1, .int .i64 x.f1.f0.f2, .int .i64 x.f1.f0.f3, .int .i64 x.f1.f0.f4, .int .i64 x.f1.f0.f5, .int .i64 x.f1.f1.f0, .int .i64 x.f1.f1.f1, .int .i64 x.f1.f1.f2] rfl Try.underlying27 rfl (by kernel_rfl) ?_) | ((go_at_call 14); ((with_reducible refine (RunN_calls x.f1 s.f0.f1 s.f1.f1 kk A13 c13 SM A15 c15 DM w.heap.size _ HLSM.out HLDM.out HFb.out.r2 HFb.out.r4 (MA, 0) HRa.out).mono ?_); rintro e wc ⟨vA, rfl, ho, hb⟩; have HFc := Aside0.mk (HFb.out.below hb); have HWc := Aside0.mk (HWb.out.below hb); have HVc := Aside0.mk (Kd.R_lower ho HWb.out.hb.size); have HBc := Aside0.mk hb; clear ho hb s0 s1 s2 s3; obtain ⟨s0, s1, s2, s3⟩ := bc4 HWc.out.bs)))
      have HBD := Aside0.mk (run_bound HRb.out)
      have HMD := Aside0.mk (run_bound HRa.out)
      have hbl : B.length = kk := HBD.out.1.trans HLSB.out
      obtain ⟨AB, cB, eB_⟩ := Kd.R_slice HVb.out
      rw [hbl] at eB_
      subst eB_
      have HBL := Aside0.mk hbl
      have HVc : Aside0 (Kd.R k62 62 wc w.heap.size (fun _ => True) (.slice AB kk cB) B) := ⟨Kd.R_below HVb.out HBc.out⟩
      clear hbl s0 s1 s2 s3
      go_loopg [112] kk (fun gg v112 wr => ∃ jj : Nat, jj ≤ kk ∧ kk - jj ≤ gg ∧ v112 = .int .i64 jj ∧ Aside0 (F4 w.heap.size wr (.slice A12 kk c12) (.slice A13 kk c13) (.slice A14 kk c14) (.slice A15 kk c15) SB SM DB (disL x B SB DM jj)) ∧ Aside0 (Kd.R k62 62 wr w.heap.size (fun _ => True) (.slice AB kk cB) B) ∧ Aside0 (WSg w gx gs #[.int .i64 x.f0.f0.f0, .int .i64 x.f0.f0.f1, .int .i64 x.f0.f0.f2, .int .i64 x.f0.f0.f3, .int .i64 x.f0.f0.f4, .int .i64 x.f0.f0.f5, .int .i64 x.f0.f1.f0, .int .i64 x.f0.f1.f1, .int .i64 x.f0.f1.f2, .int .i64 x.f1.f0.f0, .int .i64 x.f1.f0.f1, .int .i64 x.f1.f0.f2, .int .i64 x.f1.f0.f3, .int .i64 x.f1.f0.f4, .int .i64 x.f1.f0.f5, .int .i64 x.f1.f1.f0, .int .i64 x.f1.f1.f1, .int .i64 x.f1.f1.f2, .int .i64 x.f2] #[.int .i64 s.f0.f0, .int .i64 s.f0.f1, .int .i64 s.f1.f0, .int .i64 s.f1.f1] wr))
      case atStart => exact ⟨0, Nat.zero_le _, by omega, rfl, HFc, HVc, HWc⟩
      case round =>
        obtain ⟨jj, hjj, hg2, rfl, HF, HV, HW⟩ := hrel
        by_cases hlt : jj < kk
        · have hltz : (jj : Int) < (kk : Int) := by omega
          have q2 : decide ((jj : Int) < (kk : Int)) = true := decide_eq_true hltz
          have hdl : (disL x B SB DM jj).length = kk := (disL_length x B SB DM jj).trans HLDM.out
          have hdg := disL_ge x B SB DM jj jj (Nat.le_refl _)
          obtain ⟨hb1, hb2, _⟩ := HBD.out.2 jj (by rw [HLSB.out]; exact hlt)
          obtain ⟨_, _, hm3⟩ := HMD.out.2 jj (by rw [HLSM.out]; exact hlt)
          rw [← hdg] at hm3
          have hu : disL x B SB DM (jj + 1) = (disL x B SB DM jj).set jj (clim ((disL x B SB DM jj).getD jj 0 + cpl x (B.getD jj z62).f2 (SB.getD jj 0))) := rfl
          generalize disL x B SB DM jj = Dj at hdl hm3 hu HF
          clear hdg
          obtain ⟨g4, cap4, e4_, _, _, _⟩ := Kd.R_form HF.out.r4 (by rw [hdl]; omega)
          obtain rfl : A15 = some ⟨g4, 0, none⟩ := by injection e4_
          clear e4_
          obtain ⟨y4, z4⟩ := Kd.R_celln 0 HF.out.r4 (jj : Int) (by omega) hltz
          rw [Int.toNat_natCast] at y4 z4
          rw [show rdOf 0 Dj (jj : Int) = Dj.getD jj 0 by simp [rdOf]] at y4
          obtain ⟨adB, e, _, _, hB3⟩ := at_T62 (Kd.R_reads' HV.out).2.2 (jj : Int) (by omega) (by rw [HBL.out]; exact hltz)
          subst e
          rw [Int.toNat_natCast] at hB3
          rw [show rd_T62 B (jj : Int) = B.getD jj z62 by simp [rd_T62]] at hB3
          obtain ⟨adS, e, hS1⟩ := Kd.at_int (Kd.R_reads' HF.out.r1).2.2 (jj : Int) (by omega) (by rw [HLSB.out]; exact hltz)
          subst e
          rw [Int.toNat_natCast] at hS1
          rw [show rd SB (jj : Int) = SB.getD jj 0 by simp [rd]] at hS1
          generalize Dj.getD jj 0 = mv at y4 hm3 hu
          generalize (B.getD jj z62).f2 = bv at hB3 hb1 hu
          generalize SB.getD jj 0 = sv at hS1 hb2 hu
          have hp := cpl_in x HFX.out.1 HFX.out.2 bv sv (by omega)
          have CP := Aside0.mk (coupling_f x HFX.out.1 HFX.out.2 bv sv (by omega) x.f0.f0.f0 x.f0.f0.f1 x.f0.f0.f2 x.f0.f0.f3 x.f0.f0.f4 x.f0.f0.f5 x.f0.f1.f0 x.f0.f1.f1 x.f0.f1.f2 x.f1.f0.f0 x.f1.f0.f1 x.f1.f0.f2 x.f1.f0.f3 x.f1.f0.f4 x.f1.f0.f5 x.f1.f1.f0 x.f1.f1.f1 x.f1.f1.f2)
          generalize cpl x bv sv = p at hp CP hu
          have hsum : IntKind.i64.wrap (mv + p) = mv + p := IntWalk.i64_in _ (by omega)
          obtain ⟨u, hcu⟩ : ∃ u, clim (mv + p) = u := ⟨_, rfl⟩
          rw [hcu] at hu
          have HU := Aside0.mk hu
          have HCU := Aside0.mk hcu
          have HDL := Aside0.mk hdl
          have HY4 := Aside0.mk y4
          have HB3 := Aside0.mk hB3
          have HS1 := Aside0.mk hS1
          clear y4 z4 hB3 hS1 hu hcu hdl hp hb1 hb2 hm3
          go_wp2_with fail
          refine start_ (n := 21) (S := fun w' => w'.heap[gx]? = some (.cells #[.int .i64 x.f0.f0.f0, .int .i64 x.f0.f0.f1, .int .i64 x.f0.f0.f2, .int .i64 x.f0.f0.f3, .int .i64 x.f0.f0.f4, .int .i64 x.f0.f0.f5, .int .i64 x.f0.f1.f0, .int .i64 x.f0.f1.f1, .int .i64 x.f0.f1.f2, .int .i64 x.f1.f0.f0, .int .i64 x.f1.f0.f1, .int .i64 x.f1.f0.f2, .int .i64 x.f1.f0.f3, .int .i64 x.f1.f0.f4, .int .i64 x.f1.f0.f5, .int .i64 x.f1.f1.f0, .int .i64 x.f1.f1.f1, .int .i64 x.f1.f1.f2, .int .i64 x.f2] 29 (0, 0)) ∧ w'.cell? ⟨g4, jj, none⟩ = some (.int .i64 mv) ∧ w'.cell? ⟨(adB.add (jj * 3)).block, (adB.add (jj * 3)).off + 2, none⟩ = some (.int .i64 bv) ∧ w'.cell? (adS.add jj) = some (.int .i64 sv)) (ds := [20]) #[false, false, false, false, false, false, false, false, false, false, false, false, false, false, false, false, false, false, false, false, false] (by kernel_rfl) rfl rfl ⟨blk_drew HW.out.bx, pw_cell_below (below_drew1 (Below.refl _ _)) HY4.out, pw_cell_below (below_drew1 (Below.refl _ _)) HB3.out, pw_cell_below (below_drew1 (Below.refl _ _)) HS1.out⟩ (fun hHeld => ?_); refine with_tabW wrun25.tab25 wrun25.bits25 (fun HT_ HW_ => ?_)
          have hb := below_drew1 (Below.refl wr.heap.size wr); have HFd := Aside0.mk (HF.out.below hb); have HVd := Aside0.mk (Kd.R_below HV.out hb); have HWd := Aside0.mk (HW.out.below hb); clear hb; generalize wr.drew = wd at HFd HVd HWd hHeld ⊢
          refine pure_ (i := 0) (N := some 115) (v := ?_) (a' := ?_) #[true, false, false, false, false, false, false, false, false, false, false, false, false, false, false, false, false, false, false, false, false] rfl rfl (any_of HT_.out (by kernel_rfl)) (fun _ _ _ h => h) (Or.inl ⟨by rfl, ?_⟩) ?_ ?_
          rotate_left
          · intro w'
            go_simp
            with_reducible rfl
          rotate_left
          · simp only [Act.put, List.setIfInBounds_toArray, List.set_cons_zero, List.set_cons_succ, i64_w, i32_w]
            rfl
          refine pure_ (i := 1) (N := some 116) (v := ?_) (a' := ?_) #[true, true, false, false, false, false, false, false, false, false, false, false, false, false, false, false, false, false, false, false, false] rfl rfl (any_of HT_.out (by kernel_rfl)) (fun _ _ _ h => h) (Or.inl ⟨by rfl, ?_⟩) ?_ ?_
          rotate_left
          · intro w'
            go_simp
            with_reducible rfl
          rotate_left
          · simp only [Act.put, List.setIfInBounds_toArray, List.set_cons_zero, List.set_cons_succ, i64_w, i32_w]
            rfl
          refine pure_ (i := 2) (N := some 117) (v := ?_) (a' := ?_) #[true, true, true, false, false, false, false, false, false, false, false, false, false, false, false, false, false, false, false, false, false] rfl rfl (any_of HT_.out (by kernel_rfl)) (fun _ _ _ h => h) (Or.inl ⟨by rfl, ?_⟩) ?_ ?_
          rotate_left
          · intro w'
            go_simp
            with_reducible rfl
          rotate_left
          · simp only [Act.put, List.setIfInBounds_toArray, List.set_cons_zero, List.set_cons_succ, i64_w, i32_w]
            rfl
          refine pure_ (i := 3) (N := some 118) (v := ?_) (a' := ?_) #[true, true, true, true, false, false, false, false, false, false, false, false, false, false, false, false, false, false, false, false, false] rfl rfl (any_of HT_.out (by kernel_rfl)) (fun _ _ _ h => h) (Or.inl ⟨by rfl, ?_⟩) ?_ ?_
          rotate_left
          · intro w'
            go_simp
            with_reducible rfl
          rotate_left
          · simp only [Act.put, List.setIfInBounds_toArray, List.set_cons_zero, List.set_cons_succ, i64_w, i32_w]
            rfl
          refine pure_ (i := 4) (N := some 119) (v := ?_) (a' := ?_) #[true, true, true, true, true, false, false, false, false, false, false, false, false, false, false, false, false, false, false, false, false] rfl rfl (any_of HT_.out (by kernel_rfl)) (fun _ _ _ h => h) (Or.inl ⟨by rfl, ?_⟩) ?_ ?_
          rotate_left
          · intro w'
            go_simp
            with_reducible rfl
          rotate_left
          · simp only [Act.put, List.setIfInBounds_toArray, List.set_cons_zero, List.set_cons_succ, i64_w, i32_w]
            rfl
          refine pure_ (i := 7) (N := some 122) (v := ?_) (a' := ?_) #[true, true, true, true, true, false, false, true, false, false, false, false, false, false, false, false, false, false, false, false, false] rfl rfl (any_of HT_.out (by kernel_rfl)) (fun _ _ _ h => h) (Or.inl ⟨by rfl, ?_⟩) ?_ ?_
          rotate_left
          · intro w'
            go_simp
            with_reducible rfl
          rotate_left
          · simp only [Act.put, List.setIfInBounds_toArray, List.set_cons_zero, List.set_cons_succ, i64_w, i32_w]
            rfl
          refine pure_ (i := 8) (N := some 123) (v := ?_) (a' := ?_) #[true, true, true, true, true, false, false, true, true, false, false, false, false, false, false, false, false, false, false, false, false] rfl rfl (any_of HT_.out (by kernel_rfl)) (fun _ _ _ h => h) (Or.inl ⟨by rfl, ?_⟩) ?_ ?_
          rotate_left
          · intro w'
            go_simp
            with_reducible rfl
          rotate_left
          · simp only [Act.put, List.setIfInBounds_toArray, List.set_cons_zero, List.set_cons_succ, i64_w, i32_w]
            rfl
          refine pure_ (i := 9) (N := some 124) (v := ?_) (a' := ?_) #[true, true, true, true, true, false, false, true, true, true, false, false, false, false, false, false, false, false, false, false, false] rfl rfl (any_of HT_.out (by kernel_rfl)) (fun _ _ _ h => h) (Or.inl ⟨by rfl, ?_⟩) ?_ ?_
          rotate_left
          · intro w'
            go_simp
            with_reducible rfl
          rotate_left
          · simp only [Act.put, List.setIfInBounds_toArray, List.set_cons_zero, List.set_cons_succ, i64_w, i32_w]
            rfl
          refine pure_ (i := 10) (N := some 125) (v := ?_) (a' := ?_) #[true, true, true, true, true, false, false, true, true, true, true, false, false, false, false, false, false, false, false, false, false] rfl rfl (any_of HT_.out (by kernel_rfl)) (fun _ _ _ h => h) (Or.inl ⟨by rfl, ?_⟩) ?_ ?_
          rotate_left
          · intro w'
            go_simp
            with_reducible rfl
          rotate_left
          · simp only [Act.put, List.setIfInBounds_toArray, List.set_cons_zero, List.set_cons_succ, i64_w, i32_w]
            rfl
          refine pure_ (i := 12) (N := some 127) (v := ?_) (a' := ?_) #[true, true, true, true, true, false, false, true, true, true, true, false, true, false, false, false, false, false, false, false, false] rfl rfl (any_of HT_.out (by kernel_rfl)) (fun _ _ _ h => h) (Or.inl ⟨by rfl, ?_⟩) ?_ ?_
          rotate_left
          · intro w'
            go_simp
            with_reducible rfl
          rotate_left
          · simp only [Act.put, List.setIfInBounds_toArray, List.set_cons_zero, List.set_cons_succ, i64_w, i32_w]
            rfl
          refine pure_ (i := 13) (N := some 128) (v := ?_) (a' := ?_) #[true, true, true, true, true, false, false, true, true, true, true, false, true, true, false, false, false, false, false, false, false] rfl rfl (any_of HT_.out (by kernel_rfl)) (fun _ _ _ h => h) (Or.inl ⟨by rfl, ?_⟩) ?_ ?_
          rotate_left
          · intro w'
            go_simp
            with_reducible rfl
          rotate_left
          · simp only [Act.put, List.setIfInBounds_toArray, List.set_cons_zero, List.set_cons_succ, i64_w, i32_w]
            rfl
          refine pure_ (i := 14) (N := some 129) (v := ?_) (a' := ?_) #[true, true, true, true, true, false, false, true, true, true, true, false, true, true, true, false, false, false, false, false, false] rfl rfl (any_of HT_.out (by kernel_rfl)) (fun _ _ _ h => h) (Or.inl ⟨by rfl, ?_⟩) ?_ ?_
          rotate_left
          · intro w'
            go_simp
            with_reducible rfl
          rotate_left
          · simp only [Act.put, List.setIfInBounds_toArray, List.set_cons_zero, List.set_cons_succ, i64_w, i32_w]
            rfl
          refine take_ (i := 5) (N := some 120) (v := ?_) (a' := ?_) #[true, true, true, true, true, true, false, true, true, true, true, false, true, true, true, false, false, false, false, false, false] rfl rfl (take_ofW HT_.out HW_.out (by kernel_rfl)) (fun _ _ _ h => h) (Or.inl ⟨by rfl, ?_⟩) hHeld ?_ ?_
          rotate_left
          · rintro w' ⟨s0, s1, s2, s3⟩
            go_simp
            with_reducible rfl
          rotate_left
          · simp only [Act.put, List.setIfInBounds_toArray, List.set_cons_zero, List.set_cons_succ, i64_w, i32_w]
            rfl
          refine take_ (i := 6) (N := some 121) (v := ?_) (a' := ?_) #[true, true, true, true, true, true, true, true, true, true, true, false, true, true, true, false, false, false, false, false, false] rfl rfl (take_ofW HT_.out HW_.out (by kernel_rfl)) (fun _ _ _ h => h) (Or.inl ⟨by rfl, ?_⟩) hHeld ?_ ?_
          rotate_left
          · rintro w' ⟨s0, s1, s2, s3⟩
            (refine load_seg 29 (.tmp 4) ?ho gx 0 ?hx 29 _ (0, 0) _ s0 [.int .i64 x.f0.f0.f0, .int .i64 x.f0.f0.f1, .int .i64 x.f0.f0.f2, .int .i64 x.f0.f0.f3, .int .i64 x.f0.f0.f4, .int .i64 x.f0.f0.f5, .int .i64 x.f0.f1.f0, .int .i64 x.f0.f1.f1, .int .i64 x.f0.f1.f2, .int .i64 x.f1.f0.f0, .int .i64 x.f1.f0.f1, .int .i64 x.f1.f0.f2, .int .i64 x.f1.f0.f3, .int .i64 x.f1.f0.f4, .int .i64 x.f1.f0.f5, .int .i64 x.f1.f1.f0, .int .i64 x.f1.f1.f1, .int .i64 x.f1.f1.f2, .int .i64 x.f2] rfl Try.underlying29 rfl (by kernel_rfl); (case ho => rfl); (case hx => rfl))
          rotate_left
          · simp only [Act.put, List.setIfInBounds_toArray, List.set_cons_zero, List.set_cons_succ, i64_w, i32_w]
            rfl
          refine take_ (i := 11) (N := some 126) (v := ?_) (a' := ?_) #[true, true, true, true, true, true, true, true, true, true, true, true, true, true, true, false, false, false, false, false, false] rfl rfl (take_ofW HT_.out HW_.out (by kernel_rfl)) (fun _ _ _ h => h) (Or.inl ⟨by rfl, ?_⟩) hHeld ?_ ?_
          rotate_left
          · rintro w' ⟨s0, s1, s2, s3⟩
            go_simp
            with_reducible rfl
          rotate_left
          · simp only [Act.put, List.setIfInBounds_toArray, List.set_cons_zero, List.set_cons_succ, i64_w, i32_w]
            rfl
          refine take_ (i := 15) (N := some 130) (v := ?_) (a' := ?_) #[true, true, true, true, true, true, true, true, true, true, true, true, true, true, true, true, false, false, false, false, false] rfl rfl (take_ofW HT_.out HW_.out (by kernel_rfl)) (fun _ _ _ h => h) (Or.inl ⟨by rfl, ?_⟩) hHeld ?_ ?_
          rotate_left
          · rintro w' ⟨s0, s1, s2, s3⟩
            go_simp
            with_reducible rfl
          rotate_left
          · simp only [Act.put, List.setIfInBounds_toArray, List.set_cons_zero, List.set_cons_succ, i64_w, i32_w]
            rfl
          refine one_ (i := 16) (N := some 131) #[true, true, true, true, true, true, true, true, true, true, true, true, true, true, true, true, true, false, false, false, false] rfl rfl (one_of HT_.out (by kernel_rfl)) (by decide) (fun K hK => ?_)
          refine goes_ Try.func13 (by kernel_rfl) rfl #[.agg #[.int .i64 x.f0.f0.f0, .int .i64 x.f0.f0.f1, .int .i64 x.f0.f0.f2, .int .i64 x.f0.f0.f3, .int .i64 x.f0.f0.f4, .int .i64 x.f0.f0.f5, .int .i64 x.f0.f1.f0, .int .i64 x.f0.f1.f1, .int .i64 x.f0.f1.f2, .int .i64 x.f1.f0.f0, .int .i64 x.f1.f0.f1, .int .i64 x.f1.f0.f2, .int .i64 x.f1.f0.f3, .int .i64 x.f1.f0.f4, .int .i64 x.f1.f0.f5, .int .i64 x.f1.f1.f0, .int .i64 x.f1.f1.f1, .int .i64 x.f1.f1.f2, .int .i64 x.f2], .int .i64 bv, .int .i64 sv] (by rfl) rfl rfl (by simp only [List.map_toArray, List.map_cons, List.map_nil]; rfl) ?_
          with_reducible refine (web_coupling.calls x.f0.f0.f0 x.f0.f0.f1 x.f0.f0.f2 x.f0.f0.f3 x.f0.f0.f4 x.f0.f0.f5 x.f0.f1.f0 x.f0.f1.f1 x.f0.f1.f2 x.f1.f0.f0 x.f1.f0.f1 x.f1.f0.f2 x.f1.f0.f3 x.f1.f0.f4 x.f1.f0.f5 x.f1.f1.f0 x.f1.f1.f1 x.f1.f1.f2 x.f2 bv sv p _ CP.out).mono ?_
          rintro e we ⟨rfl, hb⟩
          refine ⟨_, rfl, ?_⟩
          have HFe := Aside0.mk (HFd.out.below hb)
          have HVe := Aside0.mk (Kd.R_below HVd.out hb)
          have HWe := Aside0.mk (HWd.out.below hb)
          refine hK.out _ _ ⟨blk_below hHeld.1 hb, pw_cell_below hb hHeld.2.1, pw_cell_below hb hHeld.2.2.1, pw_cell_below hb hHeld.2.2.2⟩ (fun hHeld => ?_)
          clear hK K
          refine norm_ (a' := ?_) ?_ ?_
          rotate_left
          · show Act.put _ (some 131) _ = _
            simp only [Act.put, List.setIfInBounds_toArray, List.set_cons_zero, List.set_cons_succ, i64_w, i32_w]
            rfl
          refine pure_ (i := 17) (N := some 132) (v := ?_) (a' := ?_) #[true, true, true, true, true, true, true, true, true, true, true, true, true, true, true, true, true, true, false, false, false] rfl rfl (any_of HT_.out (by kernel_rfl)) (fun _ _ _ h => h) (Or.inl ⟨by rfl, ?_⟩) ?_ ?_
          rotate_left
          · intro w'
            go_simp
            with_reducible rfl
          rotate_left
          · simp only [Act.put, List.setIfInBounds_toArray, List.set_cons_zero, List.set_cons_succ, i64_w, i32_w]
            rfl
          refine one_ (i := 18) (N := some 133) #[true, true, true, true, true, true, true, true, true, true, true, true, true, true, true, true, true, true, true, false, false] rfl rfl (one_of HT_.out (by kernel_rfl)) (by decide) (fun K hK => ?_)
          have hL := Limited_calls (mv + p) we
          rw [HCU.out] at hL
          refine goes_ Try.func15 (by kernel_rfl) rfl #[.int .i64 (mv + p)] (by rfl) rfl rfl (by simp only [List.map_toArray, List.map_cons, List.map_nil]; rfl) ?_
          with_reducible refine (hL).mono ?_
          rintro e wf ⟨rfl, hb⟩
          refine ⟨_, rfl, ?_⟩
          clear hL
          have HFf := Aside0.mk (HFe.out.below hb)
          have HVf := Aside0.mk (Kd.R_below HVe.out hb)
          have HWf := Aside0.mk (HWe.out.below hb)
          have y4 := pw_cell_below hb hHeld.2.1
          have z4 := (Kd.R_celln 0 HFf.out.r4 (jj : Int) (by omega) hltz).2
          rw [Int.toNat_natCast] at z4
          refine hK.out _ _ ⟨blk_below hHeld.1 hb, pw_cell_below hb hHeld.2.1, pw_cell_below hb hHeld.2.2.1, pw_cell_below hb hHeld.2.2.2⟩ (fun hHeld => ?_)
          clear hK K
          refine norm_ (a' := ?_) ?_ ?_
          rotate_left
          · show Act.put _ (some 133) _ = _
            simp only [Act.put, List.setIfInBounds_toArray, List.set_cons_zero, List.set_cons_succ, i64_w, i32_w]
            rfl
          refine pure_ (i := 19) (N := some 134) (v := ?_) (a' := ?_) #[true, true, true, true, true, true, true, true, true, true, true, true, true, true, true, true, true, true, true, true, false] rfl rfl (any_of HT_.out (by kernel_rfl)) (fun _ _ _ h => h) (Or.inl ⟨by rfl, ?_⟩) ?_ ?_
          rotate_left
          · intro w'
            go_simp
            with_reducible rfl
          rotate_left
          · simp only [Act.put, List.setIfInBounds_toArray, List.set_cons_zero, List.set_cons_succ, i64_w, i32_w]
            rfl
          refine last_ (i := 20) (N := none) #[true, true, true, true, true, true, true, true, true, true, true, true, true, true, true, true, true, true, true, true, true] rfl rfl (one_of HT_.out (by kernel_rfl)) (by decide) (fun K hK => ?_)
          refine skip_ (w1 := ?_) (by rfl) rfl ?_ ?_
          rotate_left
          · go_simp
            rfl
          refine hK.out _ _ ?_
          clear hK K
          refine done_ (done_of HT_.out (by kernel_rfl)) ?_
          have q5 := HFf.out.put (jj : Int) u
          rw [Int.toNat_natCast, ← HU.out] at q5
          have HF9 := Aside0.mk q5.1
          have HW9 := Aside0.mk (HWf.out.app HFf.out.r4 q5.2 (HWf.out.hb.grown q5.2 HWf.out.hb.size (fun k hk => Kd.R_base HFf.out.r4 k hk)))
          have HV9 := Aside0.mk (R62_put HVf.out HFf.out.r4 (by rw [HDL.out]; omega) jj (.int .i64 u))
          clear q5 y4 z4
          go_wp2_with fail
          go_roundg (kk - (jj + 1))
          case measure => omega
          case rel => exact ⟨jj + 1, by omega, by omega, by go_num, HF9, HV9, HW9⟩
        · have hltz : ¬ (jj : Int) < (kk : Int) := by omega
          obtain rfl : jj = kk := by omega
          have q2 : decide ((jj : Int) < (jj : Int)) = false := decide_eq_false hltz
          obtain ⟨s0, s1, s2, s3⟩ := bc4 HW.out.bs
          have hdl := (disL_length x B SB DM jj).trans HLDM.out
          have HDL := Aside0.mk hdl
          clear hdl
          rcases (Decidable.em (eC = 0)).symm with h1 | h1
          · have t1 : (eC != 0) = true := bne_iff_ne.2 h1
            have HX1 := Aside0.mk h1
            clear h1
            go_wp2_with (first | ((with_reducible refine gate_dst (N := 138) rfl ?_); refine wpList_load_seg rfl 27 (.tmp 137) rfl gx 9 rfl 29 #[.int .i64 x.f0.f0.f0, .int .i64 x.f0.f0.f1, .int .i64 x.f0.f0.f2, .int .i64 x.f0.f0.f3, .int .i64 x.f0.f0.f4, .int .i64 x.f0.f0.f5, .int .i64 x.f0.f1.f0, .int .i64 x.f0.f1.f1, .int .i64 x.f0.f1.f2, .int .i64 x.f1.f0.f0, .int .i64 x.f1.f0.f1, .int .i64 x.f1.f0.f2, .int .i64 x.f1.f0.f3, .int .i64 x.f1.f0.f4, .int .i64 x.f1.f0.f5, .int .i64 x.f1.f1.f0, .int .i64 x.f1.f1.f1, .int .i64 x.f1.f1.f2, .int .i64 x.f2] (0, 0) _ HW.out.bx [.int .i64 x.f1.f0.f0, .int .i64 x.f1.f0.f1, .int .i64 x.f1.f0.f2, .int .i64 x.f1.f0.f3, .int .i64 x.f1.f0.f4, .int .i64 x.f1.f0.f5, .int .i64 x.f1.f1.f0, .int .i64 x.f1.f1.f1, .int .i64 x.f1.f1.f2] rfl Try.underlying27 rfl (by kernel_rfl) ?_) | ((go_at_call 14); ((with_reducible refine (RunN_calls x.f1 s.f0.f1 s.f1.f1 jj A13 c13 SM A15 c15 (disL x B SB DM jj) w.heap.size _ HLSM.out HDL.out HF.out.r2 HF.out.r4 (MC, eC) HRc.out).mono ?_); rintro e wg ⟨vC, rfl, ho, hb⟩; have HVg := Aside0.mk (Kd.R_below HV.out hb); have HVC := Aside0.mk (Kd.R_lower ho HW.out.hb.size); have HBg := Aside0.mk (below_step HW.out.hb hb); clear ho hb s0 s1 s2 s3)))
            have hE : RR = ([], eC) := by rw [← HRR.out]; exact if_neg HX1.out
            go_ret2
            rw [hE]
            exact ⟨_, rfl, Kd.R_nil _ _ _ _ _, HBg.out⟩
          subst h1
          rw [if_pos rfl] at HRR
          go_wp2_with (first | ((with_reducible refine gate_dst (N := 138) rfl ?_); refine wpList_load_seg rfl 27 (.tmp 137) rfl gx 9 rfl 29 #[.int .i64 x.f0.f0.f0, .int .i64 x.f0.f0.f1, .int .i64 x.f0.f0.f2, .int .i64 x.f0.f0.f3, .int .i64 x.f0.f0.f4, .int .i64 x.f0.f0.f5, .int .i64 x.f0.f1.f0, .int .i64 x.f0.f1.f1, .int .i64 x.f0.f1.f2, .int .i64 x.f1.f0.f0, .int .i64 x.f1.f0.f1, .int .i64 x.f1.f0.f2, .int .i64 x.f1.f0.f3, .int .i64 x.f1.f0.f4, .int .i64 x.f1.f0.f5, .int .i64 x.f1.f1.f0, .int .i64 x.f1.f1.f1, .int .i64 x.f1.f1.f2, .int .i64 x.f2] (0, 0) _ HW.out.bx [.int .i64 x.f1.f0.f0, .int .i64 x.f1.f0.f1, .int .i64 x.f1.f0.f2, .int .i64 x.f1.f0.f3, .int .i64 x.f1.f0.f4, .int .i64 x.f1.f0.f5, .int .i64 x.f1.f1.f0, .int .i64 x.f1.f1.f1, .int .i64 x.f1.f1.f2] rfl Try.underlying27 rfl (by kernel_rfl) ?_) | ((go_at_call 14); ((with_reducible refine (RunN_calls x.f1 s.f0.f1 s.f1.f1 jj A13 c13 SM A15 c15 (disL x B SB DM jj) w.heap.size _ HLSM.out HDL.out HF.out.r2 HF.out.r4 (MC, 0) HRc.out).mono ?_); rintro e wg ⟨vC, rfl, ho, hb⟩; have HVg := Aside0.mk (Kd.R_below HV.out hb); have HVC := Aside0.mk (Kd.R_lower ho HW.out.hb.size); have HBg := Aside0.mk (below_step HW.out.hb hb); clear ho hb s0 s1 s2 s3)))
          have hcl : MC.length = jj := (run_bound HRc.out).1.trans HLSM.out
          obtain ⟨AC, cC, eC_⟩ := Kd.R_slice HVC.out
          rw [hcl] at eC_
          subst eC_
          have HCL := Aside0.mk hcl
          clear hcl
          go_loopg [23, 154] jj (fun gg v23 v154 wr => ∃ ii : Nat, ii ≤ jj ∧ jj - ii ≤ gg ∧ v154 = .int .i64 ii ∧ Aside0 (Kd.R k31 31 wr w.heap.size (fun _ => True) v23 (zipL B MC ii)) ∧ Aside0 (Kd.R k62 62 wr w.heap.size (fun _ => True) (.slice AB jj cB) B) ∧ Aside0 (Kd.R k62 62 wr w.heap.size (fun _ => True) (.slice AC jj cC) MC) ∧ Aside0 (Below w.heap.size w wr))
          case atStart => exact ⟨0, Nat.zero_le _, by omega, rfl, ⟨Kd.R_nil _ _ _ _ _⟩, HVg, HVC, HBg⟩
          case round =>
            obtain ⟨ii, hii, hg3, rfl, HO, HVx, HVy, HBB⟩ := hrel
            by_cases hlt : ii < jj
            · have hltz : (ii : Int) < (jj : Int) := by omega
              have q3 : decide ((ii : Int) < (jj : Int)) = true := decide_eq_true hltz
              obtain ⟨adB, e, _, _, h0⟩ := at_T62 (Kd.R_reads' HVx.out).2.2 (ii : Int) (by omega) (by rw [HBL.out]; exact hltz)
              subst e
              rw [Int.toNat_natCast] at h0
              rw [show rd_T62 B (ii : Int) = B.getD ii z62 by simp [rd_T62]] at h0
              obtain ⟨adC, e, _, _, h1⟩ := at_T62 (Kd.R_reads' HVy.out).2.2 (ii : Int) (by omega) (by rw [HCL.out]; exact hltz)
              subst e
              rw [Int.toNat_natCast] at h1
              rw [show rd_T62 MC (ii : Int) = MC.getD ii z62 by simp [rd_T62]] at h1
              have hx : zipL B MC (ii + 1) = zipL B MC ii ++ [⟨(B.getD ii z62).f2, (MC.getD ii z62).f2⟩] := rfl
              have hln := zipL_length B MC ii
              generalize (B.getD ii z62).f2 = b1 at h0 hx
              generalize (MC.getD ii z62).f2 = b2 at h1 hx
              obtain ⟨Ao, co, eo⟩ := Kd.R_slice HO.out
              subst eo
              generalize hsl : zipL B MC ii = L at HO hx hln
              clear hsl
              have HX := Aside0.mk hx
              have HLN : Aside0 (L.length ≤ 1024) := ⟨by have h_ := HBL.out; have h2_ := h5; omega⟩
              clear hx hln
              go_wp2_with fail
              refine start_ (n := 15) (S := fun w' => w'.cell? ⟨(adB.add (ii * 3)).block, (adB.add (ii * 3)).off + 2, none⟩ = some (.int .i64 b1) ∧ w'.cell? ⟨(adC.add (ii * 3)).block, (adC.add (ii * 3)).off + 2, none⟩ = some (.int .i64 b2)) (ds := [12, 13]) #[false, false, false, false, false, false, false, false, false, false, false, false, false, false, false] (by kernel_rfl) rfl rfl ⟨pw_cell_below (below_drew1 (Below.refl _ _)) h0, pw_cell_below (below_drew1 (Below.refl _ _)) h1⟩ (fun hHeld => ?_); refine with_tabW wrun34.tab34 wrun34.bits34 (fun HT_ HW_ => ?_)
              have HO5 := Aside0.mk (Kd.R_below HO.out (below_drew1 (Below.refl _ _))); have HVx5 := Aside0.mk (Kd.R_below HVx.out (below_drew1 (Below.refl _ _))); have HVy5 := Aside0.mk (Kd.R_below HVy.out (below_drew1 (Below.refl _ _))); have HBB5 := Aside0.mk (below_step HBB.out (below_drew1 (Below.refl _ _))); generalize wr.drew = w5 at HO5 HVx5 HVy5 HBB5 hHeld ⊢
              refine pure_ (i := 0) (N := some 157) (v := ?_) (a' := ?_) #[true, false, false, false, false, false, false, false, false, false, false, false, false, false, false] rfl rfl (any_of HT_.out (by kernel_rfl)) (fun _ _ _ h => h) (Or.inl ⟨by rfl, ?_⟩) ?_ ?_
              rotate_left
              · intro w'
                go_simp
                with_reducible rfl
              rotate_left
              · simp only [Act.put, List.setIfInBounds_toArray, List.set_cons_zero, List.set_cons_succ, i64_w, i32_w]
                rfl
              refine pure_ (i := 1) (N := some 158) (v := ?_) (a' := ?_) #[true, true, false, false, false, false, false, false, false, false, false, false, false, false, false] rfl rfl (any_of HT_.out (by kernel_rfl)) (fun _ _ _ h => h) (Or.inl ⟨by rfl, ?_⟩) ?_ ?_
              rotate_left
              · intro w'
                go_simp
                with_reducible rfl
              rotate_left
              · simp only [Act.put, List.setIfInBounds_toArray, List.set_cons_zero, List.set_cons_succ, i64_w, i32_w]
                rfl
              refine pure_ (i := 2) (N := some 159) (v := ?_) (a' := ?_) #[true, true, true, false, false, false, false, false, false, false, false, false, false, false, false] rfl rfl (any_of HT_.out (by kernel_rfl)) (fun _ _ _ h => h) (Or.inl ⟨by rfl, ?_⟩) ?_ ?_
              rotate_left
              · intro w'
                go_simp
                with_reducible rfl
              rotate_left
              · simp only [Act.put, List.setIfInBounds_toArray, List.set_cons_zero, List.set_cons_succ, i64_w, i32_w]
                rfl
              refine pure_ (i := 3) (N := some 160) (v := ?_) (a' := ?_) #[true, true, true, true, false, false, false, false, false, false, false, false, false, false, false] rfl rfl (any_of HT_.out (by kernel_rfl)) (fun _ _ _ h => h) (Or.inl ⟨by rfl, ?_⟩) ?_ ?_
              rotate_left
              · intro w'
                go_simp
                with_reducible rfl
              rotate_left
              · simp only [Act.put, List.setIfInBounds_toArray, List.set_cons_zero, List.set_cons_succ, i64_w, i32_w]
                rfl
              refine pure_ (i := 4) (N := some 161) (v := ?_) (a' := ?_) #[true, true, true, true, true, false, false, false, false, false, false, false, false, false, false] rfl rfl (any_of HT_.out (by kernel_rfl)) (fun _ _ _ h => h) (Or.inl ⟨by rfl, ?_⟩) ?_ ?_
              rotate_left
              · intro w'
                go_simp
                with_reducible rfl
              rotate_left
              · simp only [Act.put, List.setIfInBounds_toArray, List.set_cons_zero, List.set_cons_succ, i64_w, i32_w]
                rfl
              refine pure_ (i := 6) (N := some 163) (v := ?_) (a' := ?_) #[true, true, true, true, true, false, true, false, false, false, false, false, false, false, false] rfl rfl (any_of HT_.out (by kernel_rfl)) (fun _ _ _ h => h) (Or.inl ⟨by rfl, ?_⟩) ?_ ?_
              rotate_left
              · intro w'
                go_simp
                with_reducible rfl
              rotate_left
              · simp only [Act.put, List.setIfInBounds_toArray, List.set_cons_zero, List.set_cons_succ, i64_w, i32_w]
                rfl
              refine pure_ (i := 7) (N := some 164) (v := ?_) (a' := ?_) #[true, true, true, true, true, false, true, true, false, false, false, false, false, false, false] rfl rfl (any_of HT_.out (by kernel_rfl)) (fun _ _ _ h => h) (Or.inl ⟨by rfl, ?_⟩) ?_ ?_
              rotate_left
              · intro w'
                go_simp
                with_reducible rfl
              rotate_left
              · simp only [Act.put, List.setIfInBounds_toArray, List.set_cons_zero, List.set_cons_succ, i64_w, i32_w]
                rfl
              refine pure_ (i := 8) (N := some 165) (v := ?_) (a' := ?_) #[true, true, true, true, true, false, true, true, true, false, false, false, false, false, false] rfl rfl (any_of HT_.out (by kernel_rfl)) (fun _ _ _ h => h) (Or.inl ⟨by rfl, ?_⟩) ?_ ?_
              rotate_left
              · intro w'
                go_simp
                with_reducible rfl
              rotate_left
              · simp only [Act.put, List.setIfInBounds_toArray, List.set_cons_zero, List.set_cons_succ, i64_w, i32_w]
                rfl
              refine pure_ (i := 9) (N := some 166) (v := ?_) (a' := ?_) #[true, true, true, true, true, false, true, true, true, true, false, false, false, false, false] rfl rfl (any_of HT_.out (by kernel_rfl)) (fun _ _ _ h => h) (Or.inl ⟨by rfl, ?_⟩) ?_ ?_
              rotate_left
              · intro w'
                go_simp
                with_reducible rfl
              rotate_left
              · simp only [Act.put, List.setIfInBounds_toArray, List.set_cons_zero, List.set_cons_succ, i64_w, i32_w]
                rfl
              refine take_ (i := 5) (N := some 162) (v := ?_) (a' := ?_) #[true, true, true, true, true, true, true, true, true, true, false, false, false, false, false] rfl rfl (take_ofW HT_.out HW_.out (by kernel_rfl)) (fun _ _ _ h => h) (Or.inl ⟨by rfl, ?_⟩) hHeld ?_ ?_
              rotate_left
              · rintro w' ⟨s0, s1⟩
                go_simp
                with_reducible rfl
              rotate_left
              · simp only [Act.put, List.setIfInBounds_toArray, List.set_cons_zero, List.set_cons_succ, i64_w, i32_w]
                rfl
              refine take_ (i := 10) (N := some 167) (v := ?_) (a' := ?_) #[true, true, true, true, true, true, true, true, true, true, true, false, false, false, false] rfl rfl (take_ofW HT_.out HW_.out (by kernel_rfl)) (fun _ _ _ h => h) (Or.inl ⟨by rfl, ?_⟩) hHeld ?_ ?_
              rotate_left
              · rintro w' ⟨s0, s1⟩
                go_simp
                with_reducible rfl
              rotate_left
              · simp only [Act.put, List.setIfInBounds_toArray, List.set_cons_zero, List.set_cons_succ, i64_w, i32_w]
                rfl
              refine pure_ (i := 11) (N := some 168) (v := ?_) (a' := ?_) #[true, true, true, true, true, true, true, true, true, true, true, true, false, false, false] rfl rfl (any_of HT_.out (by kernel_rfl)) (fun _ _ _ h => h) (Or.inl ⟨by rfl, ?_⟩) ?_ ?_
              rotate_left
              · intro w'
                go_simp
                with_reducible rfl
              rotate_left
              · simp only [Act.put, List.setIfInBounds_toArray, List.set_cons_zero, List.set_cons_succ, i64_w, i32_w]
                rfl
              refine last_ (i := 12) (N := some 169) #[true, true, true, true, true, true, true, true, true, true, true, true, true, false, false] rfl rfl (one_of HT_.out (by kernel_rfl)) (by decide) (fun K hK => ?_)
              refine value_ (w1 := ?_) (v := ?_) (by rfl) rfl ?_ ?_
              rotate_left 2
              · go_simp
                constructor
                · rfl
                · rfl
              refine hK.out _ _ ?_
              clear hK K
              refine norm_ (a' := ?_) ?_ ?_
              rotate_left
              · show Act.put _ (some 169) _ = _
                simp only [Act.put, List.setIfInBounds_toArray, List.set_cons_zero, List.set_cons_succ, i64_w, i32_w]
                rfl
              refine last_ (i := 13) (N := some 170) #[true, true, true, true, true, true, true, true, true, true, true, true, true, true, false] rfl rfl (one_of HT_.out (by kernel_rfl)) (by decide) (fun K hK => ?_)
              refine Kd.R_append_step k31 (w0 := w5) w.heap.size (by rfl) (.tmp 157) (.tmp 169) 41 31 (.agg #[.int .i64 0, .int .i64 0]) 16 rfl Try.underlying41 info31 rfl (by decide) (by omega) (.slice Ao L.length co) L ⟨b1, b2⟩ [.int .i64 b1, .int .i64 b2] (fun _ => True) (fun _ => False) rfl (by first | (go_simp; done) | (go_simp; rfl)) ?aP (fun _ hk => hk.elim) (fun _ _ => trivial) HO5.out (Below.refl _ _) HBB5.out.size ?aL ?_
              (case aP => exact k31_mkM _ _ _ (⟨b1, b2⟩ : S31))
              (case aL => have := HLN.out; omega)
              intro va w9 ho hb hg hat
              rw [← HX.out] at ho
              have HO9 := Aside0.mk ho
              have HVx9 := Aside0.mk (R62_grown HVx5.out HO5.out hg)
              have HVy9 := Aside0.mk (R62_grown HVy5.out HO5.out hg)
              have HBB9 := Aside0.mk (HBB5.out.trans hb)
              clear ho hb hg hat
              refine hK.out _ _ ?_
              clear hK K
              refine norm_ (a' := ?_) ?_ ?_
              rotate_left
              · show Act.put _ (some 170) _ = _
                simp only [Act.put, List.setIfInBounds_toArray, List.set_cons_zero, List.set_cons_succ, i64_w, i32_w]
                rfl
              refine pure_ (i := 14) (N := some 23) (v := ?_) (a' := ?_) #[true, true, true, true, true, true, true, true, true, true, true, true, true, true, true] rfl rfl (any_of HT_.out (by kernel_rfl)) (fun _ _ _ h => h) (Or.inl ⟨by rfl, ?_⟩) ?_ ?_
              rotate_left
              · intro w'
                go_simp
                with_reducible rfl
              rotate_left
              · simp only [Act.put, List.setIfInBounds_toArray, List.set_cons_zero, List.set_cons_succ, i64_w, i32_w]
                rfl
              refine done_ (done_of HT_.out (by kernel_rfl)) ?_
              go_wp2_with fail
              go_roundg (jj - (ii + 1))
              case measure => omega
              case rel => exact ⟨ii + 1, by omega, by omega, by go_num, HO9, HVx9, HVy9, HBB9⟩
            · have hltz : ¬ (ii : Int) < (jj : Int) := by omega
              obtain rfl : ii = jj := by omega
              have q3 : decide ((ii : Int) < (ii : Int)) = false := decide_eq_false hltz
              have hE : RR = (zipL B MC ii, 0) := HRR.out.symm
              have HE := Aside0.mk hE
              clear hE
              go_wp2
              go_ret2
              rw [HE.out]
              exact ⟨_, rfl, HO.out, HBB.out⟩
theorem WRun_calls (x : S29) (s : S37) (A2 : Option Addr) (c2 : Nat) (l2 : List S31) (A3 : Option Addr) (c3 : Nat) (l3 : List S31) (w : World) (hr2 : Kd.C k31 w A2 l2.length l2) (hr3 : Kd.C k31 w A3 l3.length l3) : Calls Try.prog 7 #[.agg #[.int .i64 x.f0.f0.f0, .int .i64 x.f0.f0.f1, .int .i64 x.f0.f0.f2, .int .i64 x.f0.f0.f3, .int .i64 x.f0.f0.f4, .int .i64 x.f0.f0.f5, .int .i64 x.f0.f1.f0, .int .i64 x.f0.f1.f1, .int .i64 x.f0.f1.f2, .int .i64 x.f1.f0.f0, .int .i64 x.f1.f0.f1, .int .i64 x.f1.f0.f2, .int .i64 x.f1.f0.f3, .int .i64 x.f1.f0.f4, .int .i64 x.f1.f0.f5, .int .i64 x.f1.f1.f0, .int .i64 x.f1.f1.f1, .int .i64 x.f1.f1.f2, .int .i64 x.f2], .agg #[.int .i64 s.f0.f0, .int .i64 s.f0.f1, .int .i64 s.f1.f0, .int .i64 s.f1.f1], .slice A2 l2.length c2, .slice A3 l3.length c3] w fun e w' => ∃ v0 : Value, e = .returned (.tuple #[v0, .int .i64 ((runW x s l2 l3).2)]) ∧ Kd.R k31 31 w' w.heap.size (fun _ => True) v0 ((runW x s l2 l3).1) ∧ Below w.heap.size w w' := by
  unfold runW
  by_cases hk : ckW x = 0
  · rw [if_pos hk]
    by_cases h5 : l2.length ≤ 512
    · rw [if_pos h5]
      by_cases hl : l3.length = l2.length
      · rw [if_pos hl]
        exact WRun_main x s A2 c2 l2 A3 c3 l3 w hr2 hr3 hk h5 hl
      · rw [if_neg hl]
        exact WRun_len x s A2 c2 l2 A3 c3 l3 w hr2 hr3 hk h5 hl
    · rw [if_neg h5]
      exact WRun_long x s A2 c2 l2 A3 c3 l3 w hr2 hr3 hk h5
  · rw [if_neg hk]
    exact WRun_ck x s A2 c2 l2 A3 c3 l3 w hr2 hr3 hk
end Go.Proofs.Ytpfilkfdnjbejaa.Q
