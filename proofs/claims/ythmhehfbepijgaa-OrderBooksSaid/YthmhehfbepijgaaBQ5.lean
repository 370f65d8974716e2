import Derived.Test.YthmhehfbepijgaaBQ0
import Derived.Test.YthmhehfbepijgaaBQ2
import Derived.Test.YthmhehfbepijgaaBR12
namespace Go.Proofs.Ythmhehfbepijgaa.Q
open Go.RowKit Go.Proofs.YthmhehfbepijgaaW.PrintWords Go.Proofs.YthmhehfbepijgaaW.PrintLast Go.Proofs.YthmhehfbepijgaaW.PrintMore
attribute [local go_sem] max2_int min2_int max_two min_two max_three min_three max_four min_four
set_option linter.unusedVariables false
set_option linter.unusedSimpArgs false
structure Bk where
  es : List S68
  n : Nat
  asg : Int → Option (Int × Bool)
theorem zero65 (w : World) : (zeroValue 65).run Try.prog w = .ok (.agg #[.int .i64 0, .bool false]) w := by kernel_rfl
structure BAt (base : Nat) (P : Nat → Prop) (pb : Nat) (ve : Value) (pm : Nat) (w : World) (B : Bk) : Prop where
  blk : w.heap[pb]? = some (.cells #[ve, .map (some pm)] 61 (0, 0))
  ent : Kd.S k68 68 w base (fun k => P k ∧ k ≠ pb ∧ k ≠ pm) ve B.es
  map : Plm.PlAt Try.prog 3 w pm B.n B.asg
  ge : base ≤ pb ∧ base ≤ pm ∧ P pb ∧ P pm
section
variable {base : Nat} {P P' S : Nat → Prop} {pb pm : Nat} {ve : Value} {w w' : World} {B : Bk}
theorem BAt.ne (h : BAt base P pb ve pm w B) : pb ≠ pm := fun e => by
  obtain ⟨es, clock, hm⟩ := h.map.has
  have := h.blk
  rw [e, hm] at this
  exact absurd this (by simp)
theorem BAt.lt (h : BAt base P pb ve pm w B) : pb < w.heap.size ∧ pm < w.heap.size := ⟨blk_lt h.blk, h.map.lt⟩
theorem BAt.below (h : BAt base P pb ve pm w B) (hb : Below w.heap.size w w') : BAt base P pb ve pm w' B := ⟨blk_below h.blk hb, Kd.S_below h.ent hb, h.map.below hb, h.ge⟩
theorem BAt.drew (h : BAt base P pb ve pm w B) : BAt base P pb ve pm w.drew B := h.below (below_drew1 (Below.refl _ _))
theorem BAt.alloc (h : BAt base P pb ve pm w B) (o : Obj) : BAt base P pb ve pm (w.alloc o) B := h.below (below_alloc (Below.refl _ _) o)
theorem BAt.kept (h : BAt base P pb ve pm w B) (hk : Kept w w' S) (hs : ∀ k, P k → ¬ S k) : BAt base P pb ve pm w' B :=
  ⟨blk_kept h.blk hk (hs _ h.ge.2.2.1), Kd.S_kept h.ent hk (fun k hp => hs k hp.1), h.map.same (hk.2 pm h.map.lt (hs _ h.ge.2.2.2)), h.ge⟩
theorem BAt.mono (h : BAt base P pb ve pm w B) (hp : ∀ k, P k → P' k) : BAt base P' pb ve pm w B :=
  ⟨h.blk, Kd.S_mono h.ent (fun k hk => ⟨hp k hk.1, hk.2⟩), h.map, h.ge.1, h.ge.2.1, hp _ h.ge.2.2.1, hp _ h.ge.2.2.2⟩
theorem BAt.slice (h : BAt base P pb ve pm w B) : ∃ A c, ve = .slice A B.es.length c := Kd.S_slice h.ent
theorem BAt.reads {A : Option Addr} {n c : Nat} (h : BAt base P pb (.slice A n c) pm w B) : n = B.es.length ∧ n ≤ c ∧ Kd.C k68 w A B.es.length B.es := Kd.S_reads' h.ent
end
theorem blk_full {w : World} {g t : Nat} {cs : Array Value} (h : w.heap[g]? = some (.cells cs t (0, 0))) (vs : List Value) (hl : vs.length = cs.size) : (w.setCells g 0 vs).heap[g]? = some (.cells vs.toArray t (0, 0)) ∧ w.grownBy (w.setCells g 0 vs) (some g) := by
  obtain ⟨cur', h1, _, h3⟩ := setCells_row vs 0 w cs h (by omega)
  obtain ⟨s1, s2, s3, s4⟩ := setCells_same g vs 0 w
  refine ⟨?_, s1, s2, s3, by rw [s4]; exact Nat.le_refl _, fun k _ hk => setCells_far vs 0 k (fun he => hk (by rw [he]))⟩
  rw [h1]
  have : cur' = vs.toArray := by
    apply Array.toList_inj.1
    rw [h3, List.take_zero, List.nil_append, List.drop_eq_nil_of_le (by rw [Array.length_toList]; omega), List.append_nil]
  rw [this]
def idxI {α : Type} (p : α → Bool) (l : List α) : Int := match l.findIdx? p with
  | some i => i
  | none => -1
theorem findIdx_hit {α : Type} (p : α → Bool) (z : α) : ∀ (l : List α) (k : Nat), k < l.length → (∀ j, j < k → p (l.getD j z) = false) → p (l.getD k z) = true → l.findIdx? p = some k
  | [], k, h, _, _ => absurd h (Nat.not_lt_zero _)
  | x :: t, 0, _, _, h => by
    have : p x = true := h
    rw [List.findIdx?_cons, this]; rfl
  | x :: t, k + 1, hk, hf, h => by
    have h0 : p x = false := hf 0 (Nat.succ_pos _)
    rw [List.findIdx?_cons, h0, findIdx_hit p z t k (by simpa using hk) (fun j hj => hf (j + 1) (by omega)) h]; rfl
theorem idxI_hit {α : Type} (p : α → Bool) (l : List α) (z : α) (k : Nat) (hk : k < l.length) (hf : ∀ j, j < k → p (l.getD j z) = false) (h : p (l.getD k z) = true) : idxI p l = k := by
  unfold idxI; rw [findIdx_hit p z l k hk hf h]
theorem idxI_miss {α : Type} (p : α → Bool) (l : List α) (z : α) (hf : ∀ j, j < l.length → p (l.getD j z) = false) : idxI p l = -1 := by
  unfold idxI
  rw [List.findIdx?_eq_none_iff.2]
  intro x hx
  obtain ⟨j, hj, e⟩ := List.getElem_of_mem hx
  have := hf j hj
  rwa [List.getD_eq_getElem?_getD, List.getElem?_eq_getElem hj, Option.getD_some, e] at this
def isId (id : Int) (x : S68) : Bool := x.f0.f0 == id
def Bk.find (B : Bk) (id : Int) : Int := idxI (isId id) B.es
theorem f63_calls (x : S68) (A12 : Option Addr) (n12 c12 : Nat) (id : Int) (b : Bool) (hb : b = isId id x) (g : Nat) (w : World) (h : w.cell? ⟨g, 0, none⟩ = some (.int .i64 id)) :
    Calls Try.prog 63 #[.agg #[.int .i64 x.f0.f0, .int .i64 x.f0.f1, .int .i64 x.f0.f2, .int .i64 x.f0.f3, .int .i64 x.f0.f4, .int .i64 x.f0.f5, .int .i64 x.f0.f6, .int .i64 x.f0.f7, .int .i64 x.f0.f8, .int .i64 x.f0.f9, .int .i64 x.f0.f10, .int .i64 x.f0.f11, .slice A12 n12 c12, .bool x.f2], .pointer (some ⟨g, 0, none⟩)] w fun e w' => e = .returned (.bool b) ∧ Below w.heap.size w w' := by
  have hu68 := Try.underlying68
  have hu23 := Try.underlying23
  have hd : (x.f0.f0 == id) = b := hb.symm
  have h2 : ∀ o, (w.alloc o).cell? ⟨g, 0, none⟩ = some (.int .i64 id) := fun o => pw_cell_below (below_alloc (Below.refl _ _) o) h
  clear hb h
  go_enter Try.func63, Try.ntmps63
  go_wp2
  go_ret
  exact ⟨rfl, below_alloc (Below.refl _ _) _⟩
set_option maxHeartbeats 4000000 in
theorem f62_calls (A0 : Option Addr) (c0 : Nat) (l0 : List S68) (id : Int) (g : Nat) (w : World) (hr0 : Kd.C k68 w A0 l0.length l0) (hr : w.cell? ⟨g, 0, none⟩ = some (.int .i64 id)) :
    Calls Try.prog 62 #[.slice A0 l0.length c0, .func (.func 63) #[] #[.pointer (some ⟨g, 0, none⟩)]] w fun e w' => e = .returned (.int .i64 (idxI (isId id) l0)) ∧ Below w.heap.size w w' := by
  have hu68 := Try.underlying68
  have hu23 := Try.underlying23
  have hlen := hr0.2.1
  have HR0 := Aside0.mk hr0
  have HR := Aside0.mk hr
  clear hr0 hr
  go_enter Try.func62, Try.ntmps62
  go_wp2
  go_loopg [5, 8] l0.length (fun gg v5 v8 wr => ∃ kk : Nat, kk ≤ l0.length ∧ l0.length - kk ≤ gg ∧ v8 = .int .i64 kk ∧ Aside0 (Below w.heap.size w wr) ∧ Aside0 (∀ j, j < kk → isId id (l0.getD j z68) = false))
  case atStart => exact ⟨0, Nat.zero_le _, by omega, rfl, ⟨Below.refl _ w⟩, ⟨fun j hj => absurd hj (Nat.not_lt_zero _)⟩⟩
  case round =>
    obtain ⟨kk, hkk, hg, rfl, HB, HF⟩ := hrel
    by_cases hlt : kk < l0.length
    · have hltz : (kk : Int) < (l0.length : Int) := by omega
      obtain ⟨ad, A12, c12, e, x0, x1, x2, x3, x4, x5, x6, x7, x8, x9, x10, x11, x12, x13, _, _⟩ := at_T68 (Kd.C_below HR0.out HB.out) (kk : Int) (by omega) hltz
      subst e
      obtain ⟨x, HX⟩ : ∃ x, Aside0 (x = l0.getD kk z68) := ⟨_, ⟨rfl⟩⟩
      rw [show rd_T68 l0 (kk : Int) = x by rw [HX.out]; simp [rd_T68]] at x0 x1 x2 x3 x4 x5 x6 x7 x8 x9 x10 x11 x12 x13
      rw [Int.toNat_natCast] at x0 x1 x2 x3 x4 x5 x6 x7 x8 x9 x10 x11 x12 x13
      cases hq : isId id x with
      | true =>
        have HQ := Aside0.mk hq
        have HV := Aside0.mk (f63_calls x A12 x.f1.length c12 id true hq.symm g _ ((HB.out.cell (World.block_lt_of_cell? w _ HR.out)).trans HR.out))
        clear hq
        go_wp2_with (go_at_call 63; refine HV.out.mono ?_; rintro e w' ⟨rfl, hb⟩)
        go_ret
        exact ⟨by rw [idxI_hit (isId id) l0 z68 kk hlt HF.out (by rw [← HX.out, HQ.out])]; rfl, below_step HB.out hb⟩
      | false =>
        have HQ := Aside0.mk hq
        have HV := Aside0.mk (f63_calls x A12 x.f1.length c12 id false hq.symm g _ ((HB.out.cell (World.block_lt_of_cell? w _ HR.out)).trans HR.out))
        clear hq
        go_wp2_with (go_at_call 63; refine HV.out.mono ?_; rintro e w' ⟨rfl, hb⟩)
        go_roundg (l0.length - (kk + 1))
        case measure => omega
        case rel =>
          refine ⟨kk + 1, by omega, by omega, by go_num, ⟨below_step HB.out hb⟩, ⟨fun j hj => ?_⟩⟩
          by_cases e : j = kk
          · subst e
            rw [← HX.out, HQ.out]
          · exact HF.out j (by omega)
    · have hltz : ¬ (kk : Int) < (l0.length : Int) := by omega
      have : kk = l0.length := by omega
      subst this
      go_wp2
      go_ret
      exact ⟨by rw [idxI_miss (isId id) l0 z68 HF.out]; rfl, HB.out⟩
set_option maxHeartbeats 4000000 in
theorem find_calls {base : Nat} {P : Nat → Prop} {pb pm : Nat} {ve : Value} {B : Bk} (id : Int) (w : World) (hB : BAt base P pb ve pm w B) :
    Calls Try.prog 44 #[.pointer (some ⟨pb, 0, none⟩), .int .i64 id] w fun e w' => e = .returned (.int .i64 (B.find id)) ∧ Below w.heap.size w w' := by
  have hu61 := Try.underlying61
  obtain ⟨A, c, rfl⟩ := hB.slice
  have HV := Aside0.mk (f62_calls A c B.es id w.heap.size (w.alloc (.cells #[.int .i64 id] 3)) (Kd.C_alloc (hB.reads).2.2 _) ((blk_cell (blk_new w _) 0).trans rfl))
  have x0 : ∀ o, (w.alloc o).cell? ⟨pb, 0, none⟩ = some (.slice A B.es.length c) := fun o => pw_cell_below (below_alloc (Below.refl _ _) o) ((blk_cell hB.blk 0).trans rfl)
  clear hB
  go_enter Try.func44, Try.ntmps44
  go_wp2_with (go_at_call 62; refine HV.out.mono ?_; rintro e w' ⟨rfl, hb⟩)
  go_ret
  exact ⟨rfl, below_step (below_alloc (Below.refl _ _) _) hb⟩
def Bk.open_ (B : Bk) (id : Int) : Int × Int := if B.find id < 0 then (0, 7) else if (rd_T68 B.es (B.find id)).f2 = true then (0, 33) else (B.find id, 0)
theorem find_lt (B : Bk) (id : Int) : B.find id < (B.es.length : Int) := by
  unfold Bk.find idxI
  cases h : List.findIdx? (isId id) B.es with
  | none => simp; omega
  | some k =>
    have := (List.findIdx?_eq_some_iff_getElem.1 h).1
    show (k : Int) < _
    omega
set_option maxHeartbeats 4000000 in
theorem open_calls {base : Nat} {P : Nat → Prop} {pb pm : Nat} {ve : Value} {B : Bk} (id : Int) (w : World) (hB : BAt base P pb ve pm w B) :
    Calls Try.prog 47 #[.pointer (some ⟨pb, 0, none⟩), .int .i64 id] w fun e w' => e = .returned (.tuple #[.int .i64 (B.open_ id).1, .int .i64 (B.open_ id).2]) ∧ Below w.heap.size w w' := by
  have hu61 := Try.underlying61
  have hu68 := Try.underlying68
  obtain ⟨A, c, rfl⟩ := hB.slice
  have HV := Aside0.mk (find_calls id w hB)
  have HB := Aside0.mk hB
  have hlt := find_lt B id
  clear hB
  obtain ⟨k, hk⟩ : ∃ k, k = B.find id := ⟨_, rfl⟩
  have ho : B.open_ id = if k < 0 then (0, 7) else if (rd_T68 B.es k).f2 = true then (0, 33) else (k, 0) := by rw [hk]; rfl
  rw [← hk] at hlt HV
  rw [ho]
  clear ho hk
  by_cases c1 : k < 0
  · rw [if_pos c1]
    have c1b : decide (k < 0) = true := decide_eq_true c1
    clear c1
    go_enter Try.func47, Try.ntmps47
    go_wp2_with (go_at_call 44; refine HV.out.mono ?_; rintro e w' ⟨rfl, hb⟩)
    go_ret2
    exact ⟨rfl, hb⟩
  · rw [if_neg c1]
    have c1b : decide (k < 0) = false := decide_eq_false c1
    have c1c : decide (0 ≤ k) = true := decide_eq_true (by omega)
    have hltb : decide (k < (B.es.length : Int)) = true := decide_eq_true hlt
    have hk0 : 0 ≤ k := by omega
    clear c1
    go_enter Try.func47, Try.ntmps47
    go_wp2_with (go_at_call 44; refine HV.out.mono ?_; rintro e w' ⟨rfl, hb⟩; have HB1 := Aside0.mk (HB.out.below hb); have x0 : w'.cell? ⟨pb, 0, none⟩ = some (.slice A B.es.length c) := (blk_cell HB1.out.blk 0).trans rfl; obtain ⟨ad, A12, c12, e, _, _, _, _, _, _, _, _, _, _, _, _, _, x13, _, _⟩ := at_T68 (HB1.out.reads).2.2 k hk0 hlt; subst e)
    all_goals (go_ret2; exact ⟨rfl, hb⟩)
def Bk.held (B : Bk) (roll : Int) : Int × Int := if (B.asg roll).isSome = true then (if ((B.asg roll).getD (0, false)).2 = true then (0, 34) else (((B.asg roll).getD (0, false)).1, 0)) else (0, 7)
set_option maxHeartbeats 4000000 in
theorem held_calls {base : Nat} {P : Nat → Prop} {pb pm : Nat} {ve : Value} {B : Bk} (roll : Int) (hw : (Lit.int .i64 roll).wf = true) (w : World) (hB : BAt base P pb ve pm w B) :
    Calls Try.prog 48 #[.pointer (some ⟨pb, 0, none⟩), .int .i64 roll] w fun e w' => e = .returned (.tuple #[.int .i64 (B.held roll).1, .int .i64 (B.held roll).2]) ∧ Below w.heap.size w w' := by
  have hu61 := Try.underlying61
  have hu65 := Try.underlying65
  have HM := Aside0.mk hB.map
  have x0 : w.cell? ⟨pb, 1, none⟩ = some (.map (some pm)) := (blk_cell hB.blk 1).trans rfl
  have HW := Aside0.mk hw
  clear hB hw
  unfold Bk.held
  cases hp : B.asg roll with
  | none =>
    rw [if_neg (by simp)]
    have HP := Aside0.mk hp
    clear hp
    go_enter Try.func48, Try.ntmps48
    go_wp2_with (at_lookup; refine Plm.pl_lookup_ok rfl _ _ 58 rfl Try.underlying3 Try.underlying58 (zero65 _) rfl HM.out roll rfl HW.out ?_; rw [HP.out]; simp only [Option.getD_none, Option.isSome_none])
    go_ret2
    exact ⟨rfl, below_alloc (Below.refl _ _) _⟩
  | some p =>
    rw [if_pos (by simp)]
    have HP := Aside0.mk hp
    clear hp
    obtain ⟨en, sh⟩ := p
    simp only [Option.getD_some]
    cases sh with
    | true =>
      rw [if_pos rfl]
      go_enter Try.func48, Try.ntmps48
      go_wp2_with (at_lookup; refine Plm.pl_lookup_ok rfl _ _ 58 rfl Try.underlying3 Try.underlying58 (zero65 _) rfl HM.out roll rfl HW.out ?_; rw [HP.out]; simp only [Option.getD_some, Option.isSome_some])
      go_ret2
      exact ⟨rfl, below_alloc (Below.refl _ _) _⟩
    | false =>
      rw [if_neg (by simp)]
      go_enter Try.func48, Try.ntmps48
      go_wp2_with (at_lookup; refine Plm.pl_lookup_ok rfl _ _ 58 rfl Try.underlying3 Try.underlying58 (zero65 _) rfl HM.out roll rfl HW.out ?_; rw [HP.out]; simp only [Option.getD_some, Option.isSome_some])
      go_ret2
      exact ⟨rfl, below_alloc (Below.refl _ _) _⟩
def Bk.Find (B : Bk) (roll : Int) : Option (Int × Bool) := match B.asg roll with
  | none => some (0, false)
  | some p => if 0 ≤ p.1 ∧ p.1 < (B.es.length : Int) then some ((rd_T68 B.es p.1).f0.f0, true) else none
set_option maxHeartbeats 4000000 in
theorem Find_calls {base : Nat} {P : Nat → Prop} {pb pm : Nat} {ve : Value} {B : Bk} (roll : Int) (hw : (Lit.int .i64 roll).wf = true) (r : Int × Bool) (h : B.Find roll = some r) (w : World) (hB : BAt base P pb ve pm w B) :
    Calls Try.prog 18 #[.pointer (some ⟨pb, 0, none⟩), .int .i64 roll] w fun e w' => e = .returned (.tuple #[.int .i64 r.1, .bool r.2]) ∧ Below w.heap.size w w' := by
  have hu61 := Try.underlying61
  have hu65 := Try.underlying65
  have hu68 := Try.underlying68
  have hu23 := Try.underlying23
  obtain ⟨A, c, rfl⟩ := hB.slice
  have HM := Aside0.mk hB.map
  have x0 : w.cell? ⟨pb, 1, none⟩ = some (.map (some pm)) := (blk_cell hB.blk 1).trans rfl
  have HW := Aside0.mk hw
  have HB := Aside0.mk hB
  clear hB hw
  unfold Bk.Find at h
  cases hp : B.asg roll with
  | none =>
    rw [hp] at h
    obtain rfl := Option.some.inj h
    have HP := Aside0.mk hp
    clear hp h
    go_enter Try.func18, Try.ntmps18
    go_wp2_with (at_lookup; refine Plm.pl_lookup_ok rfl _ _ 58 rfl Try.underlying3 Try.underlying58 (zero65 _) rfl HM.out roll rfl HW.out ?_; rw [HP.out]; simp only [Option.getD_none, Option.isSome_none])
    go_ret2
    exact ⟨rfl, below_alloc (Below.refl _ _) _⟩
  | some p =>
    rw [hp] at h
    obtain ⟨en, sh⟩ := p
    have HP := Aside0.mk hp
    clear hp
    simp only at h
    by_cases c1 : 0 ≤ en ∧ en < (B.es.length : Int)
    · rw [if_pos c1] at h
      obtain rfl := Option.some.inj h
      have p1 := eq_true c1.1
      have q1 := eq_true c1.2
      obtain ⟨ad, A12, c12, e, x2, _⟩ := at_T68 (HB.out.reads).2.2 en c1.1 c1.2
      subst e
      have x3 : ∀ o, (w.alloc o).cell? ⟨pb, 0, none⟩ = some (.slice (some ad) B.es.length c) := fun o => pw_cell_below (below_alloc (Below.refl _ _) o) ((blk_cell HB.out.blk 0).trans rfl)
      have x4 : ∀ o, (w.alloc o).cell? (ad.add (en.toNat * 14)) = some (.int .i64 (rd_T68 B.es en).f0.f0) := fun o => pw_cell_below (below_alloc (Below.refl _ _) o) x2
      clear x2 h c1
      go_enter Try.func18, Try.ntmps18
      go_wp2_with (at_lookup; refine Plm.pl_lookup_ok rfl _ _ 58 rfl Try.underlying3 Try.underlying58 (zero65 _) rfl HM.out roll rfl HW.out ?_; rw [HP.out]; simp only [Option.getD_some, Option.isSome_some])
      have y3 := x3 (.cells #[.int .i64 en, .bool sh] 65 (0, 0))
      have y4 := x4 (.cells #[.int .i64 en, .bool sh] 65 (0, 0))
      have y5 : (w.alloc (.cells #[.int .i64 en, .bool sh] 65 (0, 0))).cell? ⟨w.heap.size, 0, none⟩ = some (.int .i64 en) := (blk_cell (blk_new w _) 0).trans rfl
      have HB2 : Aside0 (Below w.heap.size w (w.alloc (.cells #[.int .i64 en, .bool sh] 65 (0, 0)))) := ⟨below_alloc (Below.refl _ _) _⟩
      generalize w.alloc (.cells #[.int .i64 en, .bool sh] 65 (0, 0)) = w1 at y3 y4 y5 HB2 ⊢
      clear x3 x4
      go_quiet (fail)
      go_wp2
      go_ret2
      exact ⟨rfl, pw_below_drewN HB2.out _⟩
    · rw [if_neg c1] at h
      exact absurd h (by simp)
def Bk.new : Bk := ⟨[], 0, fun _ => none⟩
theorem New_calls (w : World) : Calls Try.prog 14 #[] w fun e w' => ∃ pb pm, e = .returned (.pointer (some ⟨pb, 0, none⟩)) ∧ BAt w.heap.size (fun k => w.heap.size ≤ k) pb (.slice none 0 0) pm w' Bk.new ∧ Below w.heap.size w w' := by
  have hmm := @run_makeMap Try.prog
  have hu61 := Try.underlying61
  go_enter Try.func14, Try.ntmps14
  go_wp2
  go_ret
  refine ⟨_, _, rfl, ⟨by simpa using blk_new (w.alloc (.map #[] 0)) _, Kd.S_nil _ _ _ _ _, (Plm.PlAt.made w).below (below_alloc (Below.refl _ _) _), ?_⟩, below_alloc (below_alloc (Below.refl _ _) _) _⟩
  simp
def shipL (f : Int → Option (Int × Bool)) (l : List Int) : List Int := l.filter fun n => ((f n).getD (0, false)).2
theorem field65 (en : Int) (sh : Bool) (w : World) : (Instr.field 65 (.agg #[.int .i64 en, .bool sh]) 1).run Try.prog w = .ok (.bool sh) w := by kernel_rfl
set_option maxHeartbeats 4000000 in
theorem shipped_calls {base : Nat} {P : Nat → Prop} {pb pm : Nat} {ve : Value} {B : Bk} (x : S68) (A12 : Option Addr) (c12 : Nat) (w : World) (hB : BAt base P pb ve pm w B) (hr : Kd.C (Kd.int .i64) w A12 x.f1.length x.f1) (hwf : ∀ n ∈ x.f1, (Lit.int .i64 n).wf = true) (hl : x.f1.length < 17592186044416) :
    Calls Try.prog 54 #[.pointer (some ⟨pb, 0, none⟩), .agg #[.int .i64 x.f0.f0, .int .i64 x.f0.f1, .int .i64 x.f0.f2, .int .i64 x.f0.f3, .int .i64 x.f0.f4, .int .i64 x.f0.f5, .int .i64 x.f0.f6, .int .i64 x.f0.f7, .int .i64 x.f0.f8, .int .i64 x.f0.f9, .int .i64 x.f0.f10, .int .i64 x.f0.f11, .slice A12 x.f1.length c12, .bool x.f2]] w fun e w' => ∃ v, e = .returned v ∧ Kd.R (Kd.int .i64) 3 w' w.heap.size (fun _ => True) v (shipL B.asg x.f1) ∧ Below w.heap.size w w' := by
  have hu61 := Try.underlying61
  have hu68 := Try.underlying68
  have hf := field65
  have HR0 := Aside0.mk hr
  have HBA := Aside0.mk hB
  have HWF := Aside0.mk hwf
  have HL := Aside0.mk hl
  obtain ⟨l0, HL0⟩ : ∃ l, Aside0 (l = x.f1) := ⟨_, ⟨rfl⟩⟩
  rw [← HL0.out] at HR0 HWF HL
  have hlen := HR0.out.2.1
  rw [← HL0.out]
  clear hr hB hwf hl
  go_enter Try.func54, Try.ntmps54
  go_wp2
  go_loopg [5, 11] l0.length (fun gg v5 v11 wr => ∃ kk : Nat, kk ≤ l0.length ∧ l0.length - kk ≤ gg ∧ v11 = .int .i64 kk ∧ Aside0 (Kd.R (Kd.int .i64) 3 wr w.heap.size (fun _ => True) v5 (shipL B.asg (l0.take kk))) ∧ Aside0 (Below w.heap.size w wr))
  case atStart => exact ⟨0, Nat.zero_le _, by omega, rfl, ⟨Kd.R_nil _ _ _ _ _⟩, ⟨below_alloc (Below.refl _ _) _⟩⟩
  case round =>
    obtain ⟨kk, hkk, hg, rfl, HO, HB⟩ := hrel
    by_cases hlt : kk < l0.length
    · have hltz : (kk : Int) < (l0.length : Int) := by omega
      obtain ⟨ad, e, h0⟩ := Kd.at_int (Kd.C_below HR0.out HB.out) (kk : Int) (by omega) hltz
      subst e
      obtain ⟨y, HX⟩ : ∃ y, Aside0 (y = l0.getD kk 0) := ⟨_, ⟨rfl⟩⟩
      rw [show rd l0 (kk : Int) = y by rw [HX.out]; simp [rd]] at h0
      rw [Int.toNat_natCast] at h0
      have HY : Aside0 ((Lit.int .i64 y).wf = true) := ⟨HWF.out y (by rw [HX.out, List.getD_eq_getElem?_getD, List.getElem?_eq_getElem hlt]; exact List.getElem_mem hlt)⟩
      have HT : Aside0 (l0.take (kk + 1) = l0.take kk ++ [y]) := ⟨by rw [HX.out, List.take_add_one, List.getElem?_eq_getElem hlt, List.getD_eq_getElem?_getD, List.getElem?_eq_getElem hlt]; rfl⟩
      have HB1 := Aside0.mk (HBA.out.below HB.out)
      have x1 := (blk_cell HB1.out.blk 1).trans rfl
      obtain ⟨p, HP⟩ : ∃ p, Aside0 ((B.asg y).getD (0, false) = p) := ⟨_, ⟨rfl⟩⟩
      obtain ⟨en, sh⟩ := p
      cases sh with
      | true =>
        have HS : Aside0 (shipL B.asg (l0.take (kk + 1)) = shipL B.asg (l0.take kk) ++ [y]) := ⟨by rw [HT.out]; unfold shipL; rw [List.filter_append, List.filter_cons, if_pos (by rw [HP.out])]; rfl⟩
        have HLn : Aside0 ((shipL B.asg (l0.take kk)).length ≤ l0.length) := ⟨by unfold shipL; exact Nat.le_trans (List.length_filter_le _ _) (by rw [List.length_take]; omega)⟩
        obtain ⟨Ao, co, eo⟩ := Kd.R_slice HO.out
        subst eo
        go_wp2_with (first | (at_lookup; refine Plm.pl_lookup rfl _ _ 58 rfl Try.underlying3 Try.underlying58 (zero65 _) rfl HB1.out.map y rfl HY.out ?_; rw [HP.out]) | ((with_reducible refine gate_builtin (b := .append) (xs := #[.tmp 22, .tmp 24]) rfl ?_); at_builtin; refine Kd.R_append (Kd.int .i64) (w0 := w) w.heap.size rfl (.tmp 22) (.tmp 24) 39 3 (.int .i64 0) 8 rfl Try.underlying39 info3 rfl (by decide) (by omega) _ (shipL B.asg (l0.take kk)) y [.int .i64 y] (fun _ => True) (fun _ => False) rfl rfl ?aP (fun _ hk => hk.elim) ?aF HO.out HB.out ?aS ?aL ?_; (case aP => exact rfl); (case aF => exact (fun _ _ => trivial)); (case aS => exact below_size HB.out); (case aL => have := HLn.out; have := HL.out; omega); intro v1 w1 ho hb hg1 hat; rw [← HS.out] at ho; have HO1 := Aside0.mk ho; have HB2 := Aside0.mk hb; clear ho hb hg1 hat))
        go_roundg (l0.length - (kk + 1))
        case measure => omega
        case rel => exact ⟨kk + 1, by omega, by omega, by go_num, HO1, HB2⟩
      | false =>
        have HS : Aside0 (shipL B.asg (l0.take (kk + 1)) = shipL B.asg (l0.take kk)) := ⟨by rw [HT.out]; unfold shipL; rw [List.filter_append, List.filter_cons, if_neg (by rw [HP.out]; simp)]; simp⟩
        go_wp2_with (at_lookup; refine Plm.pl_lookup rfl _ _ 58 rfl Try.underlying3 Try.underlying58 (zero65 _) rfl HB1.out.map y rfl HY.out ?_; rw [HP.out])
        go_roundg (l0.length - (kk + 1))
        case measure => omega
        case rel => exact ⟨kk + 1, by omega, by omega, by go_num, ⟨by rw [HS.out]; exact HO.out⟩, HB⟩
    · have hltz : ¬ (kk : Int) < (l0.length : Int) := by omega
      have : kk = l0.length := by omega
      subst this
      go_wp2
      go_ret
      exact ⟨_, rfl, by have := HO.out; rwa [List.take_length] at this, HB.out⟩
set_option maxHeartbeats 1000000 in
theorem clone_calls (A : Option Addr) (c : Nat) (l : List Int) (w : World) (hr : Kd.C (Kd.int .i64) w A l.length l) (hc : l.length ≤ c) (hs : l.length < 1000) :
    Calls Try.prog 50 #[.slice A l.length c] w fun e w' => ∃ v0_ : Value, e = .returned v0_ ∧ Kd.R (Kd.int .i64) 3 w' w.heap.size (fun _ => True) v0_ l ∧ Below w.heap.size w w' := by
  have HR := Aside0.mk hr
  have HC := Aside0.mk hc
  have HS := Aside0.mk hs
  have he : ∀ W : World, (binOp .eql 39 (.slice A l.length c) (.slice none 0 0)).run Try.prog W = .ok (.bool A.isNone) W := fun W => Lib.run_eql_slice_nil W 39 3 _ _ _ _ _ Try.underlying39
  cases A with
  | none =>
    have hl : l = [] := by
      by_cases h0 : 0 < l.length
      · obtain ⟨ad, e, _⟩ := Kd.at_int hr 0 (by omega) (by omega)
        cases e
      · exact List.eq_nil_of_length_eq_zero (by omega)
    clear hr hc hs
    have HL := Aside0.mk hl
    clear hl
    go_enter Try.func50, Try.ntmps50
    go_wp2
    go_ret
    exact ⟨_, rfl, by rw [HL.out]; exact Kd.R_nil _ _ _ _ _, Below.refl _ _⟩
  | some ad =>
    clear hr hc hs
    go_enter Try.func50, Try.ntmps50
    go_wp2_with (first | ((with_reducible refine gate_dst (N := 5) rfl ?_); refine Kd.R_lit (Kd.int .i64) _ 3 ?hg (N := 5) ?hd (xs := ([] : List Int)) (inner := []) (ok := fun _ => True) (okp := fun _ => True) ?hr ?hp (fun _ hk => hk) trivial (Below.refl _ _) (Nat.le_refl _) (by simp) ?_; (case hd => rfl); (case hg => rfl); (case hr => first | (go_simp; done) | (go_simp; rfl)); (case hp => exact (Reps.none _ _)); intro v1 w1 ho hb hg_ hnew_; clear hg_ hnew_; have HO := Aside0.mk ho; have HB := Aside0.mk hb; clear ho hb) | ((with_reducible refine gate_builtin (b := .append) (xs := #[.tmp 5, .tmp 6]) rfl ?_); at_builtin; refine Kd.R_append_rows (Kd.int .i64) (w0 := w) w.heap.size rfl (.tmp 5) (.tmp 6) 39 3 (.int .i64 0) 8 rfl Try.underlying39 info3 rfl (by decide) (by omega) v1 [] l _ _ _ (fun _ => True) (fun _ => False) rfl rfl ?aO ?aR (fun _ _ h => h) (fun _ h => h.elim) (fun _ _ => trivial) ?aB ?aS ?aL ?_; (case aR => exact Kd.C_below HR.out HB.out); (case aB => exact HB.out); (case aO => exact HO.out); (case aS => exact below_size HB.out); (case aL => have := HS.out; simp; omega); intro v2 w2 ho hb hg hat; clear hg hat; have HO2 := Aside0.mk ho; have HB2 := Aside0.mk hb; clear ho hb))
    go_ret
    exact ⟨_, rfl, HO2.out, HB2.out⟩
def status.T1 : Bool × List (List Nat × List Nat) := (true, [([], []), ([0], [0]), ([], []), ([2], [2]), ([3], [3]), ([], []), ([], []), ([5, 6, 4], [5, 6]), ([], []), ([8], [8]), ([1, 4, 7, 9], [1, 4, 7, 9]), ([10, 7, 0, 1, 2, 3, 4, 5, 6, 7, 8, 9, 10], [10])])
def status.B1 : List Nat := [0, 1, 0, 4, 12, 0, 0, 124, 0, 256, 1023, 2047]
theorem status.tab1 : rtab .any (opsOf Try.f45 1) = status.T1 := by kernel_rfl
theorem status.bits1 : waitsOk status.T1.2 status.B1 = true := by kernel_rfl
set_option maxHeartbeats 8000000 in
theorem status_calls {base : Nat} {P : Nat → Prop} {pb pm : Nat} {ve : Value} {B : Bk} (x : S68) (A12 : Option Addr) (c12 : Nat) (w : World) (hB : BAt base P pb ve pm w B) (hr : Kd.C (Kd.int .i64) w A12 x.f1.length x.f1) (hc : x.f1.length ≤ c12) (hwf : ∀ n ∈ x.f1, (Lit.int .i64 n).wf = true) (hl : x.f1.length < 1000) :
    Calls Try.prog 45 #[.pointer (some ⟨pb, 0, none⟩), .agg #[.int .i64 x.f0.f0, .int .i64 x.f0.f1, .int .i64 x.f0.f2, .int .i64 x.f0.f3, .int .i64 x.f0.f4, .int .i64 x.f0.f5, .int .i64 x.f0.f6, .int .i64 x.f0.f7, .int .i64 x.f0.f8, .int .i64 x.f0.f9, .int .i64 x.f0.f10, .int .i64 x.f0.f11, .slice A12 x.f1.length c12, .bool x.f2]] w fun e w' => ∃ v12 v13, e = .returned (.agg #[.int .i64 x.f0.f0, .int .i64 x.f0.f1, .int .i64 x.f0.f2, .int .i64 x.f0.f3, .int .i64 x.f0.f4, .int .i64 x.f0.f5, .int .i64 x.f0.f6, .int .i64 x.f0.f7, .int .i64 x.f0.f8, .int .i64 x.f0.f9, .int .i64 x.f0.f10, .int .i64 x.f0.f11, v12, v13, .bool x.f2]) ∧ Kd.R (Kd.int .i64) 3 w' w.heap.size (fun k => some k ≠ v13.ownBlock) v12 x.f1 ∧ Kd.R (Kd.int .i64) 3 w' w.heap.size (fun k => some k ≠ v12.ownBlock) v13 (shipL B.asg x.f1) ∧ Below w.heap.size w w' := by
  have hu61 := Try.underlying61
  have hu68 := Try.underlying68
  have hu41 := Try.underlying41
  have HR0 := Aside0.mk hr
  have HC0 := Aside0.mk hc
  have HBA := Aside0.mk hB
  have HWF := Aside0.mk hwf
  have HL := Aside0.mk hl
  have HB := Aside0.mk (Below.refl w.heap.size w)
  clear hr hc hB hwf hl
  go_enter Try.func45, Try.ntmps45
  go_wp2_with (first | ((with_reducible refine gate_dst (N := 3) rfl ?_); refine box_event ?hg (N := 3) ?hd (cs := #[.int .i64 x.f0.f0, .int .i64 x.f0.f1, .int .i64 x.f0.f2, .int .i64 x.f0.f3, .int .i64 x.f0.f4, .int .i64 x.f0.f5, .int .i64 x.f0.f6, .int .i64 x.f0.f7, .int .i64 x.f0.f8, .int .i64 x.f0.f9, .int .i64 x.f0.f10, .int .i64 x.f0.f11, .slice A12 x.f1.length c12, .bool x.f2]) (t := 68) ?hr ?_; (case hd => rfl); (case hg => rfl); (case hr => first | (go_simp; done) | (go_simp; rfl)); intro Mg1 hg_ Mw2 hbox_ hb_; have MB3 := Aside0.mk hbox_; have MG4 : Aside0 (w.heap.size ≤ Mg1) := ⟨by rw [hg_]; exact below_size HB.out⟩; have MH5 := Aside0.mk (below_step HB.out hb_); clear hbox_ hb_ hg_; have Mx6 : Mw2.cell? ⟨Mg1, 0, none⟩ = some (.int .i64 x.f0.f0) := (blk_cell MB3.out 0).trans rfl; have Mz7 := blk_frozen MB3.out 0; have Mx8 : Mw2.cell? ⟨Mg1, 1, none⟩ = some (.int .i64 x.f0.f1) := (blk_cell MB3.out 1).trans rfl; have Mz9 := blk_frozen MB3.out 1; have Mx10 : Mw2.cell? ⟨Mg1, 2, none⟩ = some (.int .i64 x.f0.f2) := (blk_cell MB3.out 2).trans rfl; have Mz11 := blk_frozen MB3.out 2; have Mx12 : Mw2.cell? ⟨Mg1, 3, none⟩ = some (.int .i64 x.f0.f3) := (blk_cell MB3.out 3).trans rfl; have Mz13 := blk_frozen MB3.out 3; have Mx14 : Mw2.cell? ⟨Mg1, 4, none⟩ = some (.int .i64 x.f0.f4) := (blk_cell MB3.out 4).trans rfl; have Mz15 := blk_frozen MB3.out 4; have Mx16 : Mw2.cell? ⟨Mg1, 5, none⟩ = some (.int .i64 x.f0.f5) := (blk_cell MB3.out 5).trans rfl; have Mz17 := blk_frozen MB3.out 5; have Mx18 : Mw2.cell? ⟨Mg1, 6, none⟩ = some (.int .i64 x.f0.f6) := (blk_cell MB3.out 6).trans rfl; have Mz19 := blk_frozen MB3.out 6; have Mx20 : Mw2.cell? ⟨Mg1, 7, none⟩ = some (.int .i64 x.f0.f7) := (blk_cell MB3.out 7).trans rfl; have Mz21 := blk_frozen MB3.out 7; have Mx22 : Mw2.cell? ⟨Mg1, 8, none⟩ = some (.int .i64 x.f0.f8) := (blk_cell MB3.out 8).trans rfl; have Mz23 := blk_frozen MB3.out 8; have Mx24 : Mw2.cell? ⟨Mg1, 9, none⟩ = some (.int .i64 x.f0.f9) := (blk_cell MB3.out 9).trans rfl; have Mz25 := blk_frozen MB3.out 9; have Mx26 : Mw2.cell? ⟨Mg1, 10, none⟩ = some (.int .i64 x.f0.f10) := (blk_cell MB3.out 10).trans rfl; have Mz27 := blk_frozen MB3.out 10; have Mx28 : Mw2.cell? ⟨Mg1, 11, none⟩ = some (.int .i64 x.f0.f11) := (blk_cell MB3.out 11).trans rfl; have Mz29 := blk_frozen MB3.out 11; have Mx30 : Mw2.cell? ⟨Mg1, 12, none⟩ = some (.slice A12 x.f1.length c12) := (blk_cell MB3.out 12).trans rfl; have Mz31 := blk_frozen MB3.out 12; have Mx32 : Mw2.cell? ⟨Mg1, 13, none⟩ = some (.bool x.f2) := (blk_cell MB3.out 13).trans rfl; have Mz33 := blk_frozen MB3.out 13) | ((with_reducible refine gate_dst (N := 4) rfl ?_); refine box_event ?hg (N := 4) ?hd (cs := #[.int .i64 0, .int .i64 0, .int .i64 0, .int .i64 0, .int .i64 0, .int .i64 0, .int .i64 0, .int .i64 0, .int .i64 0, .int .i64 0, .int .i64 0, .int .i64 0, .slice none 0 0, .slice none 0 0, .bool false]) (t := 41) ?hr ?_; (case hd => rfl); (case hg => rfl); (case hr => first | (go_simp; done) | (go_simp; rfl)); intro Mg34 hg_ Mw35 hbox_ hb_; have MB36 := Aside0.mk hbox_; have MG37 : Aside0 (w.heap.size ≤ Mg34) := ⟨by rw [hg_]; exact below_size MH5.out⟩; have MN38 : Aside0 (Mg1 ≠ Mg34) := ⟨by rw [hg_]; exact Nat.ne_of_lt (blk_lt MB3.out)⟩; have MB39 := Aside0.mk (blk_below MB3.out hb_); have MH40 := Aside0.mk (below_step MH5.out hb_); clear hbox_ hb_ hg_; clear Mx6 Mz7 Mx8 Mz9 Mx10 Mz11 Mx12 Mz13 Mx14 Mz15 Mx16 Mz17 Mx18 Mz19 Mx20 Mz21 Mx22 Mz23 Mx24 Mz25 Mx26 Mz27 Mx28 Mz29 Mx30 Mz31 Mx32 Mz33; have Mx41 : Mw35.cell? ⟨Mg1, 0, none⟩ = some (.int .i64 x.f0.f0) := (blk_cell MB39.out 0).trans rfl; have Mz42 := blk_frozen MB39.out 0; have Mx43 : Mw35.cell? ⟨Mg1, 1, none⟩ = some (.int .i64 x.f0.f1) := (blk_cell MB39.out 1).trans rfl; have Mz44 := blk_frozen MB39.out 1; have Mx45 : Mw35.cell? ⟨Mg1, 2, none⟩ = some (.int .i64 x.f0.f2) := (blk_cell MB39.out 2).trans rfl; have Mz46 := blk_frozen MB39.out 2; have Mx47 : Mw35.cell? ⟨Mg1, 3, none⟩ = some (.int .i64 x.f0.f3) := (blk_cell MB39.out 3).trans rfl; have Mz48 := blk_frozen MB39.out 3; have Mx49 : Mw35.cell? ⟨Mg1, 4, none⟩ = some (.int .i64 x.f0.f4) := (blk_cell MB39.out 4).trans rfl; have Mz50 := blk_frozen MB39.out 4; have Mx51 : Mw35.cell? ⟨Mg1, 5, none⟩ = some (.int .i64 x.f0.f5) := (blk_cell MB39.out 5).trans rfl; have Mz52 := blk_frozen MB39.out 5; have Mx53 : Mw35.cell? ⟨Mg1, 6, none⟩ = some (.int .i64 x.f0.f6) := (blk_cell MB39.out 6).trans rfl; have Mz54 := blk_frozen MB39.out 6; have Mx55 : Mw35.cell? ⟨Mg1, 7, none⟩ = some (.int .i64 x.f0.f7) := (blk_cell MB39.out 7).trans rfl; have Mz56 := blk_frozen MB39.out 7; have Mx57 : Mw35.cell? ⟨Mg1, 8, none⟩ = some (.int .i64 x.f0.f8) := (blk_cell MB39.out 8).trans rfl; have Mz58 := blk_frozen MB39.out 8; have Mx59 : Mw35.cell? ⟨Mg1, 9, none⟩ = some (.int .i64 x.f0.f9) := (blk_cell MB39.out 9).trans rfl; have Mz60 := blk_frozen MB39.out 9; have Mx61 : Mw35.cell? ⟨Mg1, 10, none⟩ = some (.int .i64 x.f0.f10) := (blk_cell MB39.out 10).trans rfl; have Mz62 := blk_frozen MB39.out 10; have Mx63 : Mw35.cell? ⟨Mg1, 11, none⟩ = some (.int .i64 x.f0.f11) := (blk_cell MB39.out 11).trans rfl; have Mz64 := blk_frozen MB39.out 11; have Mx65 : Mw35.cell? ⟨Mg1, 12, none⟩ = some (.slice A12 x.f1.length c12) := (blk_cell MB39.out 12).trans rfl; have Mz66 := blk_frozen MB39.out 12; have Mx67 : Mw35.cell? ⟨Mg1, 13, none⟩ = some (.bool x.f2) := (blk_cell MB39.out 13).trans rfl; have Mz68 := blk_frozen MB39.out 13; have Mx69 : Mw35.cell? ⟨Mg34, 0, none⟩ = some (.int .i64 0) := (blk_cell MB36.out 0).trans rfl; have Mz70 := blk_frozen MB36.out 0; have Mx71 : Mw35.cell? ⟨Mg34, 1, none⟩ = some (.int .i64 0) := (blk_cell MB36.out 1).trans rfl; have Mz72 := blk_frozen MB36.out 1; have Mx73 : Mw35.cell? ⟨Mg34, 2, none⟩ = some (.int .i64 0) := (blk_cell MB36.out 2).trans rfl; have Mz74 := blk_frozen MB36.out 2; have Mx75 : Mw35.cell? ⟨Mg34, 3, none⟩ = some (.int .i64 0) := (blk_cell MB36.out 3).trans rfl; have Mz76 := blk_frozen MB36.out 3; have Mx77 : Mw35.cell? ⟨Mg34, 4, none⟩ = some (.int .i64 0) := (blk_cell MB36.out 4).trans rfl; have Mz78 := blk_frozen MB36.out 4; have Mx79 : Mw35.cell? ⟨Mg34, 5, none⟩ = some (.int .i64 0) := (blk_cell MB36.out 5).trans rfl; have Mz80 := blk_frozen MB36.out 5; have Mx81 : Mw35.cell? ⟨Mg34, 6, none⟩ = some (.int .i64 0) := (blk_cell MB36.out 6).trans rfl; have Mz82 := blk_frozen MB36.out 6; have Mx83 : Mw35.cell? ⟨Mg34, 7, none⟩ = some (.int .i64 0) := (blk_cell MB36.out 7).trans rfl; have Mz84 := blk_frozen MB36.out 7; have Mx85 : Mw35.cell? ⟨Mg34, 8, none⟩ = some (.int .i64 0) := (blk_cell MB36.out 8).trans rfl; have Mz86 := blk_frozen MB36.out 8; have Mx87 : Mw35.cell? ⟨Mg34, 9, none⟩ = some (.int .i64 0) := (blk_cell MB36.out 9).trans rfl; have Mz88 := blk_frozen MB36.out 9; have Mx89 : Mw35.cell? ⟨Mg34, 10, none⟩ = some (.int .i64 0) := (blk_cell MB36.out 10).trans rfl; have Mz90 := blk_frozen MB36.out 10; have Mx91 : Mw35.cell? ⟨Mg34, 11, none⟩ = some (.int .i64 0) := (blk_cell MB36.out 11).trans rfl; have Mz92 := blk_frozen MB36.out 11; have Mx93 : Mw35.cell? ⟨Mg34, 12, none⟩ = some (.slice none 0 0) := (blk_cell MB36.out 12).trans rfl; have Mz94 := blk_frozen MB36.out 12; have Mx95 : Mw35.cell? ⟨Mg34, 13, none⟩ = some (.slice none 0 0) := (blk_cell MB36.out 13).trans rfl; have Mz96 := blk_frozen MB36.out 13; have Mx97 : Mw35.cell? ⟨Mg34, 14, none⟩ = some (.bool false) := (blk_cell MB36.out 14).trans rfl; have Mz98 := blk_frozen MB36.out 14))
  refine start_ (n := 12) (S := fun w' => w'.cell? ⟨Mg1, 0, none⟩ = some (.int .i64 x.f0.f0) ∧ w'.cell? ⟨Mg1, 1, none⟩ = some (.int .i64 x.f0.f1) ∧ w'.cell? ⟨Mg1, 2, none⟩ = some (.int .i64 x.f0.f2) ∧ w'.cell? ⟨Mg1, 3, none⟩ = some (.int .i64 x.f0.f3) ∧ w'.cell? ⟨Mg1, 4, none⟩ = some (.int .i64 x.f0.f4) ∧ w'.cell? ⟨Mg1, 5, none⟩ = some (.int .i64 x.f0.f5) ∧ w'.cell? ⟨Mg1, 6, none⟩ = some (.int .i64 x.f0.f6) ∧ w'.cell? ⟨Mg1, 7, none⟩ = some (.int .i64 x.f0.f7) ∧ w'.cell? ⟨Mg1, 8, none⟩ = some (.int .i64 x.f0.f8) ∧ w'.cell? ⟨Mg1, 9, none⟩ = some (.int .i64 x.f0.f9) ∧ w'.cell? ⟨Mg1, 10, none⟩ = some (.int .i64 x.f0.f10) ∧ w'.cell? ⟨Mg1, 11, none⟩ = some (.int .i64 x.f0.f11) ∧ w'.cell? ⟨Mg1, 12, none⟩ = some (.slice A12 x.f1.length c12) ∧ w'.cell? ⟨Mg1, 13, none⟩ = some (.bool x.f2)) (ds := [11]) #[false, false, false, false, false, false, false, false, false, false, false, false] (by kernel_rfl) rfl rfl ⟨(blk_cell MB39.out 0).trans rfl, (blk_cell MB39.out 1).trans rfl, (blk_cell MB39.out 2).trans rfl, (blk_cell MB39.out 3).trans rfl, (blk_cell MB39.out 4).trans rfl, (blk_cell MB39.out 5).trans rfl, (blk_cell MB39.out 6).trans rfl, (blk_cell MB39.out 7).trans rfl, (blk_cell MB39.out 8).trans rfl, (blk_cell MB39.out 9).trans rfl, (blk_cell MB39.out 10).trans rfl, (blk_cell MB39.out 11).trans rfl, (blk_cell MB39.out 12).trans rfl, (blk_cell MB39.out 13).trans rfl⟩ (fun hHeld => ?_); refine with_tabW status.tab1 status.bits1 (fun HT_ HW_ => ?_)
  have HB1 := Aside0.mk (below_drew1 MH40.out); have HS1 := Aside0.mk (blk_drew MB36.out); generalize Mw35.drew = w1 at HB1 HS1 hHeld ⊢
  refine pure_ (i := 0) (N := some 5) (v := ?_) (a' := ?_) #[true, false, false, false, false, false, false, false, false, false, false, false] rfl rfl (any_of HT_.out (by kernel_rfl)) (fun _ _ _ h => h) (Or.inl ⟨by rfl, ?_⟩) ?_ ?_
  rotate_left
  · intro w'
    go_simp
    with_reducible rfl
  rotate_left
  · simp only [Act.put, List.setIfInBounds_toArray, List.set_cons_zero, List.set_cons_succ, i64_w, i32_w]
    rfl
  refine pure_ (i := 2) (N := some 7) (v := ?_) (a' := ?_) #[true, false, true, false, false, false, false, false, false, false, false, false] rfl rfl (any_of HT_.out (by kernel_rfl)) (fun _ _ _ h => h) (Or.inl ⟨by rfl, ?_⟩) ?_ ?_
  rotate_left
  · intro w'
    go_simp
    with_reducible rfl
  rotate_left
  · simp only [Act.put, List.setIfInBounds_toArray, List.set_cons_zero, List.set_cons_succ, i64_w, i32_w]
    rfl
  refine pure_ (i := 5) (N := some 10) (v := ?_) (a' := ?_) #[true, false, true, false, false, true, false, false, false, false, false, false] rfl rfl (any_of HT_.out (by kernel_rfl)) (fun _ _ _ h => h) (Or.inl ⟨by rfl, ?_⟩) ?_ ?_
  rotate_left
  · intro w'
    go_simp
    with_reducible rfl
  rotate_left
  · simp only [Act.put, List.setIfInBounds_toArray, List.set_cons_zero, List.set_cons_succ, i64_w, i32_w]
    rfl
  refine pure_ (i := 8) (N := some 13) (v := ?_) (a' := ?_) #[true, false, true, false, false, true, false, false, true, false, false, false] rfl rfl (any_of HT_.out (by kernel_rfl)) (fun _ _ _ h => h) (Or.inl ⟨by rfl, ?_⟩) ?_ ?_
  rotate_left
  · intro w'
    go_simp
    with_reducible rfl
  rotate_left
  · simp only [Act.put, List.setIfInBounds_toArray, List.set_cons_zero, List.set_cons_succ, i64_w, i32_w]
    rfl
  refine take_ (i := 1) (N := some 6) (v := ?_) (a' := ?_) #[true, true, true, false, false, true, false, false, true, false, false, false] rfl rfl (take_ofW HT_.out HW_.out (by kernel_rfl)) (fun _ _ _ h => h) (Or.inl ⟨by rfl, ?_⟩) hHeld ?_ ?_
  rotate_left
  · rintro w' ⟨s0, s1, s2, s3, s4, s5, s6, s7, s8, s9, s10, s11, s12, s13⟩
    go_simp
    with_reducible rfl
  rotate_left
  · simp only [Act.put, List.setIfInBounds_toArray, List.set_cons_zero, List.set_cons_succ, i64_w, i32_w]
    rfl
  refine take_ (i := 3) (N := some 8) (v := ?_) (a' := ?_) #[true, true, true, true, false, true, false, false, true, false, false, false] rfl rfl (take_ofW HT_.out HW_.out (by kernel_rfl)) (fun _ _ _ h => h) (Or.inl ⟨by rfl, ?_⟩) hHeld ?_ ?_
  rotate_left
  · rintro w' ⟨s0, s1, s2, s3, s4, s5, s6, s7, s8, s9, s10, s11, s12, s13⟩
    go_simp
    with_reducible rfl
  rotate_left
  · simp only [Act.put, List.setIfInBounds_toArray, List.set_cons_zero, List.set_cons_succ, i64_w, i32_w]
    rfl
  refine take_ (i := 6) (N := some 11) (v := ?_) (a' := ?_) #[true, true, true, true, false, true, true, false, true, false, false, false] rfl rfl (take_ofW HT_.out HW_.out (by kernel_rfl)) (fun _ _ _ h => h) (Or.inl ⟨by rfl, ?_⟩) hHeld ?_ ?_
  rotate_left
  · rintro w' ⟨s0, s1, s2, s3, s4, s5, s6, s7, s8, s9, s10, s11, s12, s13⟩
    go_simp
    with_reducible rfl
  rotate_left
  · simp only [Act.put, List.setIfInBounds_toArray, List.set_cons_zero, List.set_cons_succ, i64_w, i32_w]
    rfl
  refine take_ (i := 9) (N := some 14) (v := ?_) (a' := ?_) #[true, true, true, true, false, true, true, false, true, true, false, false] rfl rfl (take_ofW HT_.out HW_.out (by kernel_rfl)) (fun _ _ _ h => h) (Or.inl ⟨by rfl, ?_⟩) hHeld ?_ ?_
  rotate_left
  · rintro w' ⟨s0, s1, s2, s3, s4, s5, s6, s7, s8, s9, s10, s11, s12, s13⟩
    go_simp
    with_reducible rfl
  rotate_left
  · simp only [Act.put, List.setIfInBounds_toArray, List.set_cons_zero, List.set_cons_succ, i64_w, i32_w]
    rfl
  refine one_ (i := 4) (N := some 9) #[true, true, true, true, true, true, true, false, true, true, false, false] rfl rfl (one_of HT_.out (by kernel_rfl)) (by decide) (fun K hK => ?_)
  refine goes_ Try.func50 (by kernel_rfl) rfl #[.slice A12 x.f1.length c12] (by rfl) rfl rfl (by simp only [List.map_toArray, List.map_cons, List.map_nil]; rfl) ?_
  with_reducible refine (clone_calls A12 c12 x.f1 _ (Kd.C_below HR0.out HB1.out) HC0.out HL.out).mono ?_
  rintro e w3 ⟨v12, rfl, ho, hb⟩
  refine ⟨_, rfl, ?_⟩
  obtain ⟨A3_, c3_, e3_⟩ := Kd.R_slice ho
  subst e3_
  have HO12 := Aside0.mk ho
  have HB12 := Aside0.mk hb
  refine hK.out _ _ ⟨(hb.cell (World.block_lt_of_cell? _ _ (hHeld.1))).trans (hHeld.1), (hb.cell (World.block_lt_of_cell? _ _ (hHeld.2.1))).trans (hHeld.2.1), (hb.cell (World.block_lt_of_cell? _ _ (hHeld.2.2.1))).trans (hHeld.2.2.1), (hb.cell (World.block_lt_of_cell? _ _ (hHeld.2.2.2.1))).trans (hHeld.2.2.2.1), (hb.cell (World.block_lt_of_cell? _ _ (hHeld.2.2.2.2.1))).trans (hHeld.2.2.2.2.1), (hb.cell (World.block_lt_of_cell? _ _ (hHeld.2.2.2.2.2.1))).trans (hHeld.2.2.2.2.2.1), (hb.cell (World.block_lt_of_cell? _ _ (hHeld.2.2.2.2.2.2.1))).trans (hHeld.2.2.2.2.2.2.1), (hb.cell (World.block_lt_of_cell? _ _ (hHeld.2.2.2.2.2.2.2.1))).trans (hHeld.2.2.2.2.2.2.2.1), (hb.cell (World.block_lt_of_cell? _ _ (hHeld.2.2.2.2.2.2.2.2.1))).trans (hHeld.2.2.2.2.2.2.2.2.1), (hb.cell (World.block_lt_of_cell? _ _ (hHeld.2.2.2.2.2.2.2.2.2.1))).trans (hHeld.2.2.2.2.2.2.2.2.2.1), (hb.cell (World.block_lt_of_cell? _ _ (hHeld.2.2.2.2.2.2.2.2.2.2.1))).trans (hHeld.2.2.2.2.2.2.2.2.2.2.1), (hb.cell (World.block_lt_of_cell? _ _ (hHeld.2.2.2.2.2.2.2.2.2.2.2.1))).trans (hHeld.2.2.2.2.2.2.2.2.2.2.2.1), (hb.cell (World.block_lt_of_cell? _ _ (hHeld.2.2.2.2.2.2.2.2.2.2.2.2.1))).trans (hHeld.2.2.2.2.2.2.2.2.2.2.2.2.1), (hb.cell (World.block_lt_of_cell? _ _ (hHeld.2.2.2.2.2.2.2.2.2.2.2.2.2))).trans (hHeld.2.2.2.2.2.2.2.2.2.2.2.2.2)⟩ (fun hHeld => ?_)
  clear hK K
  refine norm_ (a' := ?_) ?_ ?_
  rotate_left
  · show Act.put _ (some 9) _ = _
    simp only [Act.put, List.setIfInBounds_toArray, List.set_cons_zero, List.set_cons_succ, i64_w, i32_w]
    rfl
  refine one_ (i := 7) (N := some 12) #[true, true, true, true, true, true, true, true, true, true, false, false] rfl rfl (one_of HT_.out (by kernel_rfl)) (by decide) (fun K hK => ?_)
  refine goes_ Try.func54 (by kernel_rfl) rfl #[.pointer (some ⟨pb, 0, none⟩), .agg #[.int .i64 x.f0.f0, .int .i64 x.f0.f1, .int .i64 x.f0.f2, .int .i64 x.f0.f3, .int .i64 x.f0.f4, .int .i64 x.f0.f5, .int .i64 x.f0.f6, .int .i64 x.f0.f7, .int .i64 x.f0.f8, .int .i64 x.f0.f9, .int .i64 x.f0.f10, .int .i64 x.f0.f11, .slice A12 x.f1.length c12, .bool x.f2]] (by rfl) rfl rfl (by simp only [List.map_toArray, List.map_cons, List.map_nil]; rfl) ?_
  with_reducible refine (shipped_calls x A12 c12 _ ((HBA.out.below HB1.out).below HB12.out) (Kd.C_below (Kd.C_below HR0.out HB1.out) HB12.out) HWF.out (by have := HL.out; omega)).mono ?_
  rintro e w4 ⟨v13, rfl, ho, hb⟩
  refine ⟨_, rfl, ?_⟩
  obtain ⟨A4_, c4_, e4_⟩ := Kd.R_slice ho
  subst e4_
  have HO13 := Aside0.mk ho
  have HB13 := Aside0.mk hb
  have HS4 := Aside0.mk (blk_below (blk_below HS1.out HB12.out) hb)
  have hx0 : w4.cell? ⟨Mg34, 0, none⟩ = some (.int .i64 0) := (blk_cell HS4.out 0).trans rfl
  have hx1 : w4.cell? ⟨Mg34, 1, none⟩ = some (.int .i64 0) := (blk_cell HS4.out 1).trans rfl
  have hx2 : w4.cell? ⟨Mg34, 2, none⟩ = some (.int .i64 0) := (blk_cell HS4.out 2).trans rfl
  have hx3 : w4.cell? ⟨Mg34, 3, none⟩ = some (.int .i64 0) := (blk_cell HS4.out 3).trans rfl
  have hx4 : w4.cell? ⟨Mg34, 4, none⟩ = some (.int .i64 0) := (blk_cell HS4.out 4).trans rfl
  have hx5 : w4.cell? ⟨Mg34, 5, none⟩ = some (.int .i64 0) := (blk_cell HS4.out 5).trans rfl
  have hx6 : w4.cell? ⟨Mg34, 6, none⟩ = some (.int .i64 0) := (blk_cell HS4.out 6).trans rfl
  have hx7 : w4.cell? ⟨Mg34, 7, none⟩ = some (.int .i64 0) := (blk_cell HS4.out 7).trans rfl
  have hx8 : w4.cell? ⟨Mg34, 8, none⟩ = some (.int .i64 0) := (blk_cell HS4.out 8).trans rfl
  have hx9 : w4.cell? ⟨Mg34, 9, none⟩ = some (.int .i64 0) := (blk_cell HS4.out 9).trans rfl
  have hx10 : w4.cell? ⟨Mg34, 10, none⟩ = some (.int .i64 0) := (blk_cell HS4.out 10).trans rfl
  have hx11 : w4.cell? ⟨Mg34, 11, none⟩ = some (.int .i64 0) := (blk_cell HS4.out 11).trans rfl
  have hx12 : w4.cell? ⟨Mg34, 12, none⟩ = some (.slice none 0 0) := (blk_cell HS4.out 12).trans rfl
  have hx13 : w4.cell? ⟨Mg34, 13, none⟩ = some (.slice none 0 0) := (blk_cell HS4.out 13).trans rfl
  have hx14 : w4.cell? ⟨Mg34, 14, none⟩ = some (.bool false) := (blk_cell HS4.out 14).trans rfl
  have hz0 := blk_frozen HS4.out 0
  have hz1 := blk_frozen HS4.out 1
  have hz2 := blk_frozen HS4.out 2
  have hz3 := blk_frozen HS4.out 3
  have hz4 := blk_frozen HS4.out 4
  have hz5 := blk_frozen HS4.out 5
  have hz6 := blk_frozen HS4.out 6
  have hz7 := blk_frozen HS4.out 7
  have hz8 := blk_frozen HS4.out 8
  have hz9 := blk_frozen HS4.out 9
  have hz10 := blk_frozen HS4.out 10
  have hz11 := blk_frozen HS4.out 11
  have hz12 := blk_frozen HS4.out 12
  have hz13 := blk_frozen HS4.out 13
  have hz14 := blk_frozen HS4.out 14
  refine hK.out _ _ ⟨(hb.cell (World.block_lt_of_cell? _ _ (hHeld.1))).trans (hHeld.1), (hb.cell (World.block_lt_of_cell? _ _ (hHeld.2.1))).trans (hHeld.2.1), (hb.cell (World.block_lt_of_cell? _ _ (hHeld.2.2.1))).trans (hHeld.2.2.1), (hb.cell (World.block_lt_of_cell? _ _ (hHeld.2.2.2.1))).trans (hHeld.2.2.2.1), (hb.cell (World.block_lt_of_cell? _ _ (hHeld.2.2.2.2.1))).trans (hHeld.2.2.2.2.1), (hb.cell (World.block_lt_of_cell? _ _ (hHeld.2.2.2.2.2.1))).trans (hHeld.2.2.2.2.2.1), (hb.cell (World.block_lt_of_cell? _ _ (hHeld.2.2.2.2.2.2.1))).trans (hHeld.2.2.2.2.2.2.1), (hb.cell (World.block_lt_of_cell? _ _ (hHeld.2.2.2.2.2.2.2.1))).trans (hHeld.2.2.2.2.2.2.2.1), (hb.cell (World.block_lt_of_cell? _ _ (hHeld.2.2.2.2.2.2.2.2.1))).trans (hHeld.2.2.2.2.2.2.2.2.1), (hb.cell (World.block_lt_of_cell? _ _ (hHeld.2.2.2.2.2.2.2.2.2.1))).trans (hHeld.2.2.2.2.2.2.2.2.2.1), (hb.cell (World.block_lt_of_cell? _ _ (hHeld.2.2.2.2.2.2.2.2.2.2.1))).trans (hHeld.2.2.2.2.2.2.2.2.2.2.1), (hb.cell (World.block_lt_of_cell? _ _ (hHeld.2.2.2.2.2.2.2.2.2.2.2.1))).trans (hHeld.2.2.2.2.2.2.2.2.2.2.2.1), (hb.cell (World.block_lt_of_cell? _ _ (hHeld.2.2.2.2.2.2.2.2.2.2.2.2.1))).trans (hHeld.2.2.2.2.2.2.2.2.2.2.2.2.1), (hb.cell (World.block_lt_of_cell? _ _ (hHeld.2.2.2.2.2.2.2.2.2.2.2.2.2))).trans (hHeld.2.2.2.2.2.2.2.2.2.2.2.2.2)⟩ (fun hHeld => ?_)
  clear hK K
  refine norm_ (a' := ?_) ?_ ?_
  rotate_left
  · show Act.put _ (some 12) _ = _
    simp only [Act.put, List.setIfInBounds_toArray, List.set_cons_zero, List.set_cons_succ, i64_w, i32_w]
    rfl
  refine pure_ (i := 10) (N := some 15) (v := ?_) (a' := ?_) #[true, true, true, true, true, true, true, true, true, true, true, false] rfl rfl (any_of HT_.out (by kernel_rfl)) (fun _ _ _ h => h) (Or.inl ⟨by rfl, ?_⟩) ?_ ?_
  rotate_left
  · intro w'
    go_simp
    with_reducible rfl
  rotate_left
  · simp only [Act.put, List.setIfInBounds_toArray, List.set_cons_zero, List.set_cons_succ, i64_w, i32_w]
    rfl
  refine last_ (i := 11) (N := none) #[true, true, true, true, true, true, true, true, true, true, true, true] rfl rfl (one_of HT_.out (by kernel_rfl)) (by decide) (fun K hK => ?_)
  refine skip_ (w1 := ?_) (by rfl) rfl ?_ ?_
  rotate_left
  · go_simp
    rfl
  refine hK.out _ _ ?_
  clear hK K
  refine done_ (done_of HT_.out (by kernel_rfl)) ?_
  have q := blk_full HS4.out [.int .i64 x.f0.f0, .int .i64 x.f0.f1, .int .i64 x.f0.f2, .int .i64 x.f0.f3, .int .i64 x.f0.f4, .int .i64 x.f0.f5, .int .i64 x.f0.f6, .int .i64 x.f0.f7, .int .i64 x.f0.f8, .int .i64 x.f0.f9, .int .i64 x.f0.f10, .int .i64 x.f0.f11, .slice A3_ x.f1.length c3_, .slice A4_ (shipL B.asg x.f1).length c4_, .bool x.f2] rfl
  have hgs := blk_lt HS1.out
  go_wp2
  (try simp only [Exit.inBlock, Exit.then])
  refine bodyPost_ret (results_cell_row rfl _ _ Mg34 41 #[.int .i64 x.f0.f0, .int .i64 x.f0.f1, .int .i64 x.f0.f2, .int .i64 x.f0.f3, .int .i64 x.f0.f4, .int .i64 x.f0.f5, .int .i64 x.f0.f6, .int .i64 x.f0.f7, .int .i64 x.f0.f8, .int .i64 x.f0.f9, .int .i64 x.f0.f10, .int .i64 x.f0.f11, .slice A3_ x.f1.length c3_, .slice A4_ (shipL B.asg x.f1).length c4_, .bool x.f2] (0, 0) _ rfl q.1 Try.underlying41 rfl (by kernel_rfl)) rfl ?_
  refine ⟨_, _, rfl, ?_, ?_, ?_⟩
  · refine Kd.R_lower (Kd.R_mono (Kd.R_grown (Kd.R_below (Kd.R_bound HO12.out) HB13.out) q.2 (fun k hk e => by injection e with e; have := hk.2.1; omega)) (fun k hk e => by have := Kd.R_base HO13.out k e.symm; have := hk.2.2.1; omega)) (below_size HB1.out)
  · refine Kd.R_lower (Kd.R_mono (Kd.R_grown (Kd.R_bound HO13.out) q.2 (fun k hk e => by injection e with e; have := hk.2.1; have := below_size HB12.out; omega)) (fun k hk e => by have := Kd.R_lt HO12.out k e.symm; have := hk.2.1; omega)) (Nat.le_trans (below_size HB1.out) (below_size HB12.out))
  · exact (below_step (below_step HB1.out HB12.out) HB13.out).grown q.2 (below_size (below_step (below_step HB1.out HB12.out) HB13.out)) (fun k hk => by cases hk; exact MG37.out)
structure Bk.Ok (B : Bk) : Prop where
  es : B.es.length ≤ 1000
  n : B.n < 100000
  rolls : ∀ x ∈ B.es, x.f1.length < 1000 ∧ ∀ n ∈ x.f1, (Lit.int .i64 n).wf = true
def Bk.stat (B : Bk) (x : S68) : S41 := ⟨x.f0, x.f1, shipL B.asg x.f1, x.f2⟩
def Bk.Status (B : Bk) (id : Int) : S41 × Int := if B.find id < 0 then (z41, 7) else (B.stat (rd_T68 B.es (B.find id)), 0)
theorem rd68_mem {l : List S68} {k : Int} (h0 : 0 ≤ k) (h1 : k < (l.length : Int)) : rd_T68 l k ∈ l := by
  have hk : k.toNat < l.length := by omega
  unfold rd_T68
  rw [List.getD_eq_getElem?_getD, List.getElem?_eq_getElem hk]
  exact List.getElem_mem hk
set_option maxHeartbeats 8000000 in
theorem Status_calls {base : Nat} {P : Nat → Prop} {pb pm : Nat} {ve : Value} {B : Bk} (id : Int) (w : World) (hB : BAt base P pb ve pm w B) (hok : B.Ok) :
    Calls Try.prog 20 #[.pointer (some ⟨pb, 0, none⟩), .int .i64 id] w fun e w' => ∃ v12 v13, e = .returned (.tuple #[.agg #[.int .i64 (B.Status id).1.f0.f0, .int .i64 (B.Status id).1.f0.f1, .int .i64 (B.Status id).1.f0.f2, .int .i64 (B.Status id).1.f0.f3, .int .i64 (B.Status id).1.f0.f4, .int .i64 (B.Status id).1.f0.f5, .int .i64 (B.Status id).1.f0.f6, .int .i64 (B.Status id).1.f0.f7, .int .i64 (B.Status id).1.f0.f8, .int .i64 (B.Status id).1.f0.f9, .int .i64 (B.Status id).1.f0.f10, .int .i64 (B.Status id).1.f0.f11, v12, v13, .bool (B.Status id).1.f3], .int .i64 (B.Status id).2]) ∧ Kd.R (Kd.int .i64) 3 w' w.heap.size (fun k => some k ≠ v13.ownBlock) v12 (B.Status id).1.f1 ∧ Kd.R (Kd.int .i64) 3 w' w.heap.size (fun k => some k ≠ v12.ownBlock) v13 (B.Status id).1.f2 ∧ Below w.heap.size w w' := by
  have hu61 := Try.underlying61
  have hu68 := Try.underlying68
  have hu41 := Try.underlying41
  obtain ⟨A, c, rfl⟩ := hB.slice
  have HBA := Aside0.mk hB
  have HOK := Aside0.mk hok
  have hlt := find_lt B id
  have HB := Aside0.mk (Below.refl w.heap.size w)
  clear hB hok
  obtain ⟨k, hk⟩ : ∃ k, k = B.find id := ⟨_, rfl⟩
  have HK := Aside0.mk hk
  have ho : B.Status id = if k < 0 then (z41, 7) else (B.stat (rd_T68 B.es k), 0) := by rw [hk]; rfl
  rw [← hk] at hlt
  rw [ho]
  clear ho hk
  by_cases c1 : k < 0
  · rw [if_pos c1]
    have c1b : decide (k < 0) = true := decide_eq_true c1
    clear c1
    go_enter Try.func20, Try.ntmps20
    go_wp2_with (first | ((with_reducible refine gate_dst (N := 4) rfl ?_); refine box_event ?hg (N := 4) ?hd (cs := #[.int .i64 0, .int .i64 0, .int .i64 0, .int .i64 0, .int .i64 0, .int .i64 0, .int .i64 0, .int .i64 0, .int .i64 0, .int .i64 0, .int .i64 0, .int .i64 0, .slice none 0 0, .slice none 0 0, .bool false]) (t := 41) ?hr ?_; (case hd => rfl); (case hg => rfl); (case hr => first | (go_simp; done) | (go_simp; rfl)); intro Mg1 hg_ Mw2 hbox_ hb_; have MB3 := Aside0.mk hbox_; have MG4 : Aside0 (w.heap.size ≤ Mg1) := ⟨by rw [hg_]; exact below_size HB.out⟩; have MH5 := Aside0.mk (below_step HB.out hb_); clear hbox_ hb_ hg_; have Mx6 : Mw2.cell? ⟨Mg1, 0, none⟩ = some (.int .i64 0) := (blk_cell MB3.out 0).trans rfl; have Mz7 := blk_frozen MB3.out 0; have Mx8 : Mw2.cell? ⟨Mg1, 1, none⟩ = some (.int .i64 0) := (blk_cell MB3.out 1).trans rfl; have Mz9 := blk_frozen MB3.out 1; have Mx10 : Mw2.cell? ⟨Mg1, 2, none⟩ = some (.int .i64 0) := (blk_cell MB3.out 2).trans rfl; have Mz11 := blk_frozen MB3.out 2; have Mx12 : Mw2.cell? ⟨Mg1, 3, none⟩ = some (.int .i64 0) := (blk_cell MB3.out 3).trans rfl; have Mz13 := blk_frozen MB3.out 3; have Mx14 : Mw2.cell? ⟨Mg1, 4, none⟩ = some (.int .i64 0) := (blk_cell MB3.out 4).trans rfl; have Mz15 := blk_frozen MB3.out 4; have Mx16 : Mw2.cell? ⟨Mg1, 5, none⟩ = some (.int .i64 0) := (blk_cell MB3.out 5).trans rfl; have Mz17 := blk_frozen MB3.out 5; have Mx18 : Mw2.cell? ⟨Mg1, 6, none⟩ = some (.int .i64 0) := (blk_cell MB3.out 6).trans rfl; have Mz19 := blk_frozen MB3.out 6; have Mx20 : Mw2.cell? ⟨Mg1, 7, none⟩ = some (.int .i64 0) := (blk_cell MB3.out 7).trans rfl; have Mz21 := blk_frozen MB3.out 7; have Mx22 : Mw2.cell? ⟨Mg1, 8, none⟩ = some (.int .i64 0) := (blk_cell MB3.out 8).trans rfl; have Mz23 := blk_frozen MB3.out 8; have Mx24 : Mw2.cell? ⟨Mg1, 9, none⟩ = some (.int .i64 0) := (blk_cell MB3.out 9).trans rfl; have Mz25 := blk_frozen MB3.out 9; have Mx26 : Mw2.cell? ⟨Mg1, 10, none⟩ = some (.int .i64 0) := (blk_cell MB3.out 10).trans rfl; have Mz27 := blk_frozen MB3.out 10; have Mx28 : Mw2.cell? ⟨Mg1, 11, none⟩ = some (.int .i64 0) := (blk_cell MB3.out 11).trans rfl; have Mz29 := blk_frozen MB3.out 11; have Mx30 : Mw2.cell? ⟨Mg1, 12, none⟩ = some (.slice none 0 0) := (blk_cell MB3.out 12).trans rfl; have Mz31 := blk_frozen MB3.out 12; have Mx32 : Mw2.cell? ⟨Mg1, 13, none⟩ = some (.slice none 0 0) := (blk_cell MB3.out 13).trans rfl; have Mz33 := blk_frozen MB3.out 13; have Mx34 : Mw2.cell? ⟨Mg1, 14, none⟩ = some (.bool false) := (blk_cell MB3.out 14).trans rfl; have Mz35 := blk_frozen MB3.out 14) | (go_at_call 44; refine (find_calls id _ (HBA.out.below MH5.out)).mono ?_; rw [← HK.out]; rintro e Mw36 ⟨rfl, hb_⟩; have MB37 := Aside0.mk (blk_below MB3.out hb_); have MH38 := Aside0.mk (below_step MH5.out hb_); clear hb_; clear Mx6 Mz7 Mx8 Mz9 Mx10 Mz11 Mx12 Mz13 Mx14 Mz15 Mx16 Mz17 Mx18 Mz19 Mx20 Mz21 Mx22 Mz23 Mx24 Mz25 Mx26 Mz27 Mx28 Mz29 Mx30 Mz31 Mx32 Mz33 Mx34 Mz35; have Mx39 : Mw36.cell? ⟨Mg1, 0, none⟩ = some (.int .i64 0) := (blk_cell MB37.out 0).trans rfl; have Mz40 := blk_frozen MB37.out 0; have Mx41 : Mw36.cell? ⟨Mg1, 1, none⟩ = some (.int .i64 0) := (blk_cell MB37.out 1).trans rfl; have Mz42 := blk_frozen MB37.out 1; have Mx43 : Mw36.cell? ⟨Mg1, 2, none⟩ = some (.int .i64 0) := (blk_cell MB37.out 2).trans rfl; have Mz44 := blk_frozen MB37.out 2; have Mx45 : Mw36.cell? ⟨Mg1, 3, none⟩ = some (.int .i64 0) := (blk_cell MB37.out 3).trans rfl; have Mz46 := blk_frozen MB37.out 3; have Mx47 : Mw36.cell? ⟨Mg1, 4, none⟩ = some (.int .i64 0) := (blk_cell MB37.out 4).trans rfl; have Mz48 := blk_frozen MB37.out 4; have Mx49 : Mw36.cell? ⟨Mg1, 5, none⟩ = some (.int .i64 0) := (blk_cell MB37.out 5).trans rfl; have Mz50 := blk_frozen MB37.out 5; have Mx51 : Mw36.cell? ⟨Mg1, 6, none⟩ = some (.int .i64 0) := (blk_cell MB37.out 6).trans rfl; have Mz52 := blk_frozen MB37.out 6; have Mx53 : Mw36.cell? ⟨Mg1, 7, none⟩ = some (.int .i64 0) := (blk_cell MB37.out 7).trans rfl; have Mz54 := blk_frozen MB37.out 7; have Mx55 : Mw36.cell? ⟨Mg1, 8, none⟩ = some (.int .i64 0) := (blk_cell MB37.out 8).trans rfl; have Mz56 := blk_frozen MB37.out 8; have Mx57 : Mw36.cell? ⟨Mg1, 9, none⟩ = some (.int .i64 0) := (blk_cell MB37.out 9).trans rfl; have Mz58 := blk_frozen MB37.out 9; have Mx59 : Mw36.cell? ⟨Mg1, 10, none⟩ = some (.int .i64 0) := (blk_cell MB37.out 10).trans rfl; have Mz60 := blk_frozen MB37.out 10; have Mx61 : Mw36.cell? ⟨Mg1, 11, none⟩ = some (.int .i64 0) := (blk_cell MB37.out 11).trans rfl; have Mz62 := blk_frozen MB37.out 11; have Mx63 : Mw36.cell? ⟨Mg1, 12, none⟩ = some (.slice none 0 0) := (blk_cell MB37.out 12).trans rfl; have Mz64 := blk_frozen MB37.out 12; have Mx65 : Mw36.cell? ⟨Mg1, 13, none⟩ = some (.slice none 0 0) := (blk_cell MB37.out 13).trans rfl; have Mz66 := blk_frozen MB37.out 13; have Mx67 : Mw36.cell? ⟨Mg1, 14, none⟩ = some (.bool false) := (blk_cell MB37.out 14).trans rfl; have Mz68 := blk_frozen MB37.out 14))
    have q := blk_full MB37.out [.int .i64 0, .int .i64 0, .int .i64 0, .int .i64 0, .int .i64 0, .int .i64 0, .int .i64 0, .int .i64 0, .int .i64 0, .int .i64 0, .int .i64 0, .int .i64 0, .slice none 0 0, .slice none 0 0, .bool false] rfl
    (try simp only [Exit.inBlock, Exit.then])
    refine bodyPost_ret (results_ct rfl _ _ Mg1 41 #[.int .i64 0, .int .i64 0, .int .i64 0, .int .i64 0, .int .i64 0, .int .i64 0, .int .i64 0, .int .i64 0, .int .i64 0, .int .i64 0, .int .i64 0, .int .i64 0, .slice none 0 0, .slice none 0 0, .bool false] (0, 0) _ rfl q.1 Try.underlying41 rfl (by kernel_rfl)) rfl ?_
    exact ⟨_, _, rfl, Kd.R_nil _ _ _ _ _, Kd.R_nil _ _ _ _ _, (MH38.out).grown q.2 (below_size MH38.out) (fun k hk => by cases hk; exact MG4.out)⟩
  · rw [if_neg c1]
    have c1b : decide (k < 0) = false := decide_eq_false c1
    have hk0 : 0 ≤ k := by omega
    have HX0 := HOK.out.rolls _ (rd68_mem hk0 hlt)
    obtain ⟨x, HX⟩ : ∃ x, Aside0 (x = rd_T68 B.es k) := ⟨_, ⟨rfl⟩⟩
    rw [← HX.out] at HX0
    rw [← HX.out]
    have HX1 := Aside0.mk HX0
    have p1 := eq_true hk0
    have q1 := eq_true hlt
    have hk1 := Aside0.mk hk0
    have hlt1 := Aside0.mk hlt
    clear c1 HX0 hk0 hlt
    go_enter Try.func20, Try.ntmps20
    go_wp2_with (first | ((with_reducible refine gate_dst (N := 4) rfl ?_); refine box_event ?hg (N := 4) ?hd (cs := #[.int .i64 0, .int .i64 0, .int .i64 0, .int .i64 0, .int .i64 0, .int .i64 0, .int .i64 0, .int .i64 0, .int .i64 0, .int .i64 0, .int .i64 0, .int .i64 0, .slice none 0 0, .slice none 0 0, .bool false]) (t := 41) ?hr ?_; (case hd => rfl); (case hg => rfl); (case hr => first | (go_simp; done) | (go_simp; rfl)); intro Mg1 hg_ Mw2 hbox_ hb_; have MB3 := Aside0.mk hbox_; have MG4 : Aside0 (w.heap.size ≤ Mg1) := ⟨by rw [hg_]; exact below_size HB.out⟩; have MH5 := Aside0.mk (below_step HB.out hb_); clear hbox_ hb_ hg_; have Mx6 : Mw2.cell? ⟨Mg1, 0, none⟩ = some (.int .i64 0) := (blk_cell MB3.out 0).trans rfl; have Mz7 := blk_frozen MB3.out 0; have Mx8 : Mw2.cell? ⟨Mg1, 1, none⟩ = some (.int .i64 0) := (blk_cell MB3.out 1).trans rfl; have Mz9 := blk_frozen MB3.out 1; have Mx10 : Mw2.cell? ⟨Mg1, 2, none⟩ = some (.int .i64 0) := (blk_cell MB3.out 2).trans rfl; have Mz11 := blk_frozen MB3.out 2; have Mx12 : Mw2.cell? ⟨Mg1, 3, none⟩ = some (.int .i64 0) := (blk_cell MB3.out 3).trans rfl; have Mz13 := blk_frozen MB3.out 3; have Mx14 : Mw2.cell? ⟨Mg1, 4, none⟩ = some (.int .i64 0) := (blk_cell MB3.out 4).trans rfl; have Mz15 := blk_frozen MB3.out 4; have Mx16 : Mw2.cell? ⟨Mg1, 5, none⟩ = some (.int .i64 0) := (blk_cell MB3.out 5).trans rfl; have Mz17 := blk_frozen MB3.out 5; have Mx18 : Mw2.cell? ⟨Mg1, 6, none⟩ = some (.int .i64 0) := (blk_cell MB3.out 6).trans rfl; have Mz19 := blk_frozen MB3.out 6; have Mx20 : Mw2.cell? ⟨Mg1, 7, none⟩ = some (.int .i64 0) := (blk_cell MB3.out 7).trans rfl; have Mz21 := blk_frozen MB3.out 7; have Mx22 : Mw2.cell? ⟨Mg1, 8, none⟩ = some (.int .i64 0) := (blk_cell MB3.out 8).trans rfl; have Mz23 := blk_frozen MB3.out 8; have Mx24 : Mw2.cell? ⟨Mg1, 9, none⟩ = some (.int .i64 0) := (blk_cell MB3.out 9).trans rfl; have Mz25 := blk_frozen MB3.out 9; have Mx26 : Mw2.cell? ⟨Mg1, 10, none⟩ = some (.int .i64 0) := (blk_cell MB3.out 10).trans rfl; have Mz27 := blk_frozen MB3.out 10; have Mx28 : Mw2.cell? ⟨Mg1, 11, none⟩ = some (.int .i64 0) := (blk_cell MB3.out 11).trans rfl; have Mz29 := blk_frozen MB3.out 11; have Mx30 : Mw2.cell? ⟨Mg1, 12, none⟩ = some (.slice none 0 0) := (blk_cell MB3.out 12).trans rfl; have Mz31 := blk_frozen MB3.out 12; have Mx32 : Mw2.cell? ⟨Mg1, 13, none⟩ = some (.slice none 0 0) := (blk_cell MB3.out 13).trans rfl; have Mz33 := blk_frozen MB3.out 13; have Mx34 : Mw2.cell? ⟨Mg1, 14, none⟩ = some (.bool false) := (blk_cell MB3.out 14).trans rfl; have Mz35 := blk_frozen MB3.out 14) | (go_at_call 44; refine (find_calls id _ (HBA.out.below MH5.out)).mono ?_; rw [← HK.out]; rintro e Mw36 ⟨rfl, hb_⟩; have MB37 := Aside0.mk (blk_below MB3.out hb_); have MH38 := Aside0.mk (below_step MH5.out hb_); clear hb_; have HB2 := Aside0.mk MH38.out; have HS2 := Aside0.mk MB37.out; have HBA2 := Aside0.mk (HBA.out.below HB2.out); have x0 : Mw36.cell? ⟨pb, 0, none⟩ = some (.slice A B.es.length c) := (blk_cell HBA2.out.blk 0).trans rfl; obtain ⟨ad, A12, c12, e, y0, y1, y2, y3, y4, y5, y6, y7, y8, y9, y10, y11, y12, y13, hl12, hC12⟩ := at_T68 (HBA2.out.reads).2.2 k hk1.out hlt1.out; subst e; rw [← HX.out] at y0 y1 y2 y3 y4 y5 y6 y7 y8 y9 y10 y11 y12 y13 hl12 hC12; have HC12 := Aside0.mk hC12; have HL12 := Aside0.mk hl12; clear hC12 hl12) | (go_at_call 45; refine (status_calls x A12 c12 _ HBA2.out HC12.out HL12.out HX1.out.2 HX1.out.1).mono ?_; rintro e Mw39 ⟨v12, v13, rfl, r12, r13, hb_⟩; obtain ⟨A3_, c3_, e3_⟩ := Kd.R_slice r12; subst e3_; obtain ⟨A4_, c4_, e4_⟩ := Kd.R_slice r13; subst e4_; have HO12 := Aside0.mk r12; have HO13 := Aside0.mk r13; have MB40 := Aside0.mk (blk_below MB37.out hb_); have MH41 := Aside0.mk (below_step MH38.out hb_); clear hb_ r12 r13 x0 y0 y1 y2 y3 y4 y5 y6 y7 y8 y9 y10 y11 y12 y13; clear Mx6 Mz7 Mx8 Mz9 Mx10 Mz11 Mx12 Mz13 Mx14 Mz15 Mx16 Mz17 Mx18 Mz19 Mx20 Mz21 Mx22 Mz23 Mx24 Mz25 Mx26 Mz27 Mx28 Mz29 Mx30 Mz31 Mx32 Mz33 Mx34 Mz35; have Mx42 : Mw39.cell? ⟨Mg1, 0, none⟩ = some (.int .i64 0) := (blk_cell MB40.out 0).trans rfl; have Mz43 := blk_frozen MB40.out 0; have Mx44 : Mw39.cell? ⟨Mg1, 1, none⟩ = some (.int .i64 0) := (blk_cell MB40.out 1).trans rfl; have Mz45 := blk_frozen MB40.out 1; have Mx46 : Mw39.cell? ⟨Mg1, 2, none⟩ = some (.int .i64 0) := (blk_cell MB40.out 2).trans rfl; have Mz47 := blk_frozen MB40.out 2; have Mx48 : Mw39.cell? ⟨Mg1, 3, none⟩ = some (.int .i64 0) := (blk_cell MB40.out 3).trans rfl; have Mz49 := blk_frozen MB40.out 3; have Mx50 : Mw39.cell? ⟨Mg1, 4, none⟩ = some (.int .i64 0) := (blk_cell MB40.out 4).trans rfl; have Mz51 := blk_frozen MB40.out 4; have Mx52 : Mw39.cell? ⟨Mg1, 5, none⟩ = some (.int .i64 0) := (blk_cell MB40.out 5).trans rfl; have Mz53 := blk_frozen MB40.out 5; have Mx54 : Mw39.cell? ⟨Mg1, 6, none⟩ = some (.int .i64 0) := (blk_cell MB40.out 6).trans rfl; have Mz55 := blk_frozen MB40.out 6; have Mx56 : Mw39.cell? ⟨Mg1, 7, none⟩ = some (.int .i64 0) := (blk_cell MB40.out 7).trans rfl; have Mz57 := blk_frozen MB40.out 7; have Mx58 : Mw39.cell? ⟨Mg1, 8, none⟩ = some (.int .i64 0) := (blk_cell MB40.out 8).trans rfl; have Mz59 := blk_frozen MB40.out 8; have Mx60 : Mw39.cell? ⟨Mg1, 9, none⟩ = some (.int .i64 0) := (blk_cell MB40.out 9).trans rfl; have Mz61 := blk_frozen MB40.out 9; have Mx62 : Mw39.cell? ⟨Mg1, 10, none⟩ = some (.int .i64 0) := (blk_cell MB40.out 10).trans rfl; have Mz63 := blk_frozen MB40.out 10; have Mx64 : Mw39.cell? ⟨Mg1, 11, none⟩ = some (.int .i64 0) := (blk_cell MB40.out 11).trans rfl; have Mz65 := blk_frozen MB40.out 11; have Mx66 : Mw39.cell? ⟨Mg1, 12, none⟩ = some (.slice none 0 0) := (blk_cell MB40.out 12).trans rfl; have Mz67 := blk_frozen MB40.out 12; have Mx68 : Mw39.cell? ⟨Mg1, 13, none⟩ = some (.slice none 0 0) := (blk_cell MB40.out 13).trans rfl; have Mz69 := blk_frozen MB40.out 13; have Mx70 : Mw39.cell? ⟨Mg1, 14, none⟩ = some (.bool false) := (blk_cell MB40.out 14).trans rfl; have Mz71 := blk_frozen MB40.out 14))
    have q := blk_full MB40.out [.int .i64 x.f0.f0, .int .i64 x.f0.f1, .int .i64 x.f0.f2, .int .i64 x.f0.f3, .int .i64 x.f0.f4, .int .i64 x.f0.f5, .int .i64 x.f0.f6, .int .i64 x.f0.f7, .int .i64 x.f0.f8, .int .i64 x.f0.f9, .int .i64 x.f0.f10, .int .i64 x.f0.f11, .slice A3_ x.f1.length c3_, .slice A4_ (shipL B.asg x.f1).length c4_, .bool x.f2] rfl
    have hgs := blk_lt HS2.out
    (try simp only [Exit.inBlock, Exit.then])
    refine bodyPost_ret (results_ct rfl _ _ Mg1 41 #[.int .i64 x.f0.f0, .int .i64 x.f0.f1, .int .i64 x.f0.f2, .int .i64 x.f0.f3, .int .i64 x.f0.f4, .int .i64 x.f0.f5, .int .i64 x.f0.f6, .int .i64 x.f0.f7, .int .i64 x.f0.f8, .int .i64 x.f0.f9, .int .i64 x.f0.f10, .int .i64 x.f0.f11, .slice A3_ x.f1.length c3_, .slice A4_ (shipL B.asg x.f1).length c4_, .bool x.f2] (0, 0) _ rfl q.1 Try.underlying41 rfl (by kernel_rfl)) rfl ?_
    refine ⟨_, _, rfl, ?_, ?_, ?_⟩
    · refine Kd.R_lower (Kd.R_mono (Kd.R_grown (Kd.R_bound HO12.out) q.2 (fun k hk e => by injection e with e; have := hk.2.1; omega)) (fun k hk => hk.1)) (below_size HB2.out)
    · refine Kd.R_lower (Kd.R_mono (Kd.R_grown (Kd.R_bound HO13.out) q.2 (fun k hk e => by injection e with e; have := hk.2.1; omega)) (fun k hk => hk.1)) (below_size HB2.out)
    · exact (MH41.out).grown q.2 (below_size MH41.out) (fun k hk => by cases hk; exact MG4.out)
set_option maxHeartbeats 8000000 in
theorem All_calls {base : Nat} {P : Nat → Prop} {pb pm : Nat} {ve : Value} {B : Bk} (w : World) (hB : BAt base P pb ve pm w B) (hok : B.Ok) :
    Calls Try.prog 27 #[.pointer (some ⟨pb, 0, none⟩)] w fun e w' => ∃ v, e = .returned v ∧ Kd.S k41 41 w' w.heap.size (fun _ => True) v (B.es.map B.stat) ∧ Below w.heap.size w w' := by
  have hu61 := Try.underlying61
  have hu68 := Try.underlying68
  obtain ⟨A, c, rfl⟩ := hB.slice
  have HBA := Aside0.mk hB
  have HOK := Aside0.mk hok
  have hes := hok.es
  have x0 : w.cell? ⟨pb, 0, none⟩ = some (.slice A B.es.length c) := (blk_cell hB.blk 0).trans rfl
  obtain ⟨l0, HL0⟩ : ∃ l, Aside0 (l = B.es) := ⟨_, ⟨rfl⟩⟩
  clear hB hok
  rw [← HL0.out] at hes x0 ⊢
  go_enter Try.func27, Try.ntmps27
  go_wp2
  go_loopg [3, 13] l0.length (fun gg v3 v13 wr => ∃ kk : Nat, kk ≤ l0.length ∧ l0.length - kk ≤ gg ∧ v13 = .int .i64 kk ∧ Aside0 (Kd.S k41 41 wr w.heap.size (fun _ => True) v3 ((l0.take kk).map B.stat)) ∧ Aside0 (Below w.heap.size w wr))
  case atStart => exact ⟨0, Nat.zero_le _, by omega, rfl, ⟨Kd.S_nil _ _ _ _ _⟩, ⟨Below.refl _ _⟩⟩
  case round =>
    clear x0
    obtain ⟨kk, hkk, hg, rfl, HO, HB⟩ := hrel
    by_cases hlt : kk < l0.length
    · have hltz : (kk : Int) < (l0.length : Int) := by omega
      have HB1 := Aside0.mk (HBA.out.below HB.out)
      obtain ⟨x, HX⟩ : ∃ x, Aside0 (x = rd_T68 l0 (kk : Int)) := ⟨_, ⟨rfl⟩⟩
      have HX1 := Aside0.mk (HOK.out.rolls x (by rw [HX.out, HL0.out]; exact rd68_mem (by omega) (by rw [← HL0.out]; exact hltz)))
      have HC := HB1.out.reads.2.2
      rw [← HL0.out] at HC
      obtain ⟨ad, A12, c12, e, y0, y1, y2, y3, y4, y5, y6, y7, y8, y9, y10, y11, y12, y13, hl12, hC12⟩ := at_T68 HC (kk : Int) (by omega) hltz
      clear HC
      subst e
      rw [← HX.out] at y0 y1 y2 y3 y4 y5 y6 y7 y8 y9 y10 y11 y12 y13 hl12 hC12
      rw [Int.toNat_natCast] at y0 y1 y2 y3 y4 y5 y6 y7 y8 y9 y10 y11 y12 y13
      have HC12 := Aside0.mk hC12
      have HL12 := Aside0.mk hl12
      have HT : Aside0 ((l0.take (kk + 1)).map B.stat = (l0.take kk).map B.stat ++ [B.stat x]) := ⟨by rw [HX.out, show rd_T68 l0 (kk : Int) = l0[kk] by simp [rd_T68, List.getD_eq_getElem?_getD, hlt], List.take_add_one, List.getElem?_eq_getElem hlt, List.map_append]; rfl⟩
      obtain ⟨T, HT0⟩ : ∃ T, Aside0 (T = (l0.take kk).map B.stat) := ⟨_, ⟨rfl⟩⟩
      have HLn : Aside0 (((l0.take kk).map B.stat).length ≤ 1000) := ⟨by rw [List.length_map, List.length_take]; omega⟩
      clear hC12 hl12
      rw [← HT0.out] at HO HT HLn
      obtain ⟨Ao, co, eo⟩ := Kd.S_slice HO.out
      subst eo
      go_wp2_with (first | (go_at_call 45; refine (status_calls x A12 c12 _ (HB1.out.alloc _) (Kd.C_alloc HC12.out _) HL12.out HX1.out.2 HX1.out.1).mono ?_; rintro e w3 ⟨v12, v13, rfl, r12, r13, hb_⟩; have hz_ : wr.heap.size ≤ (wr.alloc (.cells #[.int .i64 x.f0.f0, .int .i64 x.f0.f1, .int .i64 x.f0.f2, .int .i64 x.f0.f3, .int .i64 x.f0.f4, .int .i64 x.f0.f5, .int .i64 x.f0.f6, .int .i64 x.f0.f7, .int .i64 x.f0.f8, .int .i64 x.f0.f9, .int .i64 x.f0.f10, .int .i64 x.f0.f11, .slice A12 x.f1.length c12, .bool x.f2] 68 (0, 0))).heap.size := below_size (below_alloc (Below.refl wr.heap.size wr) _); have hb2_ := below_step (below_alloc (Below.refl _ _) _) hb_; obtain ⟨A3_, c3_, e3_⟩ := Kd.R_slice r12; subst e3_; obtain ⟨A4_, c4_, e4_⟩ := Kd.R_slice r13; subst e4_; have HN12 : Aside0 (∀ k, (.slice A3_ x.f1.length c3_ : Value).ownBlock = some k → wr.heap.size ≤ k) := ⟨fun k hk => Nat.le_trans hz_ (Kd.R_base r12 k hk)⟩; have HN13 : Aside0 (∀ k, (.slice A4_ (shipL B.asg x.f1).length c4_ : Value).ownBlock = some k → wr.heap.size ≤ k) := ⟨fun k hk => Nat.le_trans hz_ (Kd.R_base r13 k hk)⟩; have HS3 := Aside0.mk (Kd.S_mono (Kd.S_below (Kd.S_bound HO.out) hb2_) (ok' := fun k => k < wr.heap.size) (fun k hk => hk.2.2.1)); have HB3 := Aside0.mk (below_step HB.out hb2_); have R12 := Aside0.mk (Kd.R_lower r12 (Nat.le_trans (below_size HB.out) hz_)); have R13 := Aside0.mk (Kd.R_lower r13 (Nat.le_trans (below_size HB.out) hz_)); clear hb_ hb2_ hz_ r12 r13) | ((with_reducible refine gate_builtin (b := .append) (xs := #[.tmp 17, .tmp 21]) rfl ?_); at_builtin; refine Kd.S_append k41 (w0 := w) w.heap.size rfl (.tmp 17) (.tmp 21) 49 41 (.agg #[.int .i64 0, .int .i64 0, .int .i64 0, .int .i64 0, .int .i64 0, .int .i64 0, .int .i64 0, .int .i64 0, .int .i64 0, .int .i64 0, .int .i64 0, .int .i64 0, .slice none 0 0, .slice none 0 0, .bool false]) 152 rfl Try.underlying49 info41 rfl (by decide) (by omega) (.slice Ao T.length co) T (B.stat x) [.int .i64 x.f0.f0, .int .i64 x.f0.f1, .int .i64 x.f0.f2, .int .i64 x.f0.f3, .int .i64 x.f0.f4, .int .i64 x.f0.f5, .int .i64 x.f0.f6, .int .i64 x.f0.f7, .int .i64 x.f0.f8, .int .i64 x.f0.f9, .int .i64 x.f0.f10, .int .i64 x.f0.f11, .slice A3_ x.f1.length c3_, .slice A4_ (shipL B.asg x.f1).length c4_, .bool x.f2] (fun _ => True) (fun k_ => some k_ = (.slice A3_ x.f1.length c3_ : Value).ownBlock ∨ some k_ = (.slice A4_ (shipL B.asg x.f1).length c4_ : Value).ownBlock) rfl rfl ?aP ?aK (fun _ _ => trivial) ?aO HB3.out (below_size HB3.out) ?aL ?_; (case aP => exact k41_mkM _ _ _ (B.stat x) (Kd.R_mono (Kd.R_tight rfl R12.out) (fun _ h => Or.inl h)) (Kd.R_mono (Kd.R_tight rfl R13.out) (fun _ h => Or.inr h))); (case aK => exact fun k hk => ⟨trivial, fun e => by have h1 := Kd.S_lt HO.out k e.symm; exact hk.elim (fun q => by have := HN12.out k q.symm; omega) (fun q => by have := HN13.out k q.symm; omega)⟩); (case aO => exact Kd.S_mono HS3.out (fun k hk => ⟨trivial, fun h => by exact h.elim (fun q => by have := HN12.out k q.symm; omega) (fun q => by have := HN13.out k q.symm; omega)⟩)); (case aL => have := HLn.out; omega); intro v1 w1 ho hb hg1 hat; rw [← HT.out] at ho; have HO1 := Aside0.mk ho; have HB2 := Aside0.mk hb; clear ho hb hg1 hat))
      go_roundg (l0.length - (kk + 1))
      case measure => omega
      case rel => exact ⟨kk + 1, by omega, by omega, by go_num, HO1, HB2⟩
    · have hltz : ¬ (kk : Int) < (l0.length : Int) := by omega
      have : kk = l0.length := by omega
      subst this
      go_wp2
      go_ret
      exact ⟨_, rfl, by have := HO.out; rwa [List.take_length] at this, HB.out⟩
def openN (x : S68) : Int := if x.f2 = true then 0 else mx 0 (wrap64 (x.f0.f6 - (x.f1.length : Int)))
set_option maxHeartbeats 8000000 in
theorem Open_calls {base : Nat} {P : Nat → Prop} {pb pm : Nat} {ve : Value} {B : Bk} (w : World) (hB : BAt base P pb ve pm w B) (hok : B.Ok) :
    Calls Try.prog 30 #[.pointer (some ⟨pb, 0, none⟩)] w fun e w' => ∃ v, e = .returned v ∧ Kd.R (Kd.int .i64) 3 w' w.heap.size (fun _ => True) v (B.es.map openN) ∧ Below w.heap.size w w' := by
  have hu61 := Try.underlying61
  have hu68 := Try.underlying68
  have hu23 := Try.underlying23
  obtain ⟨A, c, rfl⟩ := hB.slice
  have HBA := Aside0.mk hB
  have hes := hok.es
  have x0 : w.cell? ⟨pb, 0, none⟩ = some (.slice A B.es.length c) := (blk_cell hB.blk 0).trans rfl
  obtain ⟨l0, HL0⟩ : ∃ l, Aside0 (l = B.es) := ⟨_, ⟨rfl⟩⟩
  clear hB hok
  rw [← HL0.out] at hes x0 ⊢
  go_enter Try.func30, Try.ntmps30
  go_wp2
  go_loopg [3, 14] l0.length (fun gg v3 v14 wr => ∃ kk : Nat, kk ≤ l0.length ∧ l0.length - kk ≤ gg ∧ v14 = .int .i64 kk ∧ Aside0 (Kd.R (Kd.int .i64) 3 wr w.heap.size (fun _ => True) v3 ((l0.take kk).map openN)) ∧ Aside0 (Below w.heap.size w wr))
  case atStart => exact ⟨0, Nat.zero_le _, by omega, rfl, ⟨Kd.R_nil _ _ _ _ _⟩, ⟨Below.refl _ _⟩⟩
  case round =>
    clear x0
    obtain ⟨kk, hkk, hg, rfl, HO, HB⟩ := hrel
    by_cases hlt : kk < l0.length
    · have hltz : (kk : Int) < (l0.length : Int) := by omega
      obtain ⟨x, HX⟩ : ∃ x, Aside0 (x = rd_T68 l0 (kk : Int)) := ⟨_, ⟨rfl⟩⟩
      have HC := (HBA.out.below HB.out).reads.2.2
      rw [← HL0.out] at HC
      obtain ⟨ad, A12, c12, e, y0, y1, y2, y3, y4, y5, y6, y7, y8, y9, y10, y11, y12, y13, _, _⟩ := at_T68 HC (kk : Int) (by omega) hltz
      clear HC
      subst e
      rw [← HX.out] at y0 y1 y2 y3 y4 y5 y6 y7 y8 y9 y10 y11 y12 y13
      rw [Int.toNat_natCast] at y0 y1 y2 y3 y4 y5 y6 y7 y8 y9 y10 y11 y12 y13
      have HT : Aside0 ((l0.take (kk + 1)).map openN = (l0.take kk).map openN ++ [openN x]) := ⟨by rw [HX.out, show rd_T68 l0 (kk : Int) = l0[kk] by simp [rd_T68, List.getD_eq_getElem?_getD, hlt], List.take_add_one, List.getElem?_eq_getElem hlt, List.map_append]; rfl⟩
      obtain ⟨T, HT0⟩ : ∃ T, Aside0 (T = (l0.take kk).map openN) := ⟨_, ⟨rfl⟩⟩
      have HLn : Aside0 (((l0.take kk).map openN).length ≤ 1000) := ⟨by rw [List.length_map, List.length_take]; omega⟩
      rw [← HT0.out] at HO HT HLn
      obtain ⟨Ao, co, eo⟩ := Kd.R_slice HO.out
      subst eo
      obtain ⟨cl, hcl⟩ : ∃ cl, x.f2 = cl := ⟨_, rfl⟩
      rw [hcl] at y13
      cases cl with
      | true =>
        have HN : Aside0 (openN x = 0) := ⟨if_pos hcl⟩
        clear hcl
        rw [HN.out] at HT
        by_cases cm : 0 < wrap64 (x.f0.f6 - (x.f1.length : Int))
        · have cmb : decide (0 < wrap64 (x.f0.f6 - (x.f1.length : Int))) = true := decide_eq_true cm
          go_wp2_with (first | ((with_reducible refine gate_builtin (b := .append) (xs := #[.tmp 28, .tmp 30]) rfl ?_); at_builtin; refine Kd.R_append (Kd.int .i64) (w0 := w) w.heap.size rfl (.tmp 28) (.tmp 30) 39 3 (.int .i64 0) 8 rfl Try.underlying39 info3 rfl (by decide) (by omega) (.slice Ao T.length co) T (0) [.int .i64 (0)] (fun _ => True) (fun _ => False) rfl (by first | (go_simp; done) | (go_simp; rfl)) ?aP (fun _ hk => hk.elim) (fun _ _ => trivial) (Kd.R_alloc HO.out _) (below_alloc HB.out _) (below_size (below_alloc HB.out _)) ?aL ?_; (case aP => exact rfl); (case aL => have := HLn.out; omega); intro v1 w1 ho hb hg1 hat; rw [← HT.out] at ho; have HO1 := Aside0.mk ho; have HB2 := Aside0.mk hb; clear ho hb hg1 hat))
          go_roundg (l0.length - (kk + 1))
          case measure => omega
          case rel => exact ⟨kk + 1, by omega, by omega, by go_num, HO1, HB2⟩
        · have cmb : decide (0 < wrap64 (x.f0.f6 - (x.f1.length : Int))) = false := decide_eq_false cm
          go_wp2_with (first | ((with_reducible refine gate_builtin (b := .append) (xs := #[.tmp 28, .tmp 30]) rfl ?_); at_builtin; refine Kd.R_append (Kd.int .i64) (w0 := w) w.heap.size rfl (.tmp 28) (.tmp 30) 39 3 (.int .i64 0) 8 rfl Try.underlying39 info3 rfl (by decide) (by omega) (.slice Ao T.length co) T (0) [.int .i64 (0)] (fun _ => True) (fun _ => False) rfl (by first | (go_simp; done) | (go_simp; rfl)) ?aP (fun _ hk => hk.elim) (fun _ _ => trivial) (Kd.R_alloc HO.out _) (below_alloc HB.out _) (below_size (below_alloc HB.out _)) ?aL ?_; (case aP => exact rfl); (case aL => have := HLn.out; omega); intro v1 w1 ho hb hg1 hat; rw [← HT.out] at ho; have HO1 := Aside0.mk ho; have HB2 := Aside0.mk hb; clear ho hb hg1 hat))
          go_roundg (l0.length - (kk + 1))
          case measure => omega
          case rel => exact ⟨kk + 1, by omega, by omega, by go_num, HO1, HB2⟩
      | false =>
        have HN : openN x = mx 0 (wrap64 (x.f0.f6 - (x.f1.length : Int))) := if_neg (by rw [hcl]; simp)
        clear hcl
        unfold mx at HN
        by_cases cm : 0 < wrap64 (x.f0.f6 - (x.f1.length : Int))
        · have cmb : decide (0 < wrap64 (x.f0.f6 - (x.f1.length : Int))) = true := decide_eq_true cm
          rw [if_pos cm] at HN
          rw [HN] at HT
          clear HN
          go_wp2_with (first | ((with_reducible refine gate_builtin (b := .append) (xs := #[.tmp 28, .tmp 30]) rfl ?_); at_builtin; refine Kd.R_append (Kd.int .i64) (w0 := w) w.heap.size rfl (.tmp 28) (.tmp 30) 39 3 (.int .i64 0) 8 rfl Try.underlying39 info3 rfl (by decide) (by omega) (.slice Ao T.length co) T (wrap64 (x.f0.f6 - (x.f1.length : Int))) [.int .i64 (wrap64 (x.f0.f6 - (x.f1.length : Int)))] (fun _ => True) (fun _ => False) rfl (by first | (go_simp; done) | (go_simp; rfl)) ?aP (fun _ hk => hk.elim) (fun _ _ => trivial) (Kd.R_alloc HO.out _) (below_alloc HB.out _) (below_size (below_alloc HB.out _)) ?aL ?_; (case aP => exact rfl); (case aL => have := HLn.out; omega); intro v1 w1 ho hb hg1 hat; rw [← HT.out] at ho; have HO1 := Aside0.mk ho; have HB2 := Aside0.mk hb; clear ho hb hg1 hat))
          go_roundg (l0.length - (kk + 1))
          case measure => omega
          case rel => exact ⟨kk + 1, by omega, by omega, by go_num, HO1, HB2⟩
        · have cmb : decide (0 < wrap64 (x.f0.f6 - (x.f1.length : Int))) = false := decide_eq_false cm
          rw [if_neg cm] at HN
          rw [HN] at HT
          clear HN
          go_wp2_with (first | ((with_reducible refine gate_builtin (b := .append) (xs := #[.tmp 28, .tmp 30]) rfl ?_); at_builtin; refine Kd.R_append (Kd.int .i64) (w0 := w) w.heap.size rfl (.tmp 28) (.tmp 30) 39 3 (.int .i64 0) 8 rfl Try.underlying39 info3 rfl (by decide) (by omega) (.slice Ao T.length co) T (0) [.int .i64 (0)] (fun _ => True) (fun _ => False) rfl (by first | (go_simp; done) | (go_simp; rfl)) ?aP (fun _ hk => hk.elim) (fun _ _ => trivial) (Kd.R_alloc HO.out _) (below_alloc HB.out _) (below_size (below_alloc HB.out _)) ?aL ?_; (case aP => exact rfl); (case aL => have := HLn.out; omega); intro v1 w1 ho hb hg1 hat; rw [← HT.out] at ho; have HO1 := Aside0.mk ho; have HB2 := Aside0.mk hb; clear ho hb hg1 hat))
          go_roundg (l0.length - (kk + 1))
          case measure => omega
          case rel => exact ⟨kk + 1, by omega, by omega, by go_num, HO1, HB2⟩
    · have hltz : ¬ (kk : Int) < (l0.length : Int) := by omega
      have : kk = l0.length := by omega
      subst this
      go_wp2
      go_ret
      exact ⟨_, rfl, by have := HO.out; rwa [List.take_length] at this, HB.out⟩
structure KeptB (w W : World) (S : Nat → Prop) : Prop where
  k : Kept w W S
  os : W.os = w.os
  tape : W.tape = w.tape
  output : W.output = w.output
section
variable {w W W2 : World} {S S2 : Nat → Prop}
theorem KeptB.refl (w : World) (S : Nat → Prop) : KeptB w w S := ⟨Kept.refl w S, rfl, rfl, rfl⟩
theorem KeptB.of_below (h : Below w.heap.size w W) (S : Nat → Prop) : KeptB w W S := ⟨Kept.of_below h S, h.os, h.tape, h.output⟩
theorem KeptB.then_ (h : KeptB w W S) (k : KeptB W W2 S2) (hs : ∀ k, S2 k → S k ∨ w.heap.size ≤ k) : KeptB w W2 S := ⟨h.k.then_ k.k hs, k.os.trans h.os, k.tape.trans h.tape, k.output.trans h.output⟩
theorem KeptB.of_grown {row : Option Nat} (hg : W.grownBy W2 row) (h : KeptB w W S) (hr : ∀ k, row = some k → S k ∨ w.heap.size ≤ k) : KeptB w W2 S := ⟨Kept.of_grown hg h.k hr, hg.os.trans h.os, hg.tape.trans h.tape, hg.output.trans h.output⟩
theorem KeptB.setCell (h : KeptB w W S) {g o : Nat} (hp : S g ∨ w.heap.size ≤ g) (u : Value) : KeptB w (W.setCell ⟨g, o, none⟩ u) S :=
  have q := setCells_same g [u] o W
  ⟨h.k.setCell hp u, q.1.trans h.os, q.2.1.trans h.tape, q.2.2.1.trans h.output⟩
theorem KeptB.drew (h : KeptB w W S) : KeptB w W.drew S := ⟨h.k.drew, h.os, h.tape, h.output⟩
theorem KeptB.size (h : KeptB w W S) : w.heap.size ≤ W.heap.size := h.k.1
theorem KeptB.below {base : Nat} (h : KeptB w W S) (hs : ∀ k, S k → base ≤ k) (hb : base ≤ w.heap.size) : Below base w W := ⟨h.os, h.tape, h.output, h.k.1, fun i hi => h.k.2 i (by omega) (fun hk => by have := hs i hk; omega)⟩
end
section
variable {base : Nat} {P P' : Nat → Prop} {pb pm : Nat} {ve : Value} {w w' : World} {B : Bk}
theorem BAt.elem {A : Option Addr} {n c : Nat} (h : BAt base P pb (.slice A n c) pm w B) (k : Int) (h0 : 0 ≤ k) (h1 : k < (B.es.length : Int)) :
    ∃ g A12 c12, A = some ⟨g, 0, none⟩ ∧ w.cell? ⟨g, k.toNat * 14, none⟩ = some (.int .i64 (rd_T68 B.es k).f0.f0) ∧ w.cell? ⟨g, k.toNat * 14 + 1, none⟩ = some (.int .i64 (rd_T68 B.es k).f0.f1) ∧ w.cell? ⟨g, k.toNat * 14 + 2, none⟩ = some (.int .i64 (rd_T68 B.es k).f0.f2) ∧ w.cell? ⟨g, k.toNat * 14 + 3, none⟩ = some (.int .i64 (rd_T68 B.es k).f0.f3) ∧ w.cell? ⟨g, k.toNat * 14 + 4, none⟩ = some (.int .i64 (rd_T68 B.es k).f0.f4) ∧ w.cell? ⟨g, k.toNat * 14 + 5, none⟩ = some (.int .i64 (rd_T68 B.es k).f0.f5) ∧ w.cell? ⟨g, k.toNat * 14 + 6, none⟩ = some (.int .i64 (rd_T68 B.es k).f0.f6) ∧ w.cell? ⟨g, k.toNat * 14 + 7, none⟩ = some (.int .i64 (rd_T68 B.es k).f0.f7) ∧ w.cell? ⟨g, k.toNat * 14 + 8, none⟩ = some (.int .i64 (rd_T68 B.es k).f0.f8) ∧ w.cell? ⟨g, k.toNat * 14 + 9, none⟩ = some (.int .i64 (rd_T68 B.es k).f0.f9) ∧ w.cell? ⟨g, k.toNat * 14 + 10, none⟩ = some (.int .i64 (rd_T68 B.es k).f0.f10) ∧ w.cell? ⟨g, k.toNat * 14 + 11, none⟩ = some (.int .i64 (rd_T68 B.es k).f0.f11) ∧ w.cell? ⟨g, k.toNat * 14 + 12, none⟩ = some (.slice A12 (rd_T68 B.es k).f1.length c12) ∧ w.cell? ⟨g, k.toNat * 14 + 13, none⟩ = some (.bool (rd_T68 B.es k).f2) ∧ (rd_T68 B.es k).f1.length ≤ c12 ∧ (Kd.int .i64).C w A12 (rd_T68 B.es k).f1.length (rd_T68 B.es k).f1 ∧ (∀ j, w.frozen? ⟨g, k.toNat * 14 + j, none⟩ = false) ∧ P g ∧ g ≠ pb ∧ g ≠ pm ∧ base ≤ g := by
  obtain ⟨g, cap, e, hbase, _, _⟩ := Kd.S_form h.ent (by omega)
  obtain ⟨rfl, rfl, rfl⟩ : A = some ⟨g, 0, none⟩ ∧ n = B.es.length ∧ c = cap := by injection e with e1 e2 e3; exact ⟨e1, e2, e3⟩
  obtain ⟨ad, A12, c12, e, y0, y1, y2, y3, y4, y5, y6, y7, y8, y9, y10, y11, y12, y13, hl, hC⟩ := at_T68 (h.reads).2.2 k h0 h1
  obtain rfl := Option.some.inj e
  obtain ⟨_, _, _, _, _, hfr, _⟩ := Kd.S_elem h.ent z68 k h0 h1
  have hP := (Kd.S_R h.ent).1 g rfl
  simp only [add_plain] at y0 y1 y2 y3 y4 y5 y6 y7 y8 y9 y10 y11 y12 y13
  exact ⟨g, A12, c12, rfl, y0, y1, y2, y3, y4, y5, y6, y7, y8, y9, y10, y11, y12, y13, hl, hC, hfr, hP.1, hP.2.1, hP.2.2, hbase⟩
theorem BAt.put {g cap : Nat} {n : Nat} (h : BAt base P pb (.slice (some ⟨g, 0, none⟩) n cap) pm w B) (k : Int) (h0 : 0 ≤ k) (h1 : k < (B.es.length : Int)) (j : Nat) (v : Value) (hj : j < 14) (x' : S68)
    (hx : ∀ (ok : Nat → Prop) (c : List Value), k68.M w base ok (rd_T68 B.es k) c → k68.M w base ok x' (c.take j ++ [v] ++ c.drop (j + 1))) :
    BAt base P pb (.slice (some ⟨g, 0, none⟩) n cap) pm (w.setCell ⟨g, k.toNat * 14 + j, none⟩ v) { B with es := B.es.set k.toNat x' } ∧ KeptB w (w.setCell ⟨g, k.toNat * 14 + j, none⟩ v) P := by
  have hn := h.reads.1
  have hP := (Kd.S_R h.ent).1 g rfl
  obtain ⟨oki, c, hcl, hM, hcc, hfr, hok, hH⟩ := Kd.S_elem h.ent z68 k h0 (by omega)
  have hs := Kd.S_seg0 hH h0 (by omega) (seg := [v]) (j := j) (show j + 1 ≤ 14 by omega) (hx oki c hM) (fun _ hk => hk)
  refine ⟨⟨blk_far h.blk (Ne.symm hP.2.1) _, hs.1, h.map.same (Below.heap_setCell w _ v pm (Ne.symm hP.2.2)), h.ge⟩, KeptB.setCell (KeptB.refl w P) (.inl hP.1) v⟩
theorem k68_count {W : World} {ok : Nat → Prop} {x : S68} {c : List Value} (n : Int) (h : k68.M W base ok x c) : k68.M W base ok { x with f0 := { x.f0 with f6 := n } } (c.take 6 ++ [.int .i64 n] ++ c.drop 7) := by
  obtain ⟨v12, rfl, h12⟩ := k68_openM h
  exact k68_mkM W base ok { x with f0 := { x.f0 with f6 := n } } h12
theorem k68_closed {W : World} {ok : Nat → Prop} {x : S68} {c : List Value} (b : Bool) (h : k68.M W base ok x c) : k68.M W base ok { x with f2 := b } (c.take 13 ++ [.bool b] ++ c.drop 14) := by
  obtain ⟨v12, rfl, h12⟩ := k68_openM h
  exact k68_mkM W base ok { x with f2 := b } h12
end
def MPost (base : Nat) (P : Nat → Prop) (pb pm : Nat) (w : World) (B : Bk) (r : Int) (e : Ending) (w' : World) : Prop :=
  e = .returned (.int .i64 r) ∧ ∃ ve, BAt base (fun k => P k ∨ w.heap.size ≤ k) pb ve pm w' B ∧ KeptB w w' P
theorem MPost.mk_ {base : Nat} {P : Nat → Prop} {pb pm : Nat} {ve : Value} {w w1 w2 : World} {B : Bk} {r : Int} (hb : Below w.heap.size w w1) (h : BAt base P pb ve pm w2 B) (hk : KeptB w1 w2 P) : MPost base P pb pm w B r (.returned (.int .i64 r)) w2 :=
  ⟨rfl, ve, h.mono (fun k hk => .inl hk), (KeptB.of_below hb P).then_ hk (fun k hk => .inl hk)⟩
theorem BAt.asgd {base : Nat} {P : Nat → Prop} {pb pm : Nat} {ve : Value} {w w' : World} {B : Bk} {n' : Nat} {f' : Int → Option (Int × Bool)} (h : BAt base P pb ve pm w B) (hm : Plm.PlAt Try.prog 3 w' pm n' f') (hg : w.grownBy w' (some pm)) : BAt base P pb ve pm w' ⟨B.es, n', f'⟩ ∧ KeptB w w' P :=
  ⟨⟨blk_grown h.blk hg (fun e => h.ne (by injection e)), Kd.S_grown h.ent hg (fun k hk e => hk.2.2 (by injection e)), hm, h.ge⟩, KeptB.of_grown hg (KeptB.refl w P) (fun k hk => .inl (by injection hk with hk; rw [← hk]; exact h.ge.2.2.2))⟩
theorem info68 : (Try.prog.info? 68).map (fun i => (i.zero, i.size, i.bytes)) = some (some (.agg #[.int .i64 0, .int .i64 0, .int .i64 0, .int .i64 0, .int .i64 0, .int .i64 0, .int .i64 0, .int .i64 0, .int .i64 0, .int .i64 0, .int .i64 0, .int .i64 0, .slice none 0 0, .bool false]), 14, 128) := by kernel_rfl
theorem BAt.ents {base : Nat} {P : Nat → Prop} {pb pm : Nat} {ve : Value} {w w3 : World} {B : Bk} {v : Value} {xs : List S68} (h : BAt base P pb ve pm w B) (hg : w.grownBy w3 ve.ownBlock) (hv : Kd.S k68 68 w3 base (fun k => (P k ∨ w.heap.size ≤ k) ∧ k ≠ pb ∧ k ≠ pm) v xs) :
    BAt base (fun k => P k ∨ w.heap.size ≤ k) pb v pm (w3.setCell ⟨pb, 0, none⟩ v) { B with es := xs } ∧ KeptB w (w3.setCell ⟨pb, 0, none⟩ v) P := by
  have ho := (Kd.S_R h.ent).1
  have nb : (some pb : Option Nat) ≠ ve.ownBlock := fun e => (ho pb e.symm).2.1 rfl
  have nm : (some pm : Option Nat) ≠ ve.ownBlock := fun e => (ho pm e.symm).2.2 rfl
  have b3 := blk_grown h.blk hg nb
  refine ⟨⟨blk_put (cs := #[ve, .map (some pm)]) b3 0 v rfl, Kd.S_mono (Kd.S_far (p := ⟨pb, 0, none⟩) hv (fun k hk => hk.2.1) v) (fun k hk => hk), (h.map.kept hg nm).same (Below.heap_setCell w3 ⟨pb, 0, none⟩ v pm (Ne.symm h.ne)), h.ge.1, h.ge.2.1, .inl h.ge.2.2.1, .inl h.ge.2.2.2⟩, KeptB.setCell (KeptB.of_grown hg (KeptB.refl w P) (fun k hk => .inl (ho k hk).1)) (.inl h.ge.2.2.1) v⟩
theorem MPost.mk2 {base : Nat} {P : Nat → Prop} {pb pm : Nat} {ve : Value} {w w1 w2 : World} {B : Bk} {r : Int} (hb : Below w.heap.size w w1) (h : BAt base (fun k => P k ∨ w1.heap.size ≤ k) pb ve pm w2 B) (hk : KeptB w1 w2 P) : MPost base P pb pm w B r (.returned (.int .i64 r)) w2 :=
  ⟨rfl, ve, h.mono (fun k hk => hk.elim .inl (fun q => .inr (Nat.le_trans (below_size hb) q))), (KeptB.of_below hb P).then_ hk (fun k hk => .inl hk)⟩
theorem BAt.row {base : Nat} {P : Nat → Prop} {pb pm g cap n : Nat} {w : World} {B : Bk} (h : BAt base P pb (.slice (some ⟨g, 0, none⟩) n cap) pm w B) (k : Int) (h0 : 0 ≤ k) (h1 : k < (B.es.length : Int)) :
    ∃ (oki : Nat → Prop) (A12 : Option Addr) (c12 : Nat), Kd.R (Kd.int .i64) 3 w base oki (.slice A12 (rd_T68 B.es k).f1.length c12) (rd_T68 B.es k).f1 ∧ w.cell? ⟨g, k.toNat * 14 + 12, none⟩ = some (.slice A12 (rd_T68 B.es k).f1.length c12) ∧ (∀ q, oki q → P q ∧ q ≠ g ∧ q ≠ pb ∧ q ≠ pm) ∧
      ∀ {w3 : World} {v' : Value} {xs' : List Int}, w.grownBy w3 (.slice A12 (rd_T68 B.es k).f1.length c12 : Value).ownBlock → Kd.R (Kd.int .i64) 3 w3 base (fun q => oki q ∨ w.heap.size ≤ q) v' xs' →
        BAt base (fun q => P q ∨ w.heap.size ≤ q) pb (.slice (some ⟨g, 0, none⟩) n cap) pm (w3.setCell ⟨g, k.toNat * 14 + 12, none⟩ v') { B with es := B.es.set k.toNat { rd_T68 B.es k with f1 := xs' } } ∧ KeptB w (w3.setCell ⟨g, k.toNat * 14 + 12, none⟩ v') P := by
  have hn := h.reads.1
  have hP := (Kd.S_R h.ent).1 g rfl
  have hl := h.lt
  obtain ⟨oki, c, _, hM, hcc, _, hok, hH⟩ := Kd.S_elem h.ent z68 k h0 (by omega)
  obtain ⟨v12, rfl, h12⟩ := k68_openM hM
  obtain ⟨A12, c12, rfl⟩ := Kd.R_slice h12
  refine ⟨oki, A12, c12, h12, hcc 12 _ rfl, fun q hq => ⟨(hok q hq).1.1, (hok q hq).2, (hok q hq).1.2⟩, ?_⟩
  intro w3 v' xs' hg hv
  have hrow : ∀ q, (.slice A12 (rd_T68 B.es k).f1.length c12 : Value).ownBlock = some q → oki q := fun q hq => h12.1 q hq
  have nb : (some pb : Option Nat) ≠ (.slice A12 (rd_T68 B.es k).f1.length c12 : Value).ownBlock := fun e => (hok pb (hrow pb e.symm)).1.2.1 rfl
  have nm : (some pm : Option Nat) ≠ (.slice A12 (rd_T68 B.es k).f1.length c12 : Value).ownBlock := fun e => (hok pm (hrow pm e.symm)).1.2.2 rfl
  have hH1 := Kd.H_grown (Kd.H_widen (Kd.H_mono hH (ok' := fun q => (P q ∨ w.heap.size ≤ q) ∧ q ≠ pb ∧ q ≠ pm) (fun q hq => ⟨.inl hq.1, hq.2⟩))) hg (fun q hq => .inl (hrow q hq))
  have hs := Kd.S_seg0 (x' := { rd_T68 B.es k with f1 := xs' }) hH1 h0 (by omega) (seg := [v']) (j := 12) (show 12 + 1 ≤ 14 by omega) (k68_mkM w3 base _ { rd_T68 B.es k with f1 := xs' } (Kd.R_mono hv (fun q hq => hq.elim .inl (fun q' => .inr ⟨⟨.inr q', by omega, by omega⟩, q'⟩)))) (fun _ hq => hq)
  exact ⟨⟨blk_far (blk_grown h.blk hg nb) (Ne.symm hP.2.1) _, hs.1, (h.map.kept hg nm).same (Below.heap_setCell w3 _ v' pm (Ne.symm hP.2.2)), h.ge.1, h.ge.2.1, .inl h.ge.2.2.1, .inl h.ge.2.2.2⟩, KeptB.setCell (KeptB.of_grown hg (KeptB.refl w P) (fun q hq => .inl (hok q (hrow q hq)).1.1)) (.inl hP.1) v'⟩
def Bk.Amend (B : Bk) (id count : Int) : Bk × Int := if (B.open_ id).2 = 0 then (if count < 1 then (B, 1) else if count > 1000 then (B, 1) else if ((rd_T68 B.es (B.open_ id).1).f1.length : Int) > wrap64 (count + (rd_T68 B.es (B.open_ id).1).f0.f7) then (B, 32) else ({ B with es := B.es.set (B.open_ id).1.toNat { rd_T68 B.es (B.open_ id).1 with f0 := { (rd_T68 B.es (B.open_ id).1).f0 with f6 := count } } }, 0)) else (B, (B.open_ id).2)
theorem open_ok {B : Bk} {id : Int} (h : (B.open_ id).2 = 0) : 0 ≤ (B.open_ id).1 ∧ (B.open_ id).1 < (B.es.length : Int) := by
  have hlt := find_lt B id
  unfold Bk.open_ at h ⊢
  split
  · rename_i c; rw [if_pos c] at h; exact absurd h (by decide)
  · rename_i c
    rw [if_neg c] at h
    split
    · rename_i d; rw [if_pos d] at h; exact absurd h (by decide)
    · exact ⟨by omega, hlt⟩
set_option maxHeartbeats 8000000 in
theorem Amend_calls {base : Nat} {P : Nat → Prop} {pb pm : Nat} {ve : Value} {B : Bk} (id count : Int) (w : World) (hB : BAt base P pb ve pm w B) :
    Calls Try.prog 35 #[.pointer (some ⟨pb, 0, none⟩), .int .i64 id, .int .i64 count] w (MPost base P pb pm w (B.Amend id count).1 (B.Amend id count).2) := by
  have hu61 := Try.underlying61
  have hu68 := Try.underlying68
  have hu23 := Try.underlying23
  obtain ⟨A, c, rfl⟩ := hB.slice
  have HV := Aside0.mk (open_calls id w hB)
  have HB := Aside0.mk hB
  have HO : Aside0 ((B.open_ id).2 = 0 → 0 ≤ (B.open_ id).1 ∧ (B.open_ id).1 < (B.es.length : Int)) := ⟨open_ok⟩
  clear hB
  unfold Bk.Amend
  generalize B.open_ id = o at HV HO ⊢
  obtain ⟨k, eo⟩ := o
  simp only at HV HO ⊢
  by_cases c0 : eo = 0
  · rw [if_pos c0]
    subst c0
    obtain ⟨hk0, hk1⟩ := HO.out rfl
    by_cases c1 : count < 1
    · rw [if_pos c1]
      have c1b : decide (count < 1) = true := decide_eq_true c1
      clear c1
      go_enter Try.func35, Try.ntmps35
      go_wp2_with (go_at_call 47; refine HV.out.mono ?_; rintro e w1 ⟨rfl, hb⟩)
      go_ret
      exact MPost.mk_ hb (HB.out.below hb) (KeptB.refl _ _)
    rw [if_neg c1]
    have c1b : decide (count < 1) = false := decide_eq_false c1
    by_cases c2 : count > 1000
    · rw [if_pos c2]
      have c2b : decide (1000 < count) = true := decide_eq_true c2
      clear c1 c2
      go_enter Try.func35, Try.ntmps35
      go_wp2_with (go_at_call 47; refine HV.out.mono ?_; rintro e w1 ⟨rfl, hb⟩)
      go_ret
      exact MPost.mk_ hb (HB.out.below hb) (KeptB.refl _ _)
    rw [if_neg c2]
    have c2b : decide (1000 < count) = false := decide_eq_false c2
    obtain ⟨x, hx⟩ : ∃ x, x = rd_T68 B.es k := ⟨_, rfl⟩
    have HX := Aside0.mk hx
    rw [← hx]
    clear c1 c2 hx
    have p1 := eq_true hk0
    have q1 := eq_true hk1
    have HK0 := Aside0.mk hk0
    have HK1 := Aside0.mk hk1
    clear hk0 hk1
    by_cases c3 : (x.f1.length : Int) > wrap64 (count + x.f0.f7)
    · rw [if_pos c3]
      have c3b : decide (wrap64 (count + x.f0.f7) < (x.f1.length : Int)) = true := decide_eq_true c3
      have c3w : decide (IntKind.i64.wrap (count + x.f0.f7) < (x.f1.length : Int)) = true := by rw [i64_w]; exact c3b
      clear c3
      go_enter Try.func35, Try.ntmps35
      go_wp2_with (go_at_call 47; refine HV.out.mono ?_; rintro e w1 ⟨rfl, hb⟩; have HB1 := Aside0.mk hb; have HBA := Aside0.mk (HB.out.below hb); have x0 : w1.cell? ⟨pb, 0, none⟩ = some (.slice A B.es.length c) := (blk_cell HBA.out.blk 0).trans rfl; obtain ⟨g, A12, c12, eA, y0, y1, y2, y3, y4, y5, y6, y7, y8, y9, y10, y11, y12, y13, hl12, hC12, hfz, hP, hg1, hg2, hg3⟩ := HBA.out.elem k HK0.out HK1.out; subst eA; rw [← HX.out] at y0 y1 y2 y3 y4 y5 y6 y7 y8 y9 y10 y11 y12 y13 hl12 hC12; have HC12 := Aside0.mk hC12; have HL12 := Aside0.mk hl12; clear hC12 hl12 hb)
      go_quiet (fail)
      go_wp2
      go_ret
      exact MPost.mk_ (pw_below_drewN HB1.out _) (HBA.out.below (pw_below_drewN (Below.refl _ _) _)) (KeptB.refl _ _)
    · rw [if_neg c3]
      have c3b : decide (wrap64 (count + x.f0.f7) < (x.f1.length : Int)) = false := decide_eq_false c3
      have c3w : decide (IntKind.i64.wrap (count + x.f0.f7) < (x.f1.length : Int)) = false := by rw [i64_w]; exact c3b
      clear c3
      go_enter Try.func35, Try.ntmps35
      go_wp2_with (go_at_call 47; refine HV.out.mono ?_; rintro e w1 ⟨rfl, hb⟩; have HB1 := Aside0.mk hb; have HBA := Aside0.mk (HB.out.below hb); have x0 : w1.cell? ⟨pb, 0, none⟩ = some (.slice A B.es.length c) := (blk_cell HBA.out.blk 0).trans rfl; obtain ⟨g, A12, c12, eA, y0, y1, y2, y3, y4, y5, y6, y7, y8, y9, y10, y11, y12, y13, hl12, hC12, hfz, hP, hg1, hg2, hg3⟩ := HBA.out.elem k HK0.out HK1.out; subst eA; rw [← HX.out] at y0 y1 y2 y3 y4 y5 y6 y7 y8 y9 y10 y11 y12 y13 hl12 hC12; have HC12 := Aside0.mk hC12; have HL12 := Aside0.mk hl12; clear hC12 hl12 hb)
      go_quiet (fail)
      have hz6 := hfz 6
      go_wp2
      go_ret
      obtain ⟨h1, h2⟩ := (HBA.out.below (pw_below_drewN (Below.refl _ _) nq)).put k HK0.out HK1.out 6 (.int .i64 count) (by decide) { x with f0 := { x.f0 with f6 := count } } (fun ok c h => by rw [← HX.out] at h; exact k68_count count h)
      exact MPost.mk_ (pw_below_drewN HB1.out _) h1 h2
  · rw [if_neg c0]
    have c0b : (eo != 0) = true := bne_iff_ne.mpr c0
    clear c0
    go_enter Try.func35, Try.ntmps35
    go_wp2_with (go_at_call 47; refine HV.out.mono ?_; rintro e w1 ⟨rfl, hb⟩)
    go_ret
    exact MPost.mk_ hb (HB.out.below hb) (KeptB.refl _ _)
def Bk.Ship (B : Bk) (roll : Int) : Bk × Int := if (B.held roll).2 = 0 then (⟨B.es, B.n + 1, Plm.plUpd B.asg roll (some ((B.held roll).1, true))⟩, 0) else (B, (B.held roll).2)
set_option maxHeartbeats 8000000 in
theorem Ship_calls {base : Nat} {P : Nat → Prop} {pb pm : Nat} {ve : Value} {B : Bk} (roll : Int) (hw : (Lit.int .i64 roll).wf = true) (w : World) (hB : BAt base P pb ve pm w B) (hn : B.n < 100000) :
    Calls Try.prog 25 #[.pointer (some ⟨pb, 0, none⟩), .int .i64 roll] w (MPost base P pb pm w (B.Ship roll).1 (B.Ship roll).2) := by
  have hu61 := Try.underlying61
  have hu65 := Try.underlying65
  have HV := Aside0.mk (held_calls roll hw w hB)
  have HB := Aside0.mk hB
  have HW := Aside0.mk hw
  have HN := Aside0.mk hn
  clear hB hw hn
  unfold Bk.Ship
  generalize B.held roll = o at HV ⊢
  obtain ⟨k, eo⟩ := o
  simp only at HV ⊢
  by_cases c0 : eo = 0
  · rw [if_pos c0]
    subst c0
    go_enter Try.func25, Try.ntmps25
    go_wp2_with (first | (go_at_call 48; refine HV.out.mono ?_; rintro e w1 ⟨rfl, hb⟩; have HB1 := Aside0.mk hb; have HBA := Aside0.mk (HB.out.below hb); have x0 : w1.cell? ⟨pb, 1, none⟩ = some (.map (some pm)) := (blk_cell HBA.out.blk 1).trans rfl; clear hb) | (at_mapUpdate; refine Plm.pl_update rfl _ _ _ 58 rfl Try.underlying3 Try.underlying58 rfl HBA.out.map ?hn roll rfl k true rfl HW.out ?_; (case hn => have := HN.out; unfold maxLen; omega); intro w2 hm hg; have HM := Aside0.mk hm; have HG := Aside0.mk hg; clear hm hg))
    go_ret
    exact MPost.mk_ HB1.out (HBA.out.asgd HM.out HG.out).1 (HBA.out.asgd HM.out HG.out).2
  · rw [if_neg c0]
    have c0b : (eo != 0) = true := bne_iff_ne.mpr c0
    clear c0
    go_enter Try.func25, Try.ntmps25
    go_wp2_with (go_at_call 48; refine HV.out.mono ?_; rintro e w1 ⟨rfl, hb⟩)
    go_ret
    exact MPost.mk_ hb (HB.out.below hb) (KeptB.refl _ _)
def Bk.Close (B : Bk) (id : Int) : Bk × Int := if (B.open_ id).2 = 0 then (if (shipL B.asg (rd_T68 B.es (B.open_ id).1).f1).length < (rd_T68 B.es (B.open_ id).1).f1.length then (B, 13) else if ((shipL B.asg (rd_T68 B.es (B.open_ id).1).f1).length : Int) < wrap64 ((rd_T68 B.es (B.open_ id).1).f0.f6 - (rd_T68 B.es (B.open_ id).1).f0.f8) then (B, 29) else ({ B with es := B.es.set (B.open_ id).1.toNat { rd_T68 B.es (B.open_ id).1 with f2 := true } }, 0)) else (B, (B.open_ id).2)
set_option maxHeartbeats 8000000 in
theorem Close_calls {base : Nat} {P : Nat → Prop} {pb pm : Nat} {ve : Value} {B : Bk} (id : Int) (w : World) (hB : BAt base P pb ve pm w B) (hok : B.Ok) :
    Calls Try.prog 36 #[.pointer (some ⟨pb, 0, none⟩), .int .i64 id] w (MPost base P pb pm w (B.Close id).1 (B.Close id).2) := by
  have hu61 := Try.underlying61
  have hu68 := Try.underlying68
  have hu23 := Try.underlying23
  obtain ⟨A, c, rfl⟩ := hB.slice
  have HV := Aside0.mk (open_calls id w hB)
  have HB := Aside0.mk hB
  have HOK := Aside0.mk hok
  have HO : Aside0 ((B.open_ id).2 = 0 → 0 ≤ (B.open_ id).1 ∧ (B.open_ id).1 < (B.es.length : Int)) := ⟨open_ok⟩
  clear hB hok
  unfold Bk.Close
  generalize B.open_ id = o at HV HO ⊢
  obtain ⟨k, eo⟩ := o
  simp only at HV HO ⊢
  by_cases c0 : eo = 0
  · rw [if_pos c0]
    subst c0
    obtain ⟨hk0, hk1⟩ := HO.out rfl
    have HWF := Aside0.mk (HOK.out.rolls _ (rd68_mem hk0 hk1))
    obtain ⟨x, hx⟩ : ∃ x, x = rd_T68 B.es k := ⟨_, rfl⟩
    have HX := Aside0.mk hx
    rw [← hx] at HWF ⊢
    clear hx
    have p1 := eq_true hk0
    have q1 := eq_true hk1
    have HK0 := Aside0.mk hk0
    have HK1 := Aside0.mk hk1
    clear hk0 hk1
    obtain ⟨n, hn⟩ : ∃ n, n = (shipL B.asg x.f1).length := ⟨_, rfl⟩
    have HN := Aside0.mk hn
    rw [← hn]
    clear hn
    by_cases c1 : n < x.f1.length
    · rw [if_pos c1]
      have c1b : decide ((n : Int) < (x.f1.length : Int)) = true := decide_eq_true (by omega)
      have c1n : decide (n < x.f1.length) = true := decide_eq_true c1
      have c1m := eq_true c1
      clear c1
      go_enter Try.func36, Try.ntmps36
      go_wp2_with (first | (go_at_call 47; refine HV.out.mono ?_; rintro e w1 ⟨rfl, hb⟩; have HB1 := Aside0.mk hb; have HBA := Aside0.mk (HB.out.below hb); have x0 : w1.cell? ⟨pb, 0, none⟩ = some (.slice A B.es.length c) := (blk_cell HBA.out.blk 0).trans rfl; obtain ⟨g, A12, c12, eA, y0, y1, y2, y3, y4, y5, y6, y7, y8, y9, y10, y11, y12, y13, hl12, hC12, hfz, hP, hg1, hg2, hg3⟩ := HBA.out.elem k HK0.out HK1.out; subst eA; rw [← HX.out] at y0 y1 y2 y3 y4 y5 y6 y7 y8 y9 y10 y11 y12 y13 hl12 hC12; have HC12 := Aside0.mk hC12; have HL12 := Aside0.mk hl12; clear hC12 hl12 hb) | (go_at_call 54; refine (shipped_calls x A12 c12 _ HBA.out HC12.out HWF.out.2 (by have := HWF.out.1; omega)).mono ?_; rintro e w2 ⟨v, rfl, ho, hb⟩; obtain ⟨A4_, c4_, e4_⟩ := Kd.R_slice ho; subst e4_; rw [← HN.out]; clear x0 y0 y1 y2 y3 y4 y5 y6 y7 y8 y9 y10 y11 y12 y13 hfz ho; have HB2 := Aside0.mk hb; have HBA2 := Aside0.mk (HBA.out.below hb); have x0 : w2.cell? ⟨pb, 0, none⟩ = some (.slice (some ⟨g, 0, none⟩) B.es.length c) := (blk_cell HBA2.out.blk 0).trans rfl; obtain ⟨g2, A13, c13, eA2, y0, y1, y2, y3, y4, y5, y6, y7, y8, y9, y10, y11, y12, y13, hl12, hC12, hfz, _, _, _, _⟩ := HBA2.out.elem k HK0.out HK1.out; cases eA2; rw [← HX.out] at y0 y1 y2 y3 y4 y5 y6 y7 y8 y9 y10 y11 y12 y13 hl12 hC12; clear hC12 hl12 hb))
      go_ret
      exact MPost.mk_ (below_step HB1.out HB2.out) HBA2.out (KeptB.refl _ _)
    rw [if_neg c1]
    have c1b : decide ((n : Int) < (x.f1.length : Int)) = false := decide_eq_false (by omega)
    have c1n : decide (n < x.f1.length) = false := decide_eq_false c1
    have c1m := eq_false c1
    clear c1
    by_cases c3 : (n : Int) < wrap64 (x.f0.f6 - x.f0.f8)
    · rw [if_pos c3]
      have c3b : decide ((n : Int) < wrap64 (x.f0.f6 - x.f0.f8)) = true := decide_eq_true c3
      have c3w : decide ((n : Int) < IntKind.i64.wrap (x.f0.f6 - x.f0.f8)) = true := by rw [i64_w]; exact c3b
      clear c3
      go_enter Try.func36, Try.ntmps36
      go_wp2_with (first | (go_at_call 47; refine HV.out.mono ?_; rintro e w1 ⟨rfl, hb⟩; have HB1 := Aside0.mk hb; have HBA := Aside0.mk (HB.out.below hb); have x0 : w1.cell? ⟨pb, 0, none⟩ = some (.slice A B.es.length c) := (blk_cell HBA.out.blk 0).trans rfl; obtain ⟨g, A12, c12, eA, y0, y1, y2, y3, y4, y5, y6, y7, y8, y9, y10, y11, y12, y13, hl12, hC12, hfz, hP, hg1, hg2, hg3⟩ := HBA.out.elem k HK0.out HK1.out; subst eA; rw [← HX.out] at y0 y1 y2 y3 y4 y5 y6 y7 y8 y9 y10 y11 y12 y13 hl12 hC12; have HC12 := Aside0.mk hC12; have HL12 := Aside0.mk hl12; clear hC12 hl12 hb) | (go_at_call 54; refine (shipped_calls x A12 c12 _ HBA.out HC12.out HWF.out.2 (by have := HWF.out.1; omega)).mono ?_; rintro e w2 ⟨v, rfl, ho, hb⟩; obtain ⟨A4_, c4_, e4_⟩ := Kd.R_slice ho; subst e4_; rw [← HN.out]; clear x0 y0 y1 y2 y3 y4 y5 y6 y7 y8 y9 y10 y11 y12 y13 hfz ho; have HB2 := Aside0.mk hb; have HBA2 := Aside0.mk (HBA.out.below hb); have x0 : w2.cell? ⟨pb, 0, none⟩ = some (.slice (some ⟨g, 0, none⟩) B.es.length c) := (blk_cell HBA2.out.blk 0).trans rfl; obtain ⟨g2, A13, c13, eA2, y0, y1, y2, y3, y4, y5, y6, y7, y8, y9, y10, y11, y12, y13, hl12, hC12, hfz, _, _, _, _⟩ := HBA2.out.elem k HK0.out HK1.out; cases eA2; rw [← HX.out] at y0 y1 y2 y3 y4 y5 y6 y7 y8 y9 y10 y11 y12 y13 hl12 hC12; clear hC12 hl12 hb))
      go_quiet (fail)
      go_wp2
      go_ret
      exact MPost.mk_ (pw_below_drewN (below_step HB1.out HB2.out) _) (HBA2.out.below (pw_below_drewN (Below.refl _ _) _)) (KeptB.refl _ _)
    · rw [if_neg c3]
      have c3b : decide ((n : Int) < wrap64 (x.f0.f6 - x.f0.f8)) = false := decide_eq_false c3
      have c3w : decide ((n : Int) < IntKind.i64.wrap (x.f0.f6 - x.f0.f8)) = false := by rw [i64_w]; exact c3b
      clear c3
      go_enter Try.func36, Try.ntmps36
      go_wp2_with (first | (go_at_call 47; refine HV.out.mono ?_; rintro e w1 ⟨rfl, hb⟩; have HB1 := Aside0.mk hb; have HBA := Aside0.mk (HB.out.below hb); have x0 : w1.cell? ⟨pb, 0, none⟩ = some (.slice A B.es.length c) := (blk_cell HBA.out.blk 0).trans rfl; obtain ⟨g, A12, c12, eA, y0, y1, y2, y3, y4, y5, y6, y7, y8, y9, y10, y11, y12, y13, hl12, hC12, hfz, hP, hg1, hg2, hg3⟩ := HBA.out.elem k HK0.out HK1.out; subst eA; rw [← HX.out] at y0 y1 y2 y3 y4 y5 y6 y7 y8 y9 y10 y11 y12 y13 hl12 hC12; have HC12 := Aside0.mk hC12; have HL12 := Aside0.mk hl12; clear hC12 hl12 hb) | (go_at_call 54; refine (shipped_calls x A12 c12 _ HBA.out HC12.out HWF.out.2 (by have := HWF.out.1; omega)).mono ?_; rintro e w2 ⟨v, rfl, ho, hb⟩; obtain ⟨A4_, c4_, e4_⟩ := Kd.R_slice ho; subst e4_; rw [← HN.out]; clear x0 y0 y1 y2 y3 y4 y5 y6 y7 y8 y9 y10 y11 y12 y13 hfz ho; have HB2 := Aside0.mk hb; have HBA2 := Aside0.mk (HBA.out.below hb); have x0 : w2.cell? ⟨pb, 0, none⟩ = some (.slice (some ⟨g, 0, none⟩) B.es.length c) := (blk_cell HBA2.out.blk 0).trans rfl; obtain ⟨g2, A13, c13, eA2, y0, y1, y2, y3, y4, y5, y6, y7, y8, y9, y10, y11, y12, y13, hl12, hC12, hfz, _, _, _, _⟩ := HBA2.out.elem k HK0.out HK1.out; cases eA2; rw [← HX.out] at y0 y1 y2 y3 y4 y5 y6 y7 y8 y9 y10 y11 y12 y13 hl12 hC12; clear hC12 hl12 hb))
      go_quiet (fail)
      have hz6 := hfz 13
      go_wp2
      go_ret
      obtain ⟨h1, h2⟩ := (HBA2.out.below (pw_below_drewN (Below.refl _ _) nq)).put k HK0.out HK1.out 13 (.bool true) (by decide) { x with f2 := true } (fun ok c h => by rw [← HX.out] at h; exact k68_closed true h)
      exact MPost.mk_ (pw_below_drewN (below_step HB1.out HB2.out) _) h1 h2
  · rw [if_neg c0]
    have c0b : (eo != 0) = true := bne_iff_ne.mpr c0
    clear c0
    go_enter Try.func36, Try.ntmps36
    go_wp2_with (go_at_call 47; refine HV.out.mono ?_; rintro e w1 ⟨rfl, hb⟩)
    go_ret
    exact MPost.mk_ hb (HB.out.below hb) (KeptB.refl _ _)
def Bk.Add (B : Bk) (o : S23) : Bk × Int := if chkO o = 0 then (if B.find o.f0 ≥ 0 then (B, 6) else if (B.es.length : Int) ≥ 64 then (B, 8) else ({ B with es := B.es ++ [⟨o, [], false⟩] }, 0)) else (B, chkO o)
def add.T10 : Bool × List (List Nat × List Nat) := (true, [([], []), ([], []), ([1], [1]), ([2], [2]), ([3], [3]), ([], []), ([5], [5]), ([6], [6]), ([4, 7], [4, 7]), ([0, 0, 1, 2, 3, 4, 5, 6, 7, 8], [0]), ([9, 0, 1, 2, 3, 4, 5, 6, 7, 8], [9]), ([10, 8, 8, 0, 1, 2, 3, 4, 5, 6, 7, 8], [8, 10])])
def add.B10 : List Nat := [0, 0, 2, 6, 14, 0, 32, 96, 254, 511, 1023, 2047]
theorem add.tab10 : rtab .any (opsOf Try.f33 10) = add.T10 := by kernel_rfl
theorem add.bits10 : waitsOk add.T10.2 add.B10 = true := by kernel_rfl
set_option maxHeartbeats 8000000 in
theorem Add_calls {base : Nat} {P : Nat → Prop} {pb pm : Nat} {ve : Value} {B : Bk} (o : S23) (w : World) (hB : BAt base P pb ve pm w B) (hok : B.Ok) (hbase : base ≤ w.heap.size) :
    Calls Try.prog 33 #[.pointer (some ⟨pb, 0, none⟩), .agg #[.int .i64 o.f0, .int .i64 o.f1, .int .i64 o.f2, .int .i64 o.f3, .int .i64 o.f4, .int .i64 o.f5, .int .i64 o.f6, .int .i64 o.f7, .int .i64 o.f8, .int .i64 o.f9, .int .i64 o.f10, .int .i64 o.f11]] w (MPost base P pb pm w (B.Add o).1 (B.Add o).2) := by
  have hu61 := Try.underlying61
  have hu68 := Try.underlying68
  have hu23 := Try.underlying23
  obtain ⟨A, c, rfl⟩ := hB.slice
  have HBA0 := Aside0.mk hB
  have HOK := Aside0.mk hok
  have HBASE := Aside0.mk hbase
  have HB := Aside0.mk (Below.refl w.heap.size w)
  clear hB hok hbase
  unfold Bk.Add
  obtain ⟨e0, he0⟩ : ∃ e, e = chkO o := ⟨_, rfl⟩
  have HE := Aside0.mk he0
  rw [← he0]
  clear he0
  obtain ⟨k, hk⟩ : ∃ k, k = B.find o.f0 := ⟨_, rfl⟩
  have HK := Aside0.mk hk
  rw [← hk]
  clear hk
  by_cases c0 : e0 = 0
  · rw [if_pos c0]
    subst c0
    by_cases c1 : k ≥ 0
    · rw [if_pos c1]
      have c1b : decide (0 ≤ k) = true := decide_eq_true c1
      clear c1
      go_enter Try.func33, Try.ntmps33
      go_wp2_with (first | ((with_reducible refine gate_dst (N := 3) rfl ?_); refine box_event ?hg (N := 3) ?hd (cs := #[.int .i64 o.f0, .int .i64 o.f1, .int .i64 o.f2, .int .i64 o.f3, .int .i64 o.f4, .int .i64 o.f5, .int .i64 o.f6, .int .i64 o.f7, .int .i64 o.f8, .int .i64 o.f9, .int .i64 o.f10, .int .i64 o.f11]) (t := 23) ?hr ?_; (case hd => rfl); (case hg => rfl); (case hr => first | (go_simp; done) | (go_simp; rfl)); intro Mg1 hg_ Mw2 hbox_ hb_; have MB3 := Aside0.mk hbox_; have MG4 : Aside0 (w.heap.size ≤ Mg1) := ⟨by rw [hg_]; exact below_size HB.out⟩; have MH5 := Aside0.mk (below_step HB.out hb_); clear hbox_ hb_ hg_; have Mx6 : Mw2.cell? ⟨Mg1, 0, none⟩ = some (.int .i64 o.f0) := (blk_cell MB3.out 0).trans rfl; have Mz7 := blk_frozen MB3.out 0; have Mx8 : Mw2.cell? ⟨Mg1, 1, none⟩ = some (.int .i64 o.f1) := (blk_cell MB3.out 1).trans rfl; have Mz9 := blk_frozen MB3.out 1; have Mx10 : Mw2.cell? ⟨Mg1, 2, none⟩ = some (.int .i64 o.f2) := (blk_cell MB3.out 2).trans rfl; have Mz11 := blk_frozen MB3.out 2; have Mx12 : Mw2.cell? ⟨Mg1, 3, none⟩ = some (.int .i64 o.f3) := (blk_cell MB3.out 3).trans rfl; have Mz13 := blk_frozen MB3.out 3; have Mx14 : Mw2.cell? ⟨Mg1, 4, none⟩ = some (.int .i64 o.f4) := (blk_cell MB3.out 4).trans rfl; have Mz15 := blk_frozen MB3.out 4; have Mx16 : Mw2.cell? ⟨Mg1, 5, none⟩ = some (.int .i64 o.f5) := (blk_cell MB3.out 5).trans rfl; have Mz17 := blk_frozen MB3.out 5; have Mx18 : Mw2.cell? ⟨Mg1, 6, none⟩ = some (.int .i64 o.f6) := (blk_cell MB3.out 6).trans rfl; have Mz19 := blk_frozen MB3.out 6; have Mx20 : Mw2.cell? ⟨Mg1, 7, none⟩ = some (.int .i64 o.f7) := (blk_cell MB3.out 7).trans rfl; have Mz21 := blk_frozen MB3.out 7; have Mx22 : Mw2.cell? ⟨Mg1, 8, none⟩ = some (.int .i64 o.f8) := (blk_cell MB3.out 8).trans rfl; have Mz23 := blk_frozen MB3.out 8; have Mx24 : Mw2.cell? ⟨Mg1, 9, none⟩ = some (.int .i64 o.f9) := (blk_cell MB3.out 9).trans rfl; have Mz25 := blk_frozen MB3.out 9; have Mx26 : Mw2.cell? ⟨Mg1, 10, none⟩ = some (.int .i64 o.f10) := (blk_cell MB3.out 10).trans rfl; have Mz27 := blk_frozen MB3.out 10; have Mx28 : Mw2.cell? ⟨Mg1, 11, none⟩ = some (.int .i64 o.f11) := (blk_cell MB3.out 11).trans rfl; have Mz29 := blk_frozen MB3.out 11) | (go_at_call 11; refine (Check_calls o _).mono ?_; rw [← HE.out]; rintro e Mw30 ⟨rfl, hb_⟩; have MB31 := Aside0.mk (blk_below MB3.out hb_); have MH32 := Aside0.mk (below_step MH5.out hb_); clear hb_; clear Mx6 Mz7 Mx8 Mz9 Mx10 Mz11 Mx12 Mz13 Mx14 Mz15 Mx16 Mz17 Mx18 Mz19 Mx20 Mz21 Mx22 Mz23 Mx24 Mz25 Mx26 Mz27 Mx28 Mz29; have Mx33 : Mw30.cell? ⟨Mg1, 0, none⟩ = some (.int .i64 o.f0) := (blk_cell MB31.out 0).trans rfl; have Mz34 := blk_frozen MB31.out 0; have Mx35 : Mw30.cell? ⟨Mg1, 1, none⟩ = some (.int .i64 o.f1) := (blk_cell MB31.out 1).trans rfl; have Mz36 := blk_frozen MB31.out 1; have Mx37 : Mw30.cell? ⟨Mg1, 2, none⟩ = some (.int .i64 o.f2) := (blk_cell MB31.out 2).trans rfl; have Mz38 := blk_frozen MB31.out 2; have Mx39 : Mw30.cell? ⟨Mg1, 3, none⟩ = some (.int .i64 o.f3) := (blk_cell MB31.out 3).trans rfl; have Mz40 := blk_frozen MB31.out 3; have Mx41 : Mw30.cell? ⟨Mg1, 4, none⟩ = some (.int .i64 o.f4) := (blk_cell MB31.out 4).trans rfl; have Mz42 := blk_frozen MB31.out 4; have Mx43 : Mw30.cell? ⟨Mg1, 5, none⟩ = some (.int .i64 o.f5) := (blk_cell MB31.out 5).trans rfl; have Mz44 := blk_frozen MB31.out 5; have Mx45 : Mw30.cell? ⟨Mg1, 6, none⟩ = some (.int .i64 o.f6) := (blk_cell MB31.out 6).trans rfl; have Mz46 := blk_frozen MB31.out 6; have Mx47 : Mw30.cell? ⟨Mg1, 7, none⟩ = some (.int .i64 o.f7) := (blk_cell MB31.out 7).trans rfl; have Mz48 := blk_frozen MB31.out 7; have Mx49 : Mw30.cell? ⟨Mg1, 8, none⟩ = some (.int .i64 o.f8) := (blk_cell MB31.out 8).trans rfl; have Mz50 := blk_frozen MB31.out 8; have Mx51 : Mw30.cell? ⟨Mg1, 9, none⟩ = some (.int .i64 o.f9) := (blk_cell MB31.out 9).trans rfl; have Mz52 := blk_frozen MB31.out 9; have Mx53 : Mw30.cell? ⟨Mg1, 10, none⟩ = some (.int .i64 o.f10) := (blk_cell MB31.out 10).trans rfl; have Mz54 := blk_frozen MB31.out 10; have Mx55 : Mw30.cell? ⟨Mg1, 11, none⟩ = some (.int .i64 o.f11) := (blk_cell MB31.out 11).trans rfl; have Mz56 := blk_frozen MB31.out 11) | (go_at_call 44; refine (find_calls o.f0 _ (HBA0.out.below MH32.out)).mono ?_; rw [← HK.out]; rintro e Mw57 ⟨rfl, hb_⟩; have MB58 := Aside0.mk (blk_below MB31.out hb_); have MH59 := Aside0.mk (below_step MH32.out hb_); clear hb_; have x0 : Mw57.cell? ⟨pb, 0, none⟩ = some (.slice A B.es.length c) := (blk_cell (HBA0.out.below MH59.out).blk 0).trans rfl; clear Mx33 Mz34 Mx35 Mz36 Mx37 Mz38 Mx39 Mz40 Mx41 Mz42 Mx43 Mz44 Mx45 Mz46 Mx47 Mz48 Mx49 Mz50 Mx51 Mz52 Mx53 Mz54 Mx55 Mz56; have Mx60 : Mw57.cell? ⟨Mg1, 0, none⟩ = some (.int .i64 o.f0) := (blk_cell MB58.out 0).trans rfl; have Mz61 := blk_frozen MB58.out 0; have Mx62 : Mw57.cell? ⟨Mg1, 1, none⟩ = some (.int .i64 o.f1) := (blk_cell MB58.out 1).trans rfl; have Mz63 := blk_frozen MB58.out 1; have Mx64 : Mw57.cell? ⟨Mg1, 2, none⟩ = some (.int .i64 o.f2) := (blk_cell MB58.out 2).trans rfl; have Mz65 := blk_frozen MB58.out 2; have Mx66 : Mw57.cell? ⟨Mg1, 3, none⟩ = some (.int .i64 o.f3) := (blk_cell MB58.out 3).trans rfl; have Mz67 := blk_frozen MB58.out 3; have Mx68 : Mw57.cell? ⟨Mg1, 4, none⟩ = some (.int .i64 o.f4) := (blk_cell MB58.out 4).trans rfl; have Mz69 := blk_frozen MB58.out 4; have Mx70 : Mw57.cell? ⟨Mg1, 5, none⟩ = some (.int .i64 o.f5) := (blk_cell MB58.out 5).trans rfl; have Mz71 := blk_frozen MB58.out 5; have Mx72 : Mw57.cell? ⟨Mg1, 6, none⟩ = some (.int .i64 o.f6) := (blk_cell MB58.out 6).trans rfl; have Mz73 := blk_frozen MB58.out 6; have Mx74 : Mw57.cell? ⟨Mg1, 7, none⟩ = some (.int .i64 o.f7) := (blk_cell MB58.out 7).trans rfl; have Mz75 := blk_frozen MB58.out 7; have Mx76 : Mw57.cell? ⟨Mg1, 8, none⟩ = some (.int .i64 o.f8) := (blk_cell MB58.out 8).trans rfl; have Mz77 := blk_frozen MB58.out 8; have Mx78 : Mw57.cell? ⟨Mg1, 9, none⟩ = some (.int .i64 o.f9) := (blk_cell MB58.out 9).trans rfl; have Mz79 := blk_frozen MB58.out 9; have Mx80 : Mw57.cell? ⟨Mg1, 10, none⟩ = some (.int .i64 o.f10) := (blk_cell MB58.out 10).trans rfl; have Mz81 := blk_frozen MB58.out 10; have Mx82 : Mw57.cell? ⟨Mg1, 11, none⟩ = some (.int .i64 o.f11) := (blk_cell MB58.out 11).trans rfl; have Mz83 := blk_frozen MB58.out 11))
      go_ret
      exact MPost.mk_ MH59.out (HBA0.out.below MH59.out) (KeptB.refl _ _)
    rw [if_neg c1]
    have c1b : decide (0 ≤ k) = false := decide_eq_false c1
    clear c1
    by_cases c2 : (B.es.length : Int) ≥ 64
    · rw [if_pos c2]
      have c2b : decide (64 ≤ (B.es.length : Int)) = true := decide_eq_true c2
      have c2n : decide (64 ≤ B.es.length) = true := decide_eq_true (by omega)
      have c2m : (64 ≤ B.es.length) = True := eq_true (by omega)
      clear c2
      go_enter Try.func33, Try.ntmps33
      go_wp2_with (first | ((with_reducible refine gate_dst (N := 3) rfl ?_); refine box_event ?hg (N := 3) ?hd (cs := #[.int .i64 o.f0, .int .i64 o.f1, .int .i64 o.f2, .int .i64 o.f3, .int .i64 o.f4, .int .i64 o.f5, .int .i64 o.f6, .int .i64 o.f7, .int .i64 o.f8, .int .i64 o.f9, .int .i64 o.f10, .int .i64 o.f11]) (t := 23) ?hr ?_; (case hd => rfl); (case hg => rfl); (case hr => first | (go_simp; done) | (go_simp; rfl)); intro Mg1 hg_ Mw2 hbox_ hb_; have MB3 := Aside0.mk hbox_; have MG4 : Aside0 (w.heap.size ≤ Mg1) := ⟨by rw [hg_]; exact below_size HB.out⟩; have MH5 := Aside0.mk (below_step HB.out hb_); clear hbox_ hb_ hg_; have Mx6 : Mw2.cell? ⟨Mg1, 0, none⟩ = some (.int .i64 o.f0) := (blk_cell MB3.out 0).trans rfl; have Mz7 := blk_frozen MB3.out 0; have Mx8 : Mw2.cell? ⟨Mg1, 1, none⟩ = some (.int .i64 o.f1) := (blk_cell MB3.out 1).trans rfl; have Mz9 := blk_frozen MB3.out 1; have Mx10 : Mw2.cell? ⟨Mg1, 2, none⟩ = some (.int .i64 o.f2) := (blk_cell MB3.out 2).trans rfl; have Mz11 := blk_frozen MB3.out 2; have Mx12 : Mw2.cell? ⟨Mg1, 3, none⟩ = some (.int .i64 o.f3) := (blk_cell MB3.out 3).trans rfl; have Mz13 := blk_frozen MB3.out 3; have Mx14 : Mw2.cell? ⟨Mg1, 4, none⟩ = some (.int .i64 o.f4) := (blk_cell MB3.out 4).trans rfl; have Mz15 := blk_frozen MB3.out 4; have Mx16 : Mw2.cell? ⟨Mg1, 5, none⟩ = some (.int .i64 o.f5) := (blk_cell MB3.out 5).trans rfl; have Mz17 := blk_frozen MB3.out 5; have Mx18 : Mw2.cell? ⟨Mg1, 6, none⟩ = some (.int .i64 o.f6) := (blk_cell MB3.out 6).trans rfl; have Mz19 := blk_frozen MB3.out 6; have Mx20 : Mw2.cell? ⟨Mg1, 7, none⟩ = some (.int .i64 o.f7) := (blk_cell MB3.out 7).trans rfl; have Mz21 := blk_frozen MB3.out 7; have Mx22 : Mw2.cell? ⟨Mg1, 8, none⟩ = some (.int .i64 o.f8) := (blk_cell MB3.out 8).trans rfl; have Mz23 := blk_frozen MB3.out 8; have Mx24 : Mw2.cell? ⟨Mg1, 9, none⟩ = some (.int .i64 o.f9) := (blk_cell MB3.out 9).trans rfl; have Mz25 := blk_frozen MB3.out 9; have Mx26 : Mw2.cell? ⟨Mg1, 10, none⟩ = some (.int .i64 o.f10) := (blk_cell MB3.out 10).trans rfl; have Mz27 := blk_frozen MB3.out 10; have Mx28 : Mw2.cell? ⟨Mg1, 11, none⟩ = some (.int .i64 o.f11) := (blk_cell MB3.out 11).trans rfl; have Mz29 := blk_frozen MB3.out 11) | (go_at_call 11; refine (Check_calls o _).mono ?_; rw [← HE.out]; rintro e Mw30 ⟨rfl, hb_⟩; have MB31 := Aside0.mk (blk_below MB3.out hb_); have MH32 := Aside0.mk (below_step MH5.out hb_); clear hb_; clear Mx6 Mz7 Mx8 Mz9 Mx10 Mz11 Mx12 Mz13 Mx14 Mz15 Mx16 Mz17 Mx18 Mz19 Mx20 Mz21 Mx22 Mz23 Mx24 Mz25 Mx26 Mz27 Mx28 Mz29; have Mx33 : Mw30.cell? ⟨Mg1, 0, none⟩ = some (.int .i64 o.f0) := (blk_cell MB31.out 0).trans rfl; have Mz34 := blk_frozen MB31.out 0; have Mx35 : Mw30.cell? ⟨Mg1, 1, none⟩ = some (.int .i64 o.f1) := (blk_cell MB31.out 1).trans rfl; have Mz36 := blk_frozen MB31.out 1; have Mx37 : Mw30.cell? ⟨Mg1, 2, none⟩ = some (.int .i64 o.f2) := (blk_cell MB31.out 2).trans rfl; have Mz38 := blk_frozen MB31.out 2; have Mx39 : Mw30.cell? ⟨Mg1, 3, none⟩ = some (.int .i64 o.f3) := (blk_cell MB31.out 3).trans rfl; have Mz40 := blk_frozen MB31.out 3; have Mx41 : Mw30.cell? ⟨Mg1, 4, none⟩ = some (.int .i64 o.f4) := (blk_cell MB31.out 4).trans rfl; have Mz42 := blk_frozen MB31.out 4; have Mx43 : Mw30.cell? ⟨Mg1, 5, none⟩ = some (.int .i64 o.f5) := (blk_cell MB31.out 5).trans rfl; have Mz44 := blk_frozen MB31.out 5; have Mx45 : Mw30.cell? ⟨Mg1, 6, none⟩ = some (.int .i64 o.f6) := (blk_cell MB31.out 6).trans rfl; have Mz46 := blk_frozen MB31.out 6; have Mx47 : Mw30.cell? ⟨Mg1, 7, none⟩ = some (.int .i64 o.f7) := (blk_cell MB31.out 7).trans rfl; have Mz48 := blk_frozen MB31.out 7; have Mx49 : Mw30.cell? ⟨Mg1, 8, none⟩ = some (.int .i64 o.f8) := (blk_cell MB31.out 8).trans rfl; have Mz50 := blk_frozen MB31.out 8; have Mx51 : Mw30.cell? ⟨Mg1, 9, none⟩ = some (.int .i64 o.f9) := (blk_cell MB31.out 9).trans rfl; have Mz52 := blk_frozen MB31.out 9; have Mx53 : Mw30.cell? ⟨Mg1, 10, none⟩ = some (.int .i64 o.f10) := (blk_cell MB31.out 10).trans rfl; have Mz54 := blk_frozen MB31.out 10; have Mx55 : Mw30.cell? ⟨Mg1, 11, none⟩ = some (.int .i64 o.f11) := (blk_cell MB31.out 11).trans rfl; have Mz56 := blk_frozen MB31.out 11) | (go_at_call 44; refine (find_calls o.f0 _ (HBA0.out.below MH32.out)).mono ?_; rw [← HK.out]; rintro e Mw57 ⟨rfl, hb_⟩; have MB58 := Aside0.mk (blk_below MB31.out hb_); have MH59 := Aside0.mk (below_step MH32.out hb_); clear hb_; have x0 : Mw57.cell? ⟨pb, 0, none⟩ = some (.slice A B.es.length c) := (blk_cell (HBA0.out.below MH59.out).blk 0).trans rfl; clear Mx33 Mz34 Mx35 Mz36 Mx37 Mz38 Mx39 Mz40 Mx41 Mz42 Mx43 Mz44 Mx45 Mz46 Mx47 Mz48 Mx49 Mz50 Mx51 Mz52 Mx53 Mz54 Mx55 Mz56; have Mx60 : Mw57.cell? ⟨Mg1, 0, none⟩ = some (.int .i64 o.f0) := (blk_cell MB58.out 0).trans rfl; have Mz61 := blk_frozen MB58.out 0; have Mx62 : Mw57.cell? ⟨Mg1, 1, none⟩ = some (.int .i64 o.f1) := (blk_cell MB58.out 1).trans rfl; have Mz63 := blk_frozen MB58.out 1; have Mx64 : Mw57.cell? ⟨Mg1, 2, none⟩ = some (.int .i64 o.f2) := (blk_cell MB58.out 2).trans rfl; have Mz65 := blk_frozen MB58.out 2; have Mx66 : Mw57.cell? ⟨Mg1, 3, none⟩ = some (.int .i64 o.f3) := (blk_cell MB58.out 3).trans rfl; have Mz67 := blk_frozen MB58.out 3; have Mx68 : Mw57.cell? ⟨Mg1, 4, none⟩ = some (.int .i64 o.f4) := (blk_cell MB58.out 4).trans rfl; have Mz69 := blk_frozen MB58.out 4; have Mx70 : Mw57.cell? ⟨Mg1, 5, none⟩ = some (.int .i64 o.f5) := (blk_cell MB58.out 5).trans rfl; have Mz71 := blk_frozen MB58.out 5; have Mx72 : Mw57.cell? ⟨Mg1, 6, none⟩ = some (.int .i64 o.f6) := (blk_cell MB58.out 6).trans rfl; have Mz73 := blk_frozen MB58.out 6; have Mx74 : Mw57.cell? ⟨Mg1, 7, none⟩ = some (.int .i64 o.f7) := (blk_cell MB58.out 7).trans rfl; have Mz75 := blk_frozen MB58.out 7; have Mx76 : Mw57.cell? ⟨Mg1, 8, none⟩ = some (.int .i64 o.f8) := (blk_cell MB58.out 8).trans rfl; have Mz77 := blk_frozen MB58.out 8; have Mx78 : Mw57.cell? ⟨Mg1, 9, none⟩ = some (.int .i64 o.f9) := (blk_cell MB58.out 9).trans rfl; have Mz79 := blk_frozen MB58.out 9; have Mx80 : Mw57.cell? ⟨Mg1, 10, none⟩ = some (.int .i64 o.f10) := (blk_cell MB58.out 10).trans rfl; have Mz81 := blk_frozen MB58.out 10; have Mx82 : Mw57.cell? ⟨Mg1, 11, none⟩ = some (.int .i64 o.f11) := (blk_cell MB58.out 11).trans rfl; have Mz83 := blk_frozen MB58.out 11))
      go_ret
      exact MPost.mk_ MH59.out (HBA0.out.below MH59.out) (KeptB.refl _ _)
    · rw [if_neg c2]
      have c2b : decide (64 ≤ (B.es.length : Int)) = false := decide_eq_false c2
      have c2n : decide (64 ≤ B.es.length) = false := decide_eq_false (by omega)
      have c2m : (64 ≤ B.es.length) = False := eq_false (by omega)
      clear c2
      go_enter Try.func33, Try.ntmps33
      go_wp2_with (first | ((with_reducible refine gate_dst (N := 3) rfl ?_); refine box_event ?hg (N := 3) ?hd (cs := #[.int .i64 o.f0, .int .i64 o.f1, .int .i64 o.f2, .int .i64 o.f3, .int .i64 o.f4, .int .i64 o.f5, .int .i64 o.f6, .int .i64 o.f7, .int .i64 o.f8, .int .i64 o.f9, .int .i64 o.f10, .int .i64 o.f11]) (t := 23) ?hr ?_; (case hd => rfl); (case hg => rfl); (case hr => first | (go_simp; done) | (go_simp; rfl)); intro Mg1 hg_ Mw2 hbox_ hb_; have MB3 := Aside0.mk hbox_; have MG4 : Aside0 (w.heap.size ≤ Mg1) := ⟨by rw [hg_]; exact below_size HB.out⟩; have MH5 := Aside0.mk (below_step HB.out hb_); clear hbox_ hb_ hg_; have Mx6 : Mw2.cell? ⟨Mg1, 0, none⟩ = some (.int .i64 o.f0) := (blk_cell MB3.out 0).trans rfl; have Mz7 := blk_frozen MB3.out 0; have Mx8 : Mw2.cell? ⟨Mg1, 1, none⟩ = some (.int .i64 o.f1) := (blk_cell MB3.out 1).trans rfl; have Mz9 := blk_frozen MB3.out 1; have Mx10 : Mw2.cell? ⟨Mg1, 2, none⟩ = some (.int .i64 o.f2) := (blk_cell MB3.out 2).trans rfl; have Mz11 := blk_frozen MB3.out 2; have Mx12 : Mw2.cell? ⟨Mg1, 3, none⟩ = some (.int .i64 o.f3) := (blk_cell MB3.out 3).trans rfl; have Mz13 := blk_frozen MB3.out 3; have Mx14 : Mw2.cell? ⟨Mg1, 4, none⟩ = some (.int .i64 o.f4) := (blk_cell MB3.out 4).trans rfl; have Mz15 := blk_frozen MB3.out 4; have Mx16 : Mw2.cell? ⟨Mg1, 5, none⟩ = some (.int .i64 o.f5) := (blk_cell MB3.out 5).trans rfl; have Mz17 := blk_frozen MB3.out 5; have Mx18 : Mw2.cell? ⟨Mg1, 6, none⟩ = some (.int .i64 o.f6) := (blk_cell MB3.out 6).trans rfl; have Mz19 := blk_frozen MB3.out 6; have Mx20 : Mw2.cell? ⟨Mg1, 7, none⟩ = some (.int .i64 o.f7) := (blk_cell MB3.out 7).trans rfl; have Mz21 := blk_frozen MB3.out 7; have Mx22 : Mw2.cell? ⟨Mg1, 8, none⟩ = some (.int .i64 o.f8) := (blk_cell MB3.out 8).trans rfl; have Mz23 := blk_frozen MB3.out 8; have Mx24 : Mw2.cell? ⟨Mg1, 9, none⟩ = some (.int .i64 o.f9) := (blk_cell MB3.out 9).trans rfl; have Mz25 := blk_frozen MB3.out 9; have Mx26 : Mw2.cell? ⟨Mg1, 10, none⟩ = some (.int .i64 o.f10) := (blk_cell MB3.out 10).trans rfl; have Mz27 := blk_frozen MB3.out 10; have Mx28 : Mw2.cell? ⟨Mg1, 11, none⟩ = some (.int .i64 o.f11) := (blk_cell MB3.out 11).trans rfl; have Mz29 := blk_frozen MB3.out 11) | (go_at_call 11; refine (Check_calls o _).mono ?_; rw [← HE.out]; rintro e Mw30 ⟨rfl, hb_⟩; have MB31 := Aside0.mk (blk_below MB3.out hb_); have MH32 := Aside0.mk (below_step MH5.out hb_); clear hb_; clear Mx6 Mz7 Mx8 Mz9 Mx10 Mz11 Mx12 Mz13 Mx14 Mz15 Mx16 Mz17 Mx18 Mz19 Mx20 Mz21 Mx22 Mz23 Mx24 Mz25 Mx26 Mz27 Mx28 Mz29; have Mx33 : Mw30.cell? ⟨Mg1, 0, none⟩ = some (.int .i64 o.f0) := (blk_cell MB31.out 0).trans rfl; have Mz34 := blk_frozen MB31.out 0; have Mx35 : Mw30.cell? ⟨Mg1, 1, none⟩ = some (.int .i64 o.f1) := (blk_cell MB31.out 1).trans rfl; have Mz36 := blk_frozen MB31.out 1; have Mx37 : Mw30.cell? ⟨Mg1, 2, none⟩ = some (.int .i64 o.f2) := (blk_cell MB31.out 2).trans rfl; have Mz38 := blk_frozen MB31.out 2; have Mx39 : Mw30.cell? ⟨Mg1, 3, none⟩ = some (.int .i64 o.f3) := (blk_cell MB31.out 3).trans rfl; have Mz40 := blk_frozen MB31.out 3; have Mx41 : Mw30.cell? ⟨Mg1, 4, none⟩ = some (.int .i64 o.f4) := (blk_cell MB31.out 4).trans rfl; have Mz42 := blk_frozen MB31.out 4; have Mx43 : Mw30.cell? ⟨Mg1, 5, none⟩ = some (.int .i64 o.f5) := (blk_cell MB31.out 5).trans rfl; have Mz44 := blk_frozen MB31.out 5; have Mx45 : Mw30.cell? ⟨Mg1, 6, none⟩ = some (.int .i64 o.f6) := (blk_cell MB31.out 6).trans rfl; have Mz46 := blk_frozen MB31.out 6; have Mx47 : Mw30.cell? ⟨Mg1, 7, none⟩ = some (.int .i64 o.f7) := (blk_cell MB31.out 7).trans rfl; have Mz48 := blk_frozen MB31.out 7; have Mx49 : Mw30.cell? ⟨Mg1, 8, none⟩ = some (.int .i64 o.f8) := (blk_cell MB31.out 8).trans rfl; have Mz50 := blk_frozen MB31.out 8; have Mx51 : Mw30.cell? ⟨Mg1, 9, none⟩ = some (.int .i64 o.f9) := (blk_cell MB31.out 9).trans rfl; have Mz52 := blk_frozen MB31.out 9; have Mx53 : Mw30.cell? ⟨Mg1, 10, none⟩ = some (.int .i64 o.f10) := (blk_cell MB31.out 10).trans rfl; have Mz54 := blk_frozen MB31.out 10; have Mx55 : Mw30.cell? ⟨Mg1, 11, none⟩ = some (.int .i64 o.f11) := (blk_cell MB31.out 11).trans rfl; have Mz56 := blk_frozen MB31.out 11) | (go_at_call 44; refine (find_calls o.f0 _ (HBA0.out.below MH32.out)).mono ?_; rw [← HK.out]; rintro e Mw57 ⟨rfl, hb_⟩; have MB58 := Aside0.mk (blk_below MB31.out hb_); have MH59 := Aside0.mk (below_step MH32.out hb_); clear hb_; have x0 : Mw57.cell? ⟨pb, 0, none⟩ = some (.slice A B.es.length c) := (blk_cell (HBA0.out.below MH59.out).blk 0).trans rfl; clear Mx33 Mz34 Mx35 Mz36 Mx37 Mz38 Mx39 Mz40 Mx41 Mz42 Mx43 Mz44 Mx45 Mz46 Mx47 Mz48 Mx49 Mz50 Mx51 Mz52 Mx53 Mz54 Mx55 Mz56; have Mx60 : Mw57.cell? ⟨Mg1, 0, none⟩ = some (.int .i64 o.f0) := (blk_cell MB58.out 0).trans rfl; have Mz61 := blk_frozen MB58.out 0; have Mx62 : Mw57.cell? ⟨Mg1, 1, none⟩ = some (.int .i64 o.f1) := (blk_cell MB58.out 1).trans rfl; have Mz63 := blk_frozen MB58.out 1; have Mx64 : Mw57.cell? ⟨Mg1, 2, none⟩ = some (.int .i64 o.f2) := (blk_cell MB58.out 2).trans rfl; have Mz65 := blk_frozen MB58.out 2; have Mx66 : Mw57.cell? ⟨Mg1, 3, none⟩ = some (.int .i64 o.f3) := (blk_cell MB58.out 3).trans rfl; have Mz67 := blk_frozen MB58.out 3; have Mx68 : Mw57.cell? ⟨Mg1, 4, none⟩ = some (.int .i64 o.f4) := (blk_cell MB58.out 4).trans rfl; have Mz69 := blk_frozen MB58.out 4; have Mx70 : Mw57.cell? ⟨Mg1, 5, none⟩ = some (.int .i64 o.f5) := (blk_cell MB58.out 5).trans rfl; have Mz71 := blk_frozen MB58.out 5; have Mx72 : Mw57.cell? ⟨Mg1, 6, none⟩ = some (.int .i64 o.f6) := (blk_cell MB58.out 6).trans rfl; have Mz73 := blk_frozen MB58.out 6; have Mx74 : Mw57.cell? ⟨Mg1, 7, none⟩ = some (.int .i64 o.f7) := (blk_cell MB58.out 7).trans rfl; have Mz75 := blk_frozen MB58.out 7; have Mx76 : Mw57.cell? ⟨Mg1, 8, none⟩ = some (.int .i64 o.f8) := (blk_cell MB58.out 8).trans rfl; have Mz77 := blk_frozen MB58.out 8; have Mx78 : Mw57.cell? ⟨Mg1, 9, none⟩ = some (.int .i64 o.f9) := (blk_cell MB58.out 9).trans rfl; have Mz79 := blk_frozen MB58.out 9; have Mx80 : Mw57.cell? ⟨Mg1, 10, none⟩ = some (.int .i64 o.f10) := (blk_cell MB58.out 10).trans rfl; have Mz81 := blk_frozen MB58.out 10; have Mx82 : Mw57.cell? ⟨Mg1, 11, none⟩ = some (.int .i64 o.f11) := (blk_cell MB58.out 11).trans rfl; have Mz83 := blk_frozen MB58.out 11))
      refine start_ (n := 12) (S := fun w' => w'.cell? ⟨pb, 0, none⟩ = some (.slice A B.es.length c) ∧ w'.cell? ⟨Mg1, 0, none⟩ = some (.int .i64 o.f0) ∧ w'.cell? ⟨Mg1, 1, none⟩ = some (.int .i64 o.f1) ∧ w'.cell? ⟨Mg1, 2, none⟩ = some (.int .i64 o.f2) ∧ w'.cell? ⟨Mg1, 3, none⟩ = some (.int .i64 o.f3) ∧ w'.cell? ⟨Mg1, 4, none⟩ = some (.int .i64 o.f4) ∧ w'.cell? ⟨Mg1, 5, none⟩ = some (.int .i64 o.f5) ∧ w'.cell? ⟨Mg1, 6, none⟩ = some (.int .i64 o.f6) ∧ w'.cell? ⟨Mg1, 7, none⟩ = some (.int .i64 o.f7) ∧ w'.cell? ⟨Mg1, 8, none⟩ = some (.int .i64 o.f8) ∧ w'.cell? ⟨Mg1, 9, none⟩ = some (.int .i64 o.f9) ∧ w'.cell? ⟨Mg1, 10, none⟩ = some (.int .i64 o.f10) ∧ w'.cell? ⟨Mg1, 11, none⟩ = some (.int .i64 o.f11)) (ds := [8, 11]) #[false, false, false, false, false, false, false, false, false, false, false, false] (by kernel_rfl) rfl rfl ⟨x0, (blk_cell (blk_drew MB58.out) 0).trans rfl, (blk_cell (blk_drew MB58.out) 1).trans rfl, (blk_cell (blk_drew MB58.out) 2).trans rfl, (blk_cell (blk_drew MB58.out) 3).trans rfl, (blk_cell (blk_drew MB58.out) 4).trans rfl, (blk_cell (blk_drew MB58.out) 5).trans rfl, (blk_cell (blk_drew MB58.out) 6).trans rfl, (blk_cell (blk_drew MB58.out) 7).trans rfl, (blk_cell (blk_drew MB58.out) 8).trans rfl, (blk_cell (blk_drew MB58.out) 9).trans rfl, (blk_cell (blk_drew MB58.out) 10).trans rfl, (blk_cell (blk_drew MB58.out) 11).trans rfl⟩ (fun hHeld => ?_); refine with_tabW add.tab10 add.bits10 (fun HT_ HW_ => ?_)
      have HB0 := Aside0.mk (below_drew1 MH59.out); have HB1 := Aside0.mk ((HBA0.out.below MH59.out).drew); generalize Mw57.drew = w1 at HB0 HB1 hHeld ⊢
      refine pure_ (i := 0) (N := some 24) (v := ?_) (a' := ?_) #[true, false, false, false, false, false, false, false, false, false, false, false] rfl rfl (any_of HT_.out (by kernel_rfl)) (fun _ _ _ h => h) (Or.inl ⟨by rfl, ?_⟩) ?_ ?_
      rotate_left
      · intro w'
        go_simp
        with_reducible rfl
      rotate_left
      · simp only [Act.put, List.setIfInBounds_toArray, List.set_cons_zero, List.set_cons_succ, i64_w, i32_w]
        rfl
      refine pure_ (i := 1) (N := some 25) (v := ?_) (a' := ?_) #[true, true, false, false, false, false, false, false, false, false, false, false] rfl rfl (any_of HT_.out (by kernel_rfl)) (fun _ _ _ h => h) (Or.inl ⟨by rfl, ?_⟩) ?_ ?_
      rotate_left
      · intro w'
        go_simp
        with_reducible rfl
      rotate_left
      · simp only [Act.put, List.setIfInBounds_toArray, List.set_cons_zero, List.set_cons_succ, i64_w, i32_w]
        rfl
      refine pure_ (i := 2) (N := some 26) (v := ?_) (a' := ?_) #[true, true, true, false, false, false, false, false, false, false, false, false] rfl rfl (any_of HT_.out (by kernel_rfl)) (fun _ _ _ h => h) (Or.inl ⟨by rfl, ?_⟩) ?_ ?_
      rotate_left
      · intro w'
        go_simp
        with_reducible rfl
      rotate_left
      · simp only [Act.put, List.setIfInBounds_toArray, List.set_cons_zero, List.set_cons_succ, i64_w, i32_w]
        rfl
      refine pure_ (i := 3) (N := some 27) (v := ?_) (a' := ?_) #[true, true, true, true, false, false, false, false, false, false, false, false] rfl rfl (any_of HT_.out (by kernel_rfl)) (fun _ _ _ h => h) (Or.inl ⟨by rfl, ?_⟩) ?_ ?_
      rotate_left
      · intro w'
        go_simp
        with_reducible rfl
      rotate_left
      · simp only [Act.put, List.setIfInBounds_toArray, List.set_cons_zero, List.set_cons_succ, i64_w, i32_w]
        rfl
      refine take_ (i := 4) (N := some 28) (v := ?_) (a' := ?_) #[true, true, true, true, true, false, false, false, false, false, false, false] rfl rfl (take_ofW HT_.out HW_.out (by kernel_rfl)) (fun _ _ _ h => h) (Or.inl ⟨by rfl, ?_⟩) hHeld ?_ ?_
      rotate_left
      · rintro w' ⟨s0, s1, s2, s3, s4, s5, s6, s7, s8, s9, s10, s11, s12⟩
        go_simp
        with_reducible rfl
      rotate_left
      · simp only [Act.put, List.setIfInBounds_toArray, List.set_cons_zero, List.set_cons_succ, i64_w, i32_w]
        rfl
      refine take_ (i := 5) (N := some 29) (v := ?_) (a' := ?_) #[true, true, true, true, true, true, false, false, false, false, false, false] rfl rfl (take_ofW HT_.out HW_.out (by kernel_rfl)) (fun _ _ _ h => h) (Or.inl ⟨by rfl, ?_⟩) hHeld ?_ ?_
      rotate_left
      · rintro w' ⟨s0, s1, s2, s3, s4, s5, s6, s7, s8, s9, s10, s11, s12⟩
        go_simp
        with_reducible rfl
      rotate_left
      · simp only [Act.put, List.setIfInBounds_toArray, List.set_cons_zero, List.set_cons_succ, i64_w, i32_w]
        rfl
      refine pure_ (i := 6) (N := some 30) (v := ?_) (a' := ?_) #[true, true, true, true, true, true, true, false, false, false, false, false] rfl rfl (any_of HT_.out (by kernel_rfl)) (fun _ _ _ h => h) (Or.inl ⟨by rfl, ?_⟩) ?_ ?_
      rotate_left
      · intro w'
        go_simp
        with_reducible rfl
      rotate_left
      · simp only [Act.put, List.setIfInBounds_toArray, List.set_cons_zero, List.set_cons_succ, i64_w, i32_w]
        rfl
      refine one_ (i := 7) (N := some 31) #[true, true, true, true, true, true, true, true, false, false, false, false] rfl rfl (one_of HT_.out (by kernel_rfl)) (by decide) (fun K hK => ?_)
      refine value_ (w1 := ?_) (v := ?_) (by rfl) rfl ?_ ?_
      rotate_left 2
      · go_simp
        constructor
        · rfl
        · rfl
      refine hK.out _ _ ⟨(World.cell?_alloc_lt _ _ _ (World.block_lt_of_cell? _ _ (hHeld.1))).trans (hHeld.1), (World.cell?_alloc_lt _ _ _ (World.block_lt_of_cell? _ _ (hHeld.2.1))).trans (hHeld.2.1), (World.cell?_alloc_lt _ _ _ (World.block_lt_of_cell? _ _ (hHeld.2.2.1))).trans (hHeld.2.2.1), (World.cell?_alloc_lt _ _ _ (World.block_lt_of_cell? _ _ (hHeld.2.2.2.1))).trans (hHeld.2.2.2.1), (World.cell?_alloc_lt _ _ _ (World.block_lt_of_cell? _ _ (hHeld.2.2.2.2.1))).trans (hHeld.2.2.2.2.1), (World.cell?_alloc_lt _ _ _ (World.block_lt_of_cell? _ _ (hHeld.2.2.2.2.2.1))).trans (hHeld.2.2.2.2.2.1), (World.cell?_alloc_lt _ _ _ (World.block_lt_of_cell? _ _ (hHeld.2.2.2.2.2.2.1))).trans (hHeld.2.2.2.2.2.2.1), (World.cell?_alloc_lt _ _ _ (World.block_lt_of_cell? _ _ (hHeld.2.2.2.2.2.2.2.1))).trans (hHeld.2.2.2.2.2.2.2.1), (World.cell?_alloc_lt _ _ _ (World.block_lt_of_cell? _ _ (hHeld.2.2.2.2.2.2.2.2.1))).trans (hHeld.2.2.2.2.2.2.2.2.1), (World.cell?_alloc_lt _ _ _ (World.block_lt_of_cell? _ _ (hHeld.2.2.2.2.2.2.2.2.2.1))).trans (hHeld.2.2.2.2.2.2.2.2.2.1), (World.cell?_alloc_lt _ _ _ (World.block_lt_of_cell? _ _ (hHeld.2.2.2.2.2.2.2.2.2.2.1))).trans (hHeld.2.2.2.2.2.2.2.2.2.2.1), (World.cell?_alloc_lt _ _ _ (World.block_lt_of_cell? _ _ (hHeld.2.2.2.2.2.2.2.2.2.2.2.1))).trans (hHeld.2.2.2.2.2.2.2.2.2.2.2.1), (World.cell?_alloc_lt _ _ _ (World.block_lt_of_cell? _ _ (hHeld.2.2.2.2.2.2.2.2.2.2.2.2))).trans (hHeld.2.2.2.2.2.2.2.2.2.2.2.2)⟩ (fun hHeld => ?_)
      clear hK K
      refine norm_ (a' := ?_) ?_ ?_
      rotate_left
      · show Act.put _ (some 31) _ = _
        simp only [Act.put, List.setIfInBounds_toArray, List.set_cons_zero, List.set_cons_succ, i64_w, i32_w]
        rfl
      refine last_ (i := 8) (N := some 32) #[true, true, true, true, true, true, true, true, true, false, false, false] rfl rfl (one_of HT_.out (by kernel_rfl)) (by decide) (fun K hK => ?_)
      refine Kd.S_append_step k68 (w0 := w1) base (by rfl) (.tmp 28) (.tmp 31) 59 68 (.agg #[.int .i64 0, .int .i64 0, .int .i64 0, .int .i64 0, .int .i64 0, .int .i64 0, .int .i64 0, .int .i64 0, .int .i64 0, .int .i64 0, .int .i64 0, .int .i64 0, .slice none 0 0, .bool false]) 128 rfl Try.underlying59 info68 rfl (by decide) (by omega) (.slice A B.es.length c) B.es ⟨o, [], false⟩ [.int .i64 o.f0, .int .i64 o.f1, .int .i64 o.f2, .int .i64 o.f3, .int .i64 o.f4, .int .i64 o.f5, .int .i64 o.f6, .int .i64 o.f7, .int .i64 o.f8, .int .i64 o.f9, .int .i64 o.f10, .int .i64 o.f11, .slice none 0 0, .bool false] (fun k => (P k ∨ w1.heap.size ≤ k) ∧ k ≠ pb ∧ k ≠ pm) (fun _ => False) rfl (by first | (go_simp; done) | (go_simp; rfl)) ?aP (fun _ hk => hk.elim) ?aF ?aO (Below.refl _ _) (Nat.le_trans HBASE.out (below_size HB0.out)) ?aL ?_
      (case aP => exact k68_mkM _ _ _ (⟨o, [], false⟩ : S68) (Kd.R_nil _ _ _ _ _))
      (case aF => exact fun k hk => ⟨.inr hk, fun e => by have := HB1.out.lt.1; omega, fun e => by have := HB1.out.lt.2; omega⟩)
      (case aO => exact Kd.S_mono HB1.out.ent (fun k hk => ⟨⟨.inl hk.1, hk.2⟩, fun h => h⟩))
      (case aL => have := HOK.out.es; omega)
      intro va w9 ho hb hg hat
      have HO9 := Aside0.mk ho
      have HG9 := Aside0.mk hg
      obtain ⟨A9, c9, e9⟩ := Kd.S_slice ho
      rw [List.length_append, List.length_singleton] at e9
      subst e9
      have hxf : w9.cell? ⟨pb, 0, none⟩ = some (.slice A B.es.length c) := (blk_cell (blk_grown HB1.out.blk hg (fun e => ((Kd.S_R HB1.out.ent).1 pb e.symm).2.1 rfl)) 0).trans rfl
      have hff := blk_frozen (blk_grown HB1.out.blk hg (fun e => ((Kd.S_R HB1.out.ent).1 pb e.symm).2.1 rfl)) 0
      refine hK.out _ _ ?_
      clear hK K
      refine norm_ (a' := ?_) ?_ ?_
      rotate_left
      · show Act.put _ (some 32) _ = _
        simp only [Act.put, List.setIfInBounds_toArray, List.set_cons_zero, List.set_cons_succ, i64_w, i32_w]
        rfl
      refine pure_ (i := 9) (N := some 33) (v := ?_) (a' := ?_) #[true, true, true, true, true, true, true, true, true, true, false, false] rfl rfl (any_of HT_.out (by kernel_rfl)) (fun _ _ _ h => h) (Or.inl ⟨by rfl, ?_⟩) ?_ ?_
      rotate_left
      · intro w'
        go_simp
        with_reducible rfl
      rotate_left
      · simp only [Act.put, List.setIfInBounds_toArray, List.set_cons_zero, List.set_cons_succ, i64_w, i32_w]
        rfl
      refine pure_ (i := 10) (N := some 34) (v := ?_) (a' := ?_) #[true, true, true, true, true, true, true, true, true, true, true, false] rfl rfl (any_of HT_.out (by kernel_rfl)) (fun _ _ _ h => h) (Or.inl ⟨by rfl, ?_⟩) ?_ ?_
      rotate_left
      · intro w'
        go_simp
        with_reducible rfl
      rotate_left
      · simp only [Act.put, List.setIfInBounds_toArray, List.set_cons_zero, List.set_cons_succ, i64_w, i32_w]
        rfl
      refine last_ (i := 11) (N := none) #[true, true, true, true, true, true, true, true, true, true, true, true] rfl rfl (one_of HT_.out (by kernel_rfl)) (by decide) (fun K hK => ?_)
      refine skip_ (w1 := ?_) (by rfl) rfl ?_ ?_
      rotate_left
      · go_simp
        rfl
      refine hK.out _ _ ?_
      clear hK K
      refine done_ (done_of HT_.out (by kernel_rfl)) ?_
      go_wp2
      go_ret
      obtain ⟨h1, h2⟩ := HB1.out.ents HG9.out HO9.out
      exact MPost.mk2 HB0.out h1 h2
  · rw [if_neg c0]
    have c0b : (e0 != 0) = true := bne_iff_ne.mpr c0
    clear c0
    go_enter Try.func33, Try.ntmps33
    go_wp2_with (first | ((with_reducible refine gate_dst (N := 3) rfl ?_); refine box_event ?hg (N := 3) ?hd (cs := #[.int .i64 o.f0, .int .i64 o.f1, .int .i64 o.f2, .int .i64 o.f3, .int .i64 o.f4, .int .i64 o.f5, .int .i64 o.f6, .int .i64 o.f7, .int .i64 o.f8, .int .i64 o.f9, .int .i64 o.f10, .int .i64 o.f11]) (t := 23) ?hr ?_; (case hd => rfl); (case hg => rfl); (case hr => first | (go_simp; done) | (go_simp; rfl)); intro Mg1 hg_ Mw2 hbox_ hb_; have MB3 := Aside0.mk hbox_; have MG4 : Aside0 (w.heap.size ≤ Mg1) := ⟨by rw [hg_]; exact below_size HB.out⟩; have MH5 := Aside0.mk (below_step HB.out hb_); clear hbox_ hb_ hg_; have Mx6 : Mw2.cell? ⟨Mg1, 0, none⟩ = some (.int .i64 o.f0) := (blk_cell MB3.out 0).trans rfl; have Mz7 := blk_frozen MB3.out 0; have Mx8 : Mw2.cell? ⟨Mg1, 1, none⟩ = some (.int .i64 o.f1) := (blk_cell MB3.out 1).trans rfl; have Mz9 := blk_frozen MB3.out 1; have Mx10 : Mw2.cell? ⟨Mg1, 2, none⟩ = some (.int .i64 o.f2) := (blk_cell MB3.out 2).trans rfl; have Mz11 := blk_frozen MB3.out 2; have Mx12 : Mw2.cell? ⟨Mg1, 3, none⟩ = some (.int .i64 o.f3) := (blk_cell MB3.out 3).trans rfl; have Mz13 := blk_frozen MB3.out 3; have Mx14 : Mw2.cell? ⟨Mg1, 4, none⟩ = some (.int .i64 o.f4) := (blk_cell MB3.out 4).trans rfl; have Mz15 := blk_frozen MB3.out 4; have Mx16 : Mw2.cell? ⟨Mg1, 5, none⟩ = some (.int .i64 o.f5) := (blk_cell MB3.out 5).trans rfl; have Mz17 := blk_frozen MB3.out 5; have Mx18 : Mw2.cell? ⟨Mg1, 6, none⟩ = some (.int .i64 o.f6) := (blk_cell MB3.out 6).trans rfl; have Mz19 := blk_frozen MB3.out 6; have Mx20 : Mw2.cell? ⟨Mg1, 7, none⟩ = some (.int .i64 o.f7) := (blk_cell MB3.out 7).trans rfl; have Mz21 := blk_frozen MB3.out 7; have Mx22 : Mw2.cell? ⟨Mg1, 8, none⟩ = some (.int .i64 o.f8) := (blk_cell MB3.out 8).trans rfl; have Mz23 := blk_frozen MB3.out 8; have Mx24 : Mw2.cell? ⟨Mg1, 9, none⟩ = some (.int .i64 o.f9) := (blk_cell MB3.out 9).trans rfl; have Mz25 := blk_frozen MB3.out 9; have Mx26 : Mw2.cell? ⟨Mg1, 10, none⟩ = some (.int .i64 o.f10) := (blk_cell MB3.out 10).trans rfl; have Mz27 := blk_frozen MB3.out 10; have Mx28 : Mw2.cell? ⟨Mg1, 11, none⟩ = some (.int .i64 o.f11) := (blk_cell MB3.out 11).trans rfl; have Mz29 := blk_frozen MB3.out 11) | (go_at_call 11; refine (Check_calls o _).mono ?_; rw [← HE.out]; rintro e Mw30 ⟨rfl, hb_⟩; have MB31 := Aside0.mk (blk_below MB3.out hb_); have MH32 := Aside0.mk (below_step MH5.out hb_); clear hb_; clear Mx6 Mz7 Mx8 Mz9 Mx10 Mz11 Mx12 Mz13 Mx14 Mz15 Mx16 Mz17 Mx18 Mz19 Mx20 Mz21 Mx22 Mz23 Mx24 Mz25 Mx26 Mz27 Mx28 Mz29; have Mx33 : Mw30.cell? ⟨Mg1, 0, none⟩ = some (.int .i64 o.f0) := (blk_cell MB31.out 0).trans rfl; have Mz34 := blk_frozen MB31.out 0; have Mx35 : Mw30.cell? ⟨Mg1, 1, none⟩ = some (.int .i64 o.f1) := (blk_cell MB31.out 1).trans rfl; have Mz36 := blk_frozen MB31.out 1; have Mx37 : Mw30.cell? ⟨Mg1, 2, none⟩ = some (.int .i64 o.f2) := (blk_cell MB31.out 2).trans rfl; have Mz38 := blk_frozen MB31.out 2; have Mx39 : Mw30.cell? ⟨Mg1, 3, none⟩ = some (.int .i64 o.f3) := (blk_cell MB31.out 3).trans rfl; have Mz40 := blk_frozen MB31.out 3; have Mx41 : Mw30.cell? ⟨Mg1, 4, none⟩ = some (.int .i64 o.f4) := (blk_cell MB31.out 4).trans rfl; have Mz42 := blk_frozen MB31.out 4; have Mx43 : Mw30.cell? ⟨Mg1, 5, none⟩ = some (.int .i64 o.f5) := (blk_cell MB31.out 5).trans rfl; have Mz44 := blk_frozen MB31.out 5; have Mx45 : Mw30.cell? ⟨Mg1, 6, none⟩ = some (.int .i64 o.f6) := (blk_cell MB31.out 6).trans rfl; have Mz46 := blk_frozen MB31.out 6; have Mx47 : Mw30.cell? ⟨Mg1, 7, none⟩ = some (.int .i64 o.f7) := (blk_cell MB31.out 7).trans rfl; have Mz48 := blk_frozen MB31.out 7; have Mx49 : Mw30.cell? ⟨Mg1, 8, none⟩ = some (.int .i64 o.f8) := (blk_cell MB31.out 8).trans rfl; have Mz50 := blk_frozen MB31.out 8; have Mx51 : Mw30.cell? ⟨Mg1, 9, none⟩ = some (.int .i64 o.f9) := (blk_cell MB31.out 9).trans rfl; have Mz52 := blk_frozen MB31.out 9; have Mx53 : Mw30.cell? ⟨Mg1, 10, none⟩ = some (.int .i64 o.f10) := (blk_cell MB31.out 10).trans rfl; have Mz54 := blk_frozen MB31.out 10; have Mx55 : Mw30.cell? ⟨Mg1, 11, none⟩ = some (.int .i64 o.f11) := (blk_cell MB31.out 11).trans rfl; have Mz56 := blk_frozen MB31.out 11))
    go_ret
    exact MPost.mk_ MH32.out (HBA0.out.below MH32.out) (KeptB.refl _ _)
def Bk.Assign (B : Bk) (id roll : Int) : Bk × Int := if (B.open_ id).2 = 0 then (if roll < 1 then (B, 1) else if roll > 1000000 then (B, 1) else if (B.asg roll).isSome = true then (B, 6) else if ((rd_T68 B.es (B.open_ id).1).f1.length : Int) ≥ wrap64 ((rd_T68 B.es (B.open_ id).1).f0.f6 + (rd_T68 B.es (B.open_ id).1).f0.f7) then (B, 32) else (⟨B.es.set (B.open_ id).1.toNat { rd_T68 B.es (B.open_ id).1 with f1 := (rd_T68 B.es (B.open_ id).1).f1 ++ [roll] }, B.n + 1, Plm.plUpd B.asg roll (some ((B.open_ id).1, false))⟩, 0)) else (B, (B.open_ id).2)
set_option maxHeartbeats 16000000 in
theorem Assign_calls {base : Nat} {P : Nat → Prop} {pb pm : Nat} {ve : Value} {B : Bk} (id roll : Int) (w : World) (hB : BAt base P pb ve pm w B) (hok : B.Ok) (hbase : base ≤ w.heap.size) :
    Calls Try.prog 23 #[.pointer (some ⟨pb, 0, none⟩), .int .i64 id, .int .i64 roll] w (MPost base P pb pm w (B.Assign id roll).1 (B.Assign id roll).2) := by
  have hu61 := Try.underlying61
  have hu65 := Try.underlying65
  have hu68 := Try.underlying68
  have hu23 := Try.underlying23
  obtain ⟨A, c, rfl⟩ := hB.slice
  have HV := Aside0.mk (open_calls id w hB)
  have HB := Aside0.mk hB
  have HOK := Aside0.mk hok
  have HBASE := Aside0.mk hbase
  have HO : Aside0 ((B.open_ id).2 = 0 → 0 ≤ (B.open_ id).1 ∧ (B.open_ id).1 < (B.es.length : Int)) := ⟨open_ok⟩
  clear hB hok hbase
  unfold Bk.Assign
  generalize B.open_ id = o at HV HO ⊢
  obtain ⟨k, eo⟩ := o
  simp only at HV HO ⊢
  by_cases c0 : eo = 0
  · rw [if_pos c0]
    subst c0
    obtain ⟨hk0, hk1⟩ := HO.out rfl
    by_cases c1 : roll < 1
    · rw [if_pos c1]
      have c1b : decide (roll < 1) = true := decide_eq_true c1
      clear c1
      go_enter Try.func23, Try.ntmps23
      go_wp2_with (go_at_call 47; refine HV.out.mono ?_; rintro e w1 ⟨rfl, hb⟩)
      go_ret
      exact MPost.mk_ hb (HB.out.below hb) (KeptB.refl _ _)
    rw [if_neg c1]
    have c1b : decide (roll < 1) = false := decide_eq_false c1
    by_cases c2 : roll > 1000000
    · rw [if_pos c2]
      have c2b : decide (1000000 < roll) = true := decide_eq_true c2
      clear c1 c2
      go_enter Try.func23, Try.ntmps23
      go_wp2_with (go_at_call 47; refine HV.out.mono ?_; rintro e w1 ⟨rfl, hb⟩)
      go_ret
      exact MPost.mk_ hb (HB.out.below hb) (KeptB.refl _ _)
    rw [if_neg c2]
    have c2b : decide (1000000 < roll) = false := decide_eq_false c2
    have HW : Aside0 ((Lit.int .i64 roll).wf = true) := ⟨Plm.wf_of (by omega) (by omega)⟩
    clear c1 c2
    cases hp : B.asg roll with
    | some p =>
      rw [if_pos (by simp)]
      have HP := Aside0.mk hp
      clear hp
      obtain ⟨en, sh⟩ := p
      go_enter Try.func23, Try.ntmps23
      go_wp2_with (first | (go_at_call 47; refine HV.out.mono ?_; rintro e w1 ⟨rfl, hb⟩; have HB1 := Aside0.mk hb; have HBA := Aside0.mk (HB.out.below hb); have x1 : w1.cell? ⟨pb, 1, none⟩ = some (.map (some pm)) := (blk_cell HBA.out.blk 1).trans rfl; clear hb) | (at_lookup; refine Plm.pl_lookup_ok rfl _ _ 58 rfl Try.underlying3 Try.underlying58 (zero65 _) rfl HBA.out.map roll rfl HW.out ?_; rw [HP.out]; simp only [Option.getD_some, Option.isSome_some]))
      go_ret
      exact MPost.mk_ (below_alloc HB1.out _) ((HBA.out).alloc _) (KeptB.refl _ _)
    | none =>
      rw [if_neg (by simp)]
      have HP := Aside0.mk hp
      clear hp
      obtain ⟨x, hx⟩ : ∃ x, x = rd_T68 B.es k := ⟨_, rfl⟩
      have HX := Aside0.mk hx
      have HXL : Aside0 (x.f1.length < 1000) := ⟨by rw [hx]; exact (HOK.out.rolls _ (rd68_mem hk0 hk1)).1⟩
      rw [← hx]
      clear hx
      have p1 := eq_true hk0
      have q1 := eq_true hk1
      have HK0 := Aside0.mk hk0
      have HK1 := Aside0.mk hk1
      clear hk0 hk1
      by_cases c3 : (x.f1.length : Int) ≥ wrap64 (x.f0.f6 + x.f0.f7)
      · rw [if_pos c3]
        have c3b : decide (wrap64 (x.f0.f6 + x.f0.f7) ≤ (x.f1.length : Int)) = true := decide_eq_true c3
        have c3w : decide (IntKind.i64.wrap (x.f0.f6 + x.f0.f7) ≤ (x.f1.length : Int)) = true := by rw [i64_w]; exact c3b
        clear c3
        go_enter Try.func23, Try.ntmps23
        go_wp2_with (first | (go_at_call 47; refine HV.out.mono ?_; rintro e w1 ⟨rfl, hb⟩; have HB1 := Aside0.mk hb; have HBA := Aside0.mk (HB.out.below hb); have x1 : w1.cell? ⟨pb, 1, none⟩ = some (.map (some pm)) := (blk_cell HBA.out.blk 1).trans rfl; obtain ⟨g, A0_, c0_, eA, _⟩ := HBA.out.elem k HK0.out HK1.out; subst eA; have x0 : ∀ o, (w1.alloc o).cell? ⟨pb, 0, none⟩ = some (.slice (some ⟨g, 0, none⟩) B.es.length c) := fun o => (blk_cell (HBA.out.alloc o).blk 0).trans rfl; clear hb) | (at_lookup; refine Plm.pl_lookup_ok rfl _ _ 58 rfl Try.underlying3 Try.underlying58 (zero65 _) rfl HBA.out.map roll rfl HW.out ?_; rw [HP.out]; simp only [Option.getD_none, Option.isSome_none]))
        have HB2 := Aside0.mk (below_alloc HB1.out (.cells #[.int .i64 0, .bool false] 65 (0, 0)))
        have HBA2 := Aside0.mk (HBA.out.alloc (.cells #[.int .i64 0, .bool false] 65 (0, 0)))
        clear x0 x1
        generalize w1.alloc (.cells #[.int .i64 0, .bool false] 65 (0, 0)) = w2 at HB2 HBA2 ⊢
        have x2 : w2.cell? ⟨pb, 0, none⟩ = some (.slice (some ⟨g, 0, none⟩) B.es.length c) := (blk_cell HBA2.out.blk 0).trans rfl
        obtain ⟨g2, A12, c12, eA2, y0, y1, y2, y3, y4, y5, y6, y7, y8, y9, y10, y11, y12, y13, hl12, hC12, hfz, _, _, _, _⟩ := HBA2.out.elem k HK0.out HK1.out
        cases eA2
        rw [← HX.out] at y0 y1 y2 y3 y4 y5 y6 y7 y8 y9 y10 y11 y12 y13 hl12 hC12
        clear hC12 hl12
        go_quiet (fail)
        go_wp2
        go_ret
        exact MPost.mk_ (pw_below_drewN HB2.out _) (HBA2.out.below (pw_below_drewN (Below.refl _ _) _)) (KeptB.refl _ _)
      · rw [if_neg c3]
        have c3b : decide (wrap64 (x.f0.f6 + x.f0.f7) ≤ (x.f1.length : Int)) = false := decide_eq_false c3
        have c3w : decide (IntKind.i64.wrap (x.f0.f6 + x.f0.f7) ≤ (x.f1.length : Int)) = false := by rw [i64_w]; exact c3b
        clear c3
        go_enter Try.func23, Try.ntmps23
        go_wp2_with (first | (go_at_call 47; refine HV.out.mono ?_; rintro e w1 ⟨rfl, hb⟩; have HB1 := Aside0.mk hb; have HBA := Aside0.mk (HB.out.below hb); have x1 : w1.cell? ⟨pb, 1, none⟩ = some (.map (some pm)) := (blk_cell HBA.out.blk 1).trans rfl; obtain ⟨g, A0_, c0_, eA, _⟩ := HBA.out.elem k HK0.out HK1.out; subst eA; have x0 : ∀ o, (w1.alloc o).cell? ⟨pb, 0, none⟩ = some (.slice (some ⟨g, 0, none⟩) B.es.length c) := fun o => (blk_cell (HBA.out.alloc o).blk 0).trans rfl; clear hb) | (at_lookup; refine Plm.pl_lookup_ok rfl _ _ 58 rfl Try.underlying3 Try.underlying58 (zero65 _) rfl HBA.out.map roll rfl HW.out ?_; rw [HP.out]; simp only [Option.getD_none, Option.isSome_none]))
        have HB2 := Aside0.mk (below_alloc HB1.out (.cells #[.int .i64 0, .bool false] 65 (0, 0)))
        have HBA2 := Aside0.mk (HBA.out.alloc (.cells #[.int .i64 0, .bool false] 65 (0, 0)))
        clear x0 x1
        generalize w1.alloc (.cells #[.int .i64 0, .bool false] 65 (0, 0)) = w2 at HB2 HBA2 ⊢
        have x2 : w2.cell? ⟨pb, 0, none⟩ = some (.slice (some ⟨g, 0, none⟩) B.es.length c) := (blk_cell HBA2.out.blk 0).trans rfl
        obtain ⟨g2, A12, c12, eA2, y0, y1, y2, y3, y4, y5, y6, y7, y8, y9, y10, y11, y12, y13, hl12, hC12, hfz, _, _, _, _⟩ := HBA2.out.elem k HK0.out HK1.out
        cases eA2
        rw [← HX.out] at y0 y1 y2 y3 y4 y5 y6 y7 y8 y9 y10 y11 y12 y13 hl12 hC12
        clear hC12 hl12
        go_quiet (fail)
        have HBA3 := Aside0.mk (HBA2.out.below (pw_below_drewN (Below.refl _ _) nq))
        have HB3 := Aside0.mk (pw_below_drewN HB2.out nq)
        clear HBA2 HB2 x2 y0 y1 y2 y3 y4 y5 y6 y7 y8 y9 y10 y11 y12 y13 hfz
        generalize w2.drewN nq = w3 at HBA3 HB3 ⊢
        obtain ⟨oki, A13, c13, hR, hc13, hoki, hback⟩ := HBA3.out.row k HK0.out HK1.out
        rw [← HX.out] at hR hc13 hback
        have HR := Aside0.mk hR
        have HOKI := Aside0.mk hoki
        have HBACK : Aside0 (∀ {w4 : World} {v' : Value} {xs' : List Int}, w3.grownBy w4 (.slice A13 x.f1.length c13 : Value).ownBlock → Kd.R (Kd.int .i64) 3 w4 base (fun q => oki q ∨ w3.heap.size ≤ q) v' xs' → BAt base (fun q => P q ∨ w3.heap.size ≤ q) pb (.slice (some ⟨g, 0, none⟩) B.es.length c) pm (w4.setCell ⟨g, k.toNat * 14 + 12, none⟩ v') { B with es := B.es.set k.toNat { x with f1 := xs' } } ∧ KeptB w3 (w4.setCell ⟨g, k.toNat * 14 + 12, none⟩ v') P) := ⟨hback⟩
        clear hR hoki hback
        obtain ⟨cl3, hcl3⟩ := Kd.S_typed HBA3.out.ent g rfl
        have HC3 := Aside0.mk hcl3
        have HE12 : Aside0 (cl3[k.toNat * 14 + 12]? = some (.slice A13 x.f1.length c13)) := ⟨(blk_cell hcl3 _).symm.trans hc13⟩
        clear hcl3
        go_wp2_with (first | ((with_reducible refine gate_builtin (b := .append) (xs := #[.tmp 66, .tmp 68]) rfl ?_); at_builtin; refine Kd.R_append (Kd.int .i64) (w0 := w3) base rfl (.tmp 66) (.tmp 68) 39 3 (.int .i64 0) 8 rfl Try.underlying39 info3 rfl (by decide) (by omega) (.slice A13 x.f1.length c13) x.f1 roll [.int .i64 roll] (fun q => oki q ∨ w3.heap.size ≤ q) (fun _ => False) rfl rfl ?aP (fun _ hk => hk.elim) (fun _ hk => .inr hk) (Kd.R_mono HR.out (fun _ hk => .inl hk)) (Below.refl _ _) (Nat.le_trans HBASE.out (below_size HB3.out)) ?aL ?_; (case aP => exact rfl); (case aL => have := HXL.out; omega); intro v5 w5 ho hb hg hat; obtain ⟨A5, c5, e5⟩ := Kd.R_slice ho; rw [List.length_append, List.length_singleton] at e5; subst e5; have HO5 := Aside0.mk ho; have HG5 := Aside0.mk hg; have hb5 := blk_grown HC3.out hg (fun e => (HOKI.out g (HR.out.1 g e.symm)).2.1 rfl); have x12 : w5.cell? ⟨g, k.toNat * 14 + 12, none⟩ = some (.slice A13 x.f1.length c13) := (blk_cell hb5 _).trans HE12.out; have z12 : w5.frozen? ⟨g, k.toNat * 14 + 12, none⟩ = false := blk_frozen hb5 _; have hq := HBACK.out hg ho; have HBA6 := Aside0.mk hq.1; have HK6 := Aside0.mk hq.2; have x1 : (w5.setCell ⟨g, k.toNat * 14 + 12, none⟩ (.slice A5 (x.f1.length + 1) c5)).cell? ⟨pb, 1, none⟩ = some (.map (some pm)) := (blk_cell HBA6.out.blk 1).trans rfl; clear hq ho hb hg hat hb5 hc13) | (at_mapUpdate; refine Plm.pl_update rfl _ _ _ 58 rfl Try.underlying3 Try.underlying58 rfl HBA6.out.map ?hn roll rfl k false rfl HW.out ?_; (case hn => have := HOK.out.n; unfold maxLen; show B.n < _; omega); intro w7 hm hg; have HM := Aside0.mk hm; have HG := Aside0.mk hg; clear hm hg))
        go_ret
        obtain ⟨h1, h2⟩ := HBA6.out.asgd HM.out HG.out
        exact MPost.mk2 HB3.out h1 (HK6.out.then_ h2 (fun q hq => hq))
  · rw [if_neg c0]
    have c0b : (eo != 0) = true := bne_iff_ne.mpr c0
    clear c0
    go_enter Try.func23, Try.ntmps23
    go_wp2_with (go_at_call 47; refine HV.out.mono ?_; rintro e w1 ⟨rfl, hb⟩)
    go_ret
    exact MPost.mk_ hb (HB.out.below hb) (KeptB.refl _ _)
def isR (roll n : Int) : Bool := n == roll
theorem f51_calls (n roll : Int) (b : Bool) (hb : b = isR roll n) (g : Nat) (w : World) (h : w.cell? ⟨g, 0, none⟩ = some (.int .i64 roll)) :
    Calls Try.prog 51 #[.int .i64 n, .pointer (some ⟨g, 0, none⟩)] w fun e w' => e = .returned (.bool b) ∧ w' = w := by
  have hd : (n == roll) = b := hb.symm
  clear hb
  go_enter Try.func51, Try.ntmps51
  go_wp2
  go_ret
  exact ⟨rfl, rfl⟩
set_option maxHeartbeats 4000000 in
theorem f65_calls (A0 : Option Addr) (c0 : Nat) (l0 : List Int) (roll : Int) (g : Nat) (w : World) (hr0 : Kd.C (Kd.int .i64) w A0 l0.length l0) (hr : w.cell? ⟨g, 0, none⟩ = some (.int .i64 roll)) :
    Calls Try.prog 65 #[.slice A0 l0.length c0, .func (.func 51) #[] #[.pointer (some ⟨g, 0, none⟩)]] w fun e w' => e = .returned (.int .i64 (idxI (isR roll) l0)) ∧ w' = w := by
  have hlen := hr0.2.1
  have HR0 := Aside0.mk hr0
  have HR := Aside0.mk hr
  clear hr0 hr
  go_enter Try.func65, Try.ntmps65
  go_wp2
  go_loopg [5, 8] l0.length (fun gg v5 v8 wr => ∃ kk : Nat, kk ≤ l0.length ∧ l0.length - kk ≤ gg ∧ v8 = .int .i64 kk ∧ wr = w ∧ Aside0 (∀ j, j < kk → isR roll (l0.getD j 0) = false))
  case atStart => exact ⟨0, Nat.zero_le _, by omega, rfl, rfl, ⟨fun j hj => absurd hj (Nat.not_lt_zero _)⟩⟩
  case round =>
    obtain ⟨kk, hkk, hg, rfl, rfl, HF⟩ := hrel
    by_cases hlt : kk < l0.length
    · have hltz : (kk : Int) < (l0.length : Int) := by omega
      obtain ⟨ad, e, h0⟩ := Kd.at_int HR0.out (kk : Int) (by omega) hltz
      subst e
      obtain ⟨x, HX⟩ : ∃ x, Aside0 (x = l0.getD kk 0) := ⟨_, ⟨rfl⟩⟩
      rw [show rd l0 (kk : Int) = x by rw [HX.out]; simp [rd]] at h0
      rw [Int.toNat_natCast] at h0
      cases hq : isR roll x with
      | true =>
        have HQ := Aside0.mk hq
        have HV := Aside0.mk (f51_calls x roll true hq.symm g _ HR.out)
        clear hq
        go_wp2_with (go_at_call 51; refine HV.out.mono ?_; rintro e w' ⟨rfl, rfl⟩)
        go_ret
        exact ⟨by rw [idxI_hit (isR roll) l0 0 kk hlt HF.out (by rw [← HX.out, HQ.out])]; rfl, rfl⟩
      | false =>
        have HQ := Aside0.mk hq
        have HV := Aside0.mk (f51_calls x roll false hq.symm g _ HR.out)
        clear hq
        go_wp2_with (go_at_call 51; refine HV.out.mono ?_; rintro e w' ⟨rfl, rfl⟩)
        go_roundg (l0.length - (kk + 1))
        case measure => omega
        case rel =>
          refine ⟨kk + 1, by omega, by omega, by go_num, rfl, ⟨fun j hj => ?_⟩⟩
          by_cases e : j = kk
          · subst e
            rw [← HX.out, HQ.out]
          · exact HF.out j (by omega)
    · have hltz : ¬ (kk : Int) < (l0.length : Int) := by omega
      have : kk = l0.length := by omega
      subst this
      go_wp2
      go_ret
      exact ⟨by rw [idxI_miss (isR roll) l0 0 HF.out]; rfl, rfl⟩
def delR (roll : Int) (l : List Int) : List Int := l.filter fun n => !isR roll n
theorem idxI_cases (p : Int → Bool) (l : List Int) : (idxI p l = -1 ∧ ∀ x ∈ l, p x = false) ∨ ∃ k, k < l.length ∧ idxI p l = (k : Int) ∧ p (l.getD k 0) = true ∧ ∀ x ∈ l.take k, p x = false := by
  unfold idxI
  cases h : List.findIdx? p l with
  | none => exact .inl ⟨rfl, fun x hx => by simpa using List.findIdx?_eq_none_iff.1 h x hx⟩
  | some k =>
    obtain ⟨hk, h1, h2⟩ := List.findIdx?_eq_some_iff_getElem.1 h
    refine .inr ⟨k, hk, rfl, by rw [List.getD_eq_getElem?_getD, List.getElem?_eq_getElem hk]; exact h1, fun x hx => ?_⟩
    obtain ⟨j, hj, e⟩ := List.getElem_of_mem hx
    have hj2 : j < k := by have := hj; rw [List.length_take] at this; omega
    have := h2 j hj2
    rw [List.getElem_take] at e
    rw [← e]
    simpa using this
theorem R_clear {base : Nat} {ok : Nat → Prop} {gr n cr : Nat} : ∀ (m i : Nat) (W : World) (dk : List Int), Kd.R (Kd.int .i64) 3 W base ok (.slice (some ⟨gr, 0, none⟩) n cr) dk → i + m ≤ dk.length → ∃ dk', Kd.R (Kd.int .i64) 3 (W.setCells gr i (List.replicate m (.int .i64 0))) base ok (.slice (some ⟨gr, 0, none⟩) n cr) dk' ∧ dk'.length = dk.length ∧ dk'.take i = dk.take i ∧ W.grownBy (W.setCells gr i (List.replicate m (.int .i64 0))) (some gr)
  | 0, i, W, dk, h, _ => ⟨dk, h, rfl, rfl, ⟨rfl, rfl, rfl, Nat.le_refl _, fun _ _ _ => rfl⟩⟩
  | m + 1, i, W, dk, h, hm => by
    obtain ⟨h1, h2⟩ := Kd.R_putg h (i : Int) 0
    obtain ⟨dk', h3, h4, h5, h6⟩ := R_clear m (i + 1) _ _ h1 (by rw [List.length_set]; omega)
    refine ⟨dk', h3, by rw [h4, List.length_set], ?_, h2.trans h6⟩
    have := congrArg (List.take i) h5
    rw [List.take_take, List.take_take, Nat.min_eq_left (by omega), Int.toNat_natCast] at this
    rw [this, List.take_set_of_le (Nat.le_refl _)]
set_option maxHeartbeats 8000000 in
set_option maxRecDepth 1000000 in
theorem del_calls {base : Nat} {ok : Nat → Prop} (gr cr : Nat) (l : List Int) (roll : Int) (g : Nat) (w : World) (hR : Kd.R (Kd.int .i64) 3 w base ok (.slice (some ⟨gr, 0, none⟩) l.length cr) l) (hb : w.heap[g]? = some (.cells #[.int .i64 roll] 3 (0, 0))) (hne : g ≠ gr) (hl : l.length < 1000) :
    Calls Try.prog 49 #[.slice (some ⟨gr, 0, none⟩) l.length cr, .func (.func 51) #[] #[.pointer (some ⟨g, 0, none⟩)]] w fun e w' => e = .returned (.slice (some ⟨gr, 0, none⟩) (delR roll l).length cr) ∧ Kd.R (Kd.int .i64) 3 w' base ok (.slice (some ⟨gr, 0, none⟩) (delR roll l).length cr) (delR roll l) ∧ w.grownBy w' (some gr) := by
  have HR := Aside0.mk hR
  have hrd := Kd.R_reads' hR
  have HCR := Aside0.mk hrd.2.1
  have HV := Aside0.mk (f65_calls (some ⟨gr, 0, none⟩) cr l roll g w hrd.2.2 ((blk_cell hb 0).trans rfl))
  have HBK := Aside0.mk hb
  have HNE := Aside0.mk hne
  have HL := Aside0.mk hl
  obtain ⟨n, hn⟩ : ∃ n, n = l.length := ⟨_, rfl⟩
  have HN := Aside0.mk hn
  rw [← hn] at HR HV HCR ⊢
  have hnl : n < 1000 := by rw [hn]; exact HL.out
  clear hR hb hne hl hrd hn
  rcases idxI_cases (isR roll) l with ⟨e1, hall⟩ | ⟨k0, hk0, e1, ht, hall⟩
  · have e3 : delR roll l = l := List.filter_eq_self.2 (fun x hx => by rw [hall x hx]; rfl)
    rw [e1] at HV
    rw [e3, ← HN.out]
    clear e1 hall e3
    go_enter Try.func49, Try.ntmps49
    go_wp2_with (go_at_call 65; refine HV.out.mono ?_; rintro e w1 ⟨rfl, rfl⟩)
    go_ret
    exact ⟨rfl, HR.out, ⟨rfl, rfl, rfl, Nat.le_refl _, fun _ _ _ => rfl⟩⟩
  · rw [e1] at HV
    have hk0n : k0 < n := by rw [HN.out]; exact hk0
    have hne1 : ((k0 : Int) == -1) = false := beq_eq_false_iff_ne.2 (by omega)
    have f0 : delR roll (l.take k0) = l.take k0 := List.filter_eq_self.2 (fun x hx => by rw [hall x hx]; rfl)
    have f1 : delR roll (l.take (k0 + 1)) = l.take k0 := by
      rw [List.take_add_one, List.getElem?_eq_getElem hk0]
      unfold delR at f0 ⊢
      rw [List.filter_append, f0, Option.toList_some, List.filter_cons, if_neg (by rw [List.getD_eq_getElem?_getD, List.getElem?_eq_getElem hk0] at ht; simpa using ht)]
      simp
    have F1 := Aside0.mk f1
    clear e1 hall ht f0 f1 hk0
    go_enter Try.func49, Try.ntmps49
    go_wp2_with (go_at_call 65; refine HV.out.mono ?_; rintro e w1 ⟨rfl, rfl⟩)
    go_loopg [5, 6, 7] n (fun gg s5 s6 _ wr => ∃ (i j : Nat) (dk : List Int), s5 = .int .i64 i ∧ s6 = .int .i64 j ∧ j ≤ n ∧ n - j ≤ gg ∧ i < j ∧ Aside0 (dk.length = n ∧ dk.take i = delR roll (l.take j) ∧ dk.drop j = l.drop j) ∧ Aside0 (Kd.R (Kd.int .i64) 3 wr base ok (.slice (some ⟨gr, 0, none⟩) n cr) dk) ∧ Aside0 (w1.grownBy wr (some gr)))
    case atStart => exact ⟨k0, k0 + 1, l, rfl, by go_num, by omega, by omega, by omega, ⟨HN.out.symm, F1.out.symm, rfl⟩, HR, ⟨⟨rfl, rfl, rfl, Nat.le_refl _, fun _ _ _ => rfl⟩⟩⟩
    case round =>
      obtain ⟨i, j, dk, rfl, rfl, hjn, hgg, hij, HD, HRr, HG⟩ := hrel
      have HBr := Aside0.mk (blk_grown HBK.out HG.out (fun e => HNE.out (by injection e)))
      by_cases hlt : j < n
      · have hltz : (j : Int) < (n : Int) := by omega
        have hjl : j < l.length := by rw [← HN.out]; exact hlt
        have cj := Kd.R_celln 0 HRr.out (j : Int) (by omega) hltz
        have ci := Kd.R_celln 0 HRr.out (i : Int) (by omega) (by omega)
        obtain ⟨u, HU⟩ : ∃ u, Aside0 (u = l[j]) := ⟨_, ⟨rfl⟩⟩
        have hdj : rdOf (0 : Int) dk (j : Int) = u := by
          show dk.getD (j : Int).toNat 0 = u
          have h1 : (dk.drop j)[0]? = (l.drop j)[0]? := by rw [HD.out.2.2]
          rw [List.getElem?_drop, List.getElem?_drop, Nat.add_zero, List.getElem?_eq_getElem hjl] at h1
          rw [Int.toNat_natCast, List.getD_eq_getElem?_getD, h1, HU.out]; rfl
        obtain ⟨cj1, cj2⟩ := cj
        obtain ⟨ci1, ci2⟩ := ci
        rw [hdj] at cj1
        rw [Int.toNat_natCast] at cj1 cj2 ci1 ci2
        clear hdj cj2
        have hds : Aside0 (dk.drop (j + 1) = l.drop (j + 1)) := ⟨by rw [← List.drop_drop, ← List.drop_drop, HD.out.2.2]⟩
        cases hq : isR roll u with
        | false =>
          have HQ := Aside0.mk hq
          have HC := Aside0.mk (f51_calls u roll false hq.symm g wr ((blk_cell HBr.out 0).trans rfl))
          clear hq
          go_wp2_with (go_at_call 51; refine HC.out.mono ?_; rintro e w' ⟨rfl, rfl⟩)
          go_roundg (n - (j + 1))
          case measure => omega
          case rel =>
            obtain ⟨p1, p2⟩ := Kd.R_putg HRr.out (i : Int) u
            rw [Int.toNat_natCast] at p1 p2
            refine ⟨i + 1, j + 1, dk.set i u, by go_num, by go_num, by omega, Nat.le_refl _, by omega, ⟨by rw [List.length_set]; exact HD.out.1, ?_, ?_⟩, ⟨p1⟩, ⟨HG.out.trans p2⟩⟩
            · have hil : i < dk.length := by rw [HD.out.1]; omega
              rw [List.take_add_one, List.take_set_of_le (Nat.le_refl _), HD.out.2.1, List.getElem?_set_self hil, List.take_add_one, List.getElem?_eq_getElem hjl]
              unfold delR
              rw [List.filter_append, Option.toList_some, Option.toList_some, List.filter_cons, ← HU.out, HQ.out, if_pos (show (!false) = true from rfl), List.filter_nil]
            · rw [List.drop_set_of_lt (by omega)]; exact hds.out
        | true =>
          have HQ := Aside0.mk hq
          have HC := Aside0.mk (f51_calls u roll true hq.symm g wr ((blk_cell HBr.out 0).trans rfl))
          clear hq
          go_wp2_with (go_at_call 51; refine HC.out.mono ?_; rintro e w' ⟨rfl, rfl⟩)
          go_roundg (n - (j + 1))
          case measure => omega
          case rel =>
            refine ⟨i, j + 1, dk, rfl, by go_num, by omega, Nat.le_refl _, by omega, ⟨HD.out.1, ?_, hds.out⟩, HRr, HG⟩
            rw [HD.out.2.1, List.take_add_one, List.getElem?_eq_getElem hjl]
            unfold delR
            rw [List.filter_append, Option.toList_some, List.filter_cons, ← HU.out, HQ.out, if_neg (by decide), List.filter_nil, List.append_nil]
      · obtain rfl : j = n := by omega
        have hltz : ¬ (j : Int) < (j : Int) := by omega
        have hcl : ∀ ty, (Builtin.clear_ #[39] ty #[.slice (some ⟨gr, i, none⟩) (j - i) (cr - i)]).run Try.prog wr = .ok (.tuple #[]) (wr.setCells gr i (List.replicate (j - i) (.int .i64 0))) := fun ty =>
          Lib.run_clear_slice wr 39 3 ty (.int .i64 0) Try.underlying39 (fun _ => by kernel_rfl) rfl rfl gr i _ _ (by omega) (fun t ht => by have := (Kd.R_celln 0 HRr.out ((i + t : Nat) : Int) (by omega) (by omega)).1; rw [Int.toNat_natCast] at this; rw [this]; rfl) (fun t ht => by have := (Kd.R_celln 0 HRr.out ((i + t : Nat) : Int) (by omega) (by omega)).2; rwa [Int.toNat_natCast] at this)
        obtain ⟨dk', k1, k2, k3, k4⟩ := R_clear (j - i) i wr dk HRr.out (by rw [HD.out.1]; omega)
        have K1 := Aside0.mk k1
        have K4 := Aside0.mk k4
        have K3 : Aside0 (dk'.take i = delR roll l) := ⟨by rw [k3, HD.out.2.1, HN.out, List.take_length]⟩
        have K2 : Aside0 (dk'.length = j) := ⟨k2.trans HD.out.1⟩
        clear k1 k2 k3 k4
        have hci1 : ¬ cr = i := by have := HCR.out; omega
        have hci2 : (cr = i) = False := eq_false hci1
        have hci3 : (cr == i) = false := beq_eq_false_iff_ne.2 hci1
        have hcr := HCR.out
        go_wp2
        go_ret
        have hi : (delR roll l).length = i := by rw [← K3.out, List.length_take, K2.out]; omega
        have hR2 := Kd.R_take K1.out (m := i) (by rw [K2.out]; omega)
        rw [K3.out] at hR2
        rw [hi]
        exact ⟨rfl, hR2, HG.out.trans K4.out⟩
def Bk.Release (B : Bk) (roll : Int) : Bk × Int := if (B.held roll).2 = 0 then (⟨B.es.set (B.held roll).1.toNat { rd_T68 B.es (B.held roll).1 with f1 := delR roll (rd_T68 B.es (B.held roll).1).f1 }, B.n, Plm.plUpd B.asg roll none⟩, 0) else (B, (B.held roll).2)
set_option maxHeartbeats 16000000 in
theorem Release_calls {base : Nat} {P : Nat → Prop} {pb pm : Nat} {ve : Value} {B : Bk} (roll : Int) (hw : (Lit.int .i64 roll).wf = true) (w : World) (hB : BAt base P pb ve pm w B) (hok : B.Ok) (hbase : base ≤ w.heap.size) (hin : (B.held roll).2 = 0 → 0 ≤ (B.held roll).1 ∧ (B.held roll).1 < (B.es.length : Int) ∧ (rd_T68 B.es (B.held roll).1).f1 ≠ []) :
    Calls Try.prog 24 #[.pointer (some ⟨pb, 0, none⟩), .int .i64 roll] w (MPost base P pb pm w (B.Release roll).1 (B.Release roll).2) := by
  have hu61 := Try.underlying61
  have hu68 := Try.underlying68
  obtain ⟨A, c, rfl⟩ := hB.slice
  have HV : Aside0 (∀ w1, BAt base P pb (.slice A B.es.length c) pm w1 B → Calls Try.prog 48 #[.pointer (some ⟨pb, 0, none⟩), .int .i64 roll] w1 fun e w' => e = .returned (.tuple #[.int .i64 (B.held roll).1, .int .i64 (B.held roll).2]) ∧ Below w1.heap.size w1 w') := ⟨fun w1 h => held_calls roll hw w1 h⟩
  have HBA0 := Aside0.mk hB
  have HOK := Aside0.mk hok
  have HBASE := Aside0.mk hbase
  have HIN := Aside0.mk hin
  have HW := Aside0.mk hw
  have HB := Aside0.mk (Below.refl w.heap.size w)
  clear hB hok hbase hin hw
  unfold Bk.Release
  generalize B.held roll = o at HV HIN ⊢
  obtain ⟨k, eo⟩ := o
  simp only at HV HIN ⊢
  by_cases c0 : eo = 0
  · rw [if_pos c0]
    subst c0
    obtain ⟨hk0, hk1, hx0⟩ := HIN.out rfl
    obtain ⟨x, hx⟩ : ∃ x, x = rd_T68 B.es k := ⟨_, rfl⟩
    have HX := Aside0.mk hx
    have HXL : Aside0 (x.f1.length < 1000) := ⟨by rw [hx]; exact (HOK.out.rolls _ (rd68_mem hk0 hk1)).1⟩
    rw [← hx] at hx0 ⊢
    have HX0 : Aside0 (0 < x.f1.length) := ⟨List.length_pos_iff.2 hx0⟩
    clear hx hx0
    have p1 := eq_true hk0
    have q1 := eq_true hk1
    have HK0 := Aside0.mk hk0
    have HK1 := Aside0.mk hk1
    clear hk0 hk1
    go_enter Try.func24, Try.ntmps24
    go_wp2_with (first | ((with_reducible refine gate_dst (N := 3) rfl ?_); refine box_event ?hg (N := 3) ?hd (cs := #[.int .i64 roll]) (t := 3) ?hr ?_; (case hd => rfl); (case hg => rfl); (case hr => first | (go_simp; done) | (go_simp; rfl)); intro Mg1 hg_ Mw2 hbox_ hb_; have MB3 := Aside0.mk hbox_; have MG4 : Aside0 (w.heap.size ≤ Mg1) := ⟨by rw [hg_]; exact below_size HB.out⟩; have MH5 := Aside0.mk (below_step HB.out hb_); clear hbox_ hb_ hg_; have Mx6 : Mw2.cell? ⟨Mg1, 0, none⟩ = some (.int .i64 roll) := (blk_cell MB3.out 0).trans rfl; have Mz7 := blk_frozen MB3.out 0) | (go_at_call 48; refine (HV.out _ (HBA0.out.below MH5.out)).mono ?_; rintro e Mw8 ⟨rfl, hb_⟩; have MB9 := Aside0.mk (blk_below MB3.out hb_); have MH10 := Aside0.mk (below_step MH5.out hb_); clear hb_; clear Mx6 Mz7; have Mx11 : Mw8.cell? ⟨Mg1, 0, none⟩ = some (.int .i64 roll) := (blk_cell MB9.out 0).trans rfl; have Mz12 := blk_frozen MB9.out 0; have HBA2 := Aside0.mk (HBA0.out.below MH10.out); have x0 : Mw8.cell? ⟨pb, 0, none⟩ = some (.slice A B.es.length c) := (blk_cell HBA2.out.blk 0).trans rfl; obtain ⟨g, A0_, c0_, eA, hE_⟩ := HBA2.out.elem k HK0.out HK1.out; subst eA; clear hE_; obtain ⟨oki, A12, c12, hR, hc12, hoki, hback⟩ := HBA2.out.row k HK0.out HK1.out; rw [← HX.out] at hR hc12 hback; have HR := Aside0.mk hR; have HOKI := Aside0.mk hoki; obtain ⟨cl2, hcl2⟩ := Kd.S_typed HBA2.out.ent g rfl; have HC2 := Aside0.mk hcl2; have HE12 : Aside0 (cl2[k.toNat * 14 + 12]? = some (.slice A12 x.f1.length c12)) := ⟨(blk_cell hcl2 _).symm.trans hc12⟩; have HBACK : Aside0 (∀ {w4 : World} {v' : Value} {xs' : List Int}, Mw8.grownBy w4 (.slice A12 x.f1.length c12 : Value).ownBlock → Kd.R (Kd.int .i64) 3 w4 base (fun q => oki q ∨ Mw8.heap.size ≤ q) v' xs' → BAt base (fun q => P q ∨ Mw8.heap.size ≤ q) pb (.slice (some ⟨g, 0, none⟩) B.es.length c) pm (w4.setCell ⟨g, k.toNat * 14 + 12, none⟩ v') { B with es := B.es.set k.toNat { x with f1 := xs' } } ∧ KeptB Mw8 (w4.setCell ⟨g, k.toNat * 14 + 12, none⟩ v') P) := ⟨hback⟩; clear hR hoki hback hcl2) | (go_at_call 50; refine (clone_calls A12 c12 x.f1 _ (Kd.R_reads' HR.out).2.2 (Kd.R_reads' HR.out).2.1 HXL.out).mono ?_; rintro e w3 ⟨v3, rfl, ho, hb⟩; obtain ⟨gr, cr, e3, hgr, _, _⟩ := Kd.R_form ho HX0.out; subst e3; have HO3 := Aside0.mk ho; have HB3 := Aside0.mk hb; have HGR := Aside0.mk hgr; clear ho hb hgr) | (go_at_call 49; refine (del_calls gr cr x.f1 roll Mg1 _ HO3.out (blk_below MB9.out HB3.out) (by have := blk_lt MB9.out; have := HGR.out; omega) HXL.out).mono ?_; rintro e w4 ⟨rfl, ho, hg⟩; have hb4 : Below Mw8.heap.size Mw8 w4 := HB3.out.grown hg (below_size HB3.out) (fun q hq => by injection hq with hq; rw [← hq]; exact HGR.out); have hc4 := blk_below HC2.out hb4; have x12 : w4.cell? ⟨g, k.toNat * 14 + 12, none⟩ = some (.slice A12 x.f1.length c12) := (blk_cell hc4 _).trans HE12.out; have z12 : w4.frozen? ⟨g, k.toNat * 14 + 12, none⟩ = false := blk_frozen hc4 _; have hq := HBACK.out (grown_of_below hb4 _) (Kd.R_lower (Kd.R_mono (Kd.R_bound ho) (fun q hq => .inr hq.2.1)) (Nat.le_trans HBASE.out (below_size MH10.out))); have HBA5 := Aside0.mk hq.1; have HK5 := Aside0.mk hq.2; have HR5 := Aside0.mk (blk_far (blk_below MB9.out hb4) (show Mg1 ≠ g from fun e => by have h1_ := HC2.out; have h2_ := MB9.out; rw [e] at h2_; rw [h1_] at h2_; simp at h2_) (p := ⟨g, k.toNat * 14 + 12, none⟩) (.slice (some ⟨gr, 0, none⟩) (delR roll x.f1).length cr)); clear ho hg hb4 hc4 hq hc12))
    refine start_ (n := 6) (S := fun w' => w'.cell? ⟨pb, 1, none⟩ = some (.map (some pm)) ∧ w'.cell? ⟨Mg1, 0, none⟩ = some (.int .i64 roll)) (ds := [5]) #[false, false, false, false, false, false] (by kernel_rfl) rfl rfl ⟨(blk_cell HBA5.out.blk 1).trans rfl, (blk_cell HR5.out 0).trans rfl⟩ (fun hHeld => ?_)
    have HBA6 := Aside0.mk HBA5.out.drew
    refine pure_ (i := 0) (N := some 35) (v := ?_) (a' := ?_) #[true, false, false, false, false, false] rfl rfl (by kernel_rfl) (fun _ _ _ h => h) (Or.inl ⟨by rfl, ?_⟩) ?_ ?_
    rotate_left
    · intro w'
      go_simp
      with_reducible rfl
    rotate_left
    · simp only [Act.put, List.setIfInBounds_toArray, List.set_cons_zero, List.set_cons_succ, i64_w, i32_w]
      rfl
    refine pure_ (i := 1) (N := some 36) (v := ?_) (a' := ?_) #[true, true, false, false, false, false] rfl rfl (by kernel_rfl) (fun _ _ _ h => h) (Or.inl ⟨by rfl, ?_⟩) ?_ ?_
    rotate_left
    · intro w'
      go_simp
      with_reducible rfl
    rotate_left
    · simp only [Act.put, List.setIfInBounds_toArray, List.set_cons_zero, List.set_cons_succ, i64_w, i32_w]
      rfl
    refine pure_ (i := 2) (N := some 37) (v := ?_) (a' := ?_) #[true, true, true, false, false, false] rfl rfl (by kernel_rfl) (fun _ _ _ h => h) (Or.inl ⟨by rfl, ?_⟩) ?_ ?_
    rotate_left
    · intro w'
      go_simp
      with_reducible rfl
    rotate_left
    · simp only [Act.put, List.setIfInBounds_toArray, List.set_cons_zero, List.set_cons_succ, i64_w, i32_w]
      rfl
    refine take_ (i := 3) (N := some 38) (v := ?_) (a' := ?_) #[true, true, true, true, false, false] rfl rfl (by kernel_rfl) (fun _ _ _ h => h) (Or.inl ⟨by rfl, ?_⟩) hHeld ?_ ?_
    rotate_left
    · rintro w' ⟨s0, s1⟩
      go_simp
      with_reducible rfl
    rotate_left
    · simp only [Act.put, List.setIfInBounds_toArray, List.set_cons_zero, List.set_cons_succ, i64_w, i32_w]
      rfl
    refine take_ (i := 4) (N := some 39) (v := ?_) (a' := ?_) #[true, true, true, true, true, false] rfl rfl (by kernel_rfl) (fun _ _ _ h => h) (Or.inl ⟨by rfl, ?_⟩) hHeld ?_ ?_
    rotate_left
    · rintro w' ⟨s0, s1⟩
      go_simp
      with_reducible rfl
    rotate_left
    · simp only [Act.put, List.setIfInBounds_toArray, List.set_cons_zero, List.set_cons_succ, i64_w, i32_w]
      rfl
    refine last_ (i := 5) (N := none) #[true, true, true, true, true, true] rfl rfl (by kernel_rfl) (by decide) (fun K hK => ?_)
    refine Plm.pl_delete_step (by rfl) (.tmp 38) (.tmp 39) 58 rfl Try.underlying3 Try.underlying58 (by first | (go_simp; done) | (go_simp; rfl)) HBA6.out.map roll (by first | (go_simp; done) | (go_simp; rfl)) HW.out ?_
    intro w7 hm hg
    have HM := Aside0.mk hm
    have HG := Aside0.mk hg
    refine hK.out _ _ ?_
    clear hK K
    refine done_ (by kernel_rfl) ?_
    go_wp2
    go_ret
    obtain ⟨h1, h2⟩ := HBA6.out.asgd HM.out HG.out
    exact MPost.mk2 MH10.out h1 (HK5.out.drew.then_ h2 (fun q hq => hq))
  · rw [if_neg c0]
    have c0b : (eo != 0) = true := bne_iff_ne.mpr c0
    clear c0
    go_enter Try.func24, Try.ntmps24
    go_wp2_with (first | ((with_reducible refine gate_dst (N := 3) rfl ?_); refine box_event ?hg (N := 3) ?hd (cs := #[.int .i64 roll]) (t := 3) ?hr ?_; (case hd => rfl); (case hg => rfl); (case hr => first | (go_simp; done) | (go_simp; rfl)); intro Mg1 hg_ Mw2 hbox_ hb_; have MB3 := Aside0.mk hbox_; have MG4 : Aside0 (w.heap.size ≤ Mg1) := ⟨by rw [hg_]; exact below_size HB.out⟩; have MH5 := Aside0.mk (below_step HB.out hb_); clear hbox_ hb_ hg_; have Mx6 : Mw2.cell? ⟨Mg1, 0, none⟩ = some (.int .i64 roll) := (blk_cell MB3.out 0).trans rfl; have Mz7 := blk_frozen MB3.out 0) | (go_at_call 48; refine (HV.out _ (HBA0.out.below MH5.out)).mono ?_; rintro e Mw8 ⟨rfl, hb_⟩; have MB9 := Aside0.mk (blk_below MB3.out hb_); have MH10 := Aside0.mk (below_step MH5.out hb_); clear hb_; clear Mx6 Mz7; have Mx11 : Mw8.cell? ⟨Mg1, 0, none⟩ = some (.int .i64 roll) := (blk_cell MB9.out 0).trans rfl; have Mz12 := blk_frozen MB9.out 0))
    go_ret
    exact MPost.mk_ MH10.out (HBA0.out.below MH10.out) (KeptB.refl _ _)
theorem BAt.tight {base : Nat} {P : Nat → Prop} {pb pm : Nat} {ve : Value} {w : World} {B : Bk} (h : BAt base P pb ve pm w B) : BAt base (fun k => P k ∧ k < w.heap.size) pb ve pm w B :=
  ⟨h.blk, Kd.S_mono (Kd.S_bound h.ent) (fun k hk => ⟨⟨hk.1.1, hk.2.2.1⟩, hk.1.2⟩), h.map, h.ge.1, h.ge.2.1, ⟨h.ge.2.2.1, h.lt.1⟩, ⟨h.ge.2.2.2, h.lt.2⟩⟩
structure LB (W0 : World) (P : Nat → Prop) (pb pm : Nat) (w : World) (B : Bk) : Prop where
  at_ : ∃ ve, BAt W0.heap.size P pb ve pm w B
  b : Below W0.heap.size W0 w
  lo : ∀ k, P k → W0.heap.size ≤ k ∧ k < w.heap.size
def LP (W0 : World) (P : Nat → Prop) (pb pm : Nat) (w : World) (B : Bk) (r : Int) (e : Ending) (w' : World) : Prop :=
  e = .returned (.int .i64 r) ∧ ∃ P', LB W0 P' pb pm w' B ∧ KeptB w w' P ∧ ∀ k, P' k → P k ∨ w.heap.size ≤ k
section
variable {W0 w w' : World} {P : Nat → Prop} {pb pm : Nat} {B : Bk}
theorem LB.below (h : LB W0 P pb pm w B) (hb : Below w.heap.size w w') : LB W0 P pb pm w' B := by
  obtain ⟨⟨ve, h1⟩, h2, h3⟩ := h
  exact ⟨⟨ve, h1.below hb⟩, below_step h2 hb, fun k hk => ⟨(h3 k hk).1, Nat.lt_of_lt_of_le (h3 k hk).2 (below_size hb)⟩⟩
theorem LB.post {B' : Bk} {r : Int} {e : Ending} (h : LB W0 P pb pm w B) (hp : MPost W0.heap.size P pb pm w B' r e w') : LP W0 P pb pm w B' r e w' := by
  obtain ⟨he, ve, h1, h2⟩ := hp
  have hs := below_size h.b
  exact ⟨he, _, ⟨⟨ve, h1.tight⟩, h.b.trans (h2.below (fun k hk => (h.lo k hk).1) hs), fun k hk => ⟨hk.1.elim (fun q => (h.lo k q).1) (fun q => Nat.le_trans hs q), hk.2⟩⟩, h2, fun k hk => hk.1⟩
theorem LB.new (W0 w : World) (h0 : Below W0.heap.size W0 w) : Calls Try.prog 14 #[] w fun e w' => ∃ P pb pm, e = .returned (.pointer (some ⟨pb, 0, none⟩)) ∧ LB W0 P pb pm w' Bk.new ∧ (∀ k, P k → w.heap.size ≤ k) ∧ Below w.heap.size w w' := by
  refine (New_calls w).mono ?_
  rintro e w' ⟨pb, pm, rfl, h, hb⟩
  have hs := below_size h0
  exact ⟨fun k => w.heap.size ≤ k ∧ k < w'.heap.size, pb, pm, rfl, ⟨⟨_, ⟨h.blk, Kd.S_nil _ _ _ _ _, h.map, Nat.le_trans hs h.ge.1, Nat.le_trans hs h.ge.2.1, ⟨h.ge.1, h.lt.1⟩, ⟨h.ge.2.1, h.lt.2⟩⟩⟩, below_step h0 hb, fun k hk => ⟨Nat.le_trans hs hk.1, hk.2⟩⟩, fun k hk => hk.1, hb⟩
theorem LB.Add (h : LB W0 P pb pm w B) (hok : B.Ok) (o : S23) : Calls Try.prog 33 #[.pointer (some ⟨pb, 0, none⟩), .agg #[.int .i64 o.f0, .int .i64 o.f1, .int .i64 o.f2, .int .i64 o.f3, .int .i64 o.f4, .int .i64 o.f5, .int .i64 o.f6, .int .i64 o.f7, .int .i64 o.f8, .int .i64 o.f9, .int .i64 o.f10, .int .i64 o.f11]] w (LP W0 P pb pm w (B.Add o).1 (B.Add o).2) := by
  obtain ⟨ve, h1⟩ := h.at_
  exact (Add_calls o w h1 hok (below_size h.b)).mono fun _ _ hp => h.post hp
theorem LB.Amend (h : LB W0 P pb pm w B) (id n : Int) : Calls Try.prog 35 #[.pointer (some ⟨pb, 0, none⟩), .int .i64 id, .int .i64 n] w (LP W0 P pb pm w (B.Amend id n).1 (B.Amend id n).2) := by
  obtain ⟨ve, h1⟩ := h.at_
  exact (Amend_calls id n w h1).mono fun _ _ hp => h.post hp
theorem LB.Assign (h : LB W0 P pb pm w B) (hok : B.Ok) (id roll : Int) : Calls Try.prog 23 #[.pointer (some ⟨pb, 0, none⟩), .int .i64 id, .int .i64 roll] w (LP W0 P pb pm w (B.Assign id roll).1 (B.Assign id roll).2) := by
  obtain ⟨ve, h1⟩ := h.at_
  exact (Assign_calls id roll w h1 hok (below_size h.b)).mono fun _ _ hp => h.post hp
theorem LB.Release (h : LB W0 P pb pm w B) (hok : B.Ok) (roll : Int) (hw : (Lit.int .i64 roll).wf = true) (hin : (B.held roll).2 = 0 → 0 ≤ (B.held roll).1 ∧ (B.held roll).1 < (B.es.length : Int) ∧ (rd_T68 B.es (B.held roll).1).f1 ≠ []) : Calls Try.prog 24 #[.pointer (some ⟨pb, 0, none⟩), .int .i64 roll] w (LP W0 P pb pm w (B.Release roll).1 (B.Release roll).2) := by
  obtain ⟨ve, h1⟩ := h.at_
  exact (Release_calls roll hw w h1 hok (below_size h.b) hin).mono fun _ _ hp => h.post hp
theorem LB.Ship (h : LB W0 P pb pm w B) (hok : B.Ok) (roll : Int) (hw : (Lit.int .i64 roll).wf = true) : Calls Try.prog 25 #[.pointer (some ⟨pb, 0, none⟩), .int .i64 roll] w (LP W0 P pb pm w (B.Ship roll).1 (B.Ship roll).2) := by
  obtain ⟨ve, h1⟩ := h.at_
  exact (Ship_calls roll hw w h1 hok.n).mono fun _ _ hp => h.post hp
theorem LB.Close (h : LB W0 P pb pm w B) (hok : B.Ok) (id : Int) : Calls Try.prog 36 #[.pointer (some ⟨pb, 0, none⟩), .int .i64 id] w (LP W0 P pb pm w (B.Close id).1 (B.Close id).2) := by
  obtain ⟨ve, h1⟩ := h.at_
  exact (Close_calls id w h1 hok).mono fun _ _ hp => h.post hp
theorem LB.Find (h : LB W0 P pb pm w B) (roll : Int) (hw : (Lit.int .i64 roll).wf = true) (r : Int × Bool) (hr : B.Find roll = some r) : Calls Try.prog 18 #[.pointer (some ⟨pb, 0, none⟩), .int .i64 roll] w fun e w' => e = .returned (.tuple #[.int .i64 r.1, .bool r.2]) ∧ Below w.heap.size w w' := by
  obtain ⟨ve, h1⟩ := h.at_
  exact Find_calls roll hw r hr w h1
theorem LB.Status (h : LB W0 P pb pm w B) (hok : B.Ok) (id : Int) : Calls Try.prog 20 #[.pointer (some ⟨pb, 0, none⟩), .int .i64 id] w fun e w' => ∃ v12 v13, e = .returned (.tuple #[.agg #[.int .i64 (B.Status id).1.f0.f0, .int .i64 (B.Status id).1.f0.f1, .int .i64 (B.Status id).1.f0.f2, .int .i64 (B.Status id).1.f0.f3, .int .i64 (B.Status id).1.f0.f4, .int .i64 (B.Status id).1.f0.f5, .int .i64 (B.Status id).1.f0.f6, .int .i64 (B.Status id).1.f0.f7, .int .i64 (B.Status id).1.f0.f8, .int .i64 (B.Status id).1.f0.f9, .int .i64 (B.Status id).1.f0.f10, .int .i64 (B.Status id).1.f0.f11, v12, v13, .bool (B.Status id).1.f3], .int .i64 (B.Status id).2]) ∧ Kd.R (Kd.int .i64) 3 w' w.heap.size (fun k => some k ≠ v13.ownBlock) v12 (B.Status id).1.f1 ∧ Kd.R (Kd.int .i64) 3 w' w.heap.size (fun k => some k ≠ v12.ownBlock) v13 (B.Status id).1.f2 ∧ Below w.heap.size w w' := by
  obtain ⟨ve, h1⟩ := h.at_
  exact Status_calls id w h1 hok
theorem LB.All (h : LB W0 P pb pm w B) (hok : B.Ok) : Calls Try.prog 27 #[.pointer (some ⟨pb, 0, none⟩)] w fun e w' => ∃ v, e = .returned v ∧ Kd.S k41 41 w' w.heap.size (fun _ => True) v (B.es.map B.stat) ∧ Below w.heap.size w w' := by
  obtain ⟨ve, h1⟩ := h.at_
  exact All_calls w h1 hok
theorem LB.Open (h : LB W0 P pb pm w B) (hok : B.Ok) : Calls Try.prog 30 #[.pointer (some ⟨pb, 0, none⟩)] w fun e w' => ∃ v, e = .returned v ∧ Kd.R (Kd.int .i64) 3 w' w.heap.size (fun _ => True) v (B.es.map openN) ∧ Below w.heap.size w w' := by
  obtain ⟨ve, h1⟩ := h.at_
  exact Open_calls w h1 hok
end
end Go.Proofs.Ythmhehfbepijgaa.Q
