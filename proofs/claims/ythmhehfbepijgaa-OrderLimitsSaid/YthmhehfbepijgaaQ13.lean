/- Plain Lean functions of the Go functions, and proofs that the Go calls come to them; laid out by this session's program wip/tools/hp.py. -/
import Derived.Test.YthmhehfbepijgaaQ0
import Derived.Test.YthmhehfbepijgaaQ2
import Derived.Test.YthmhehfbepijgaaQ5
import Derived.Test.YthmhehfbepijgaaQ7
import Derived.Test.YthmhehfbepijgaaQ11
namespace Go.Proofs.Ythmhehfbepijgaa.Q
open Go.RowKit Go.Proofs.YthmhehfbepijgaaW.PrintWords Go.Proofs.YthmhehfbepijgaaW.PrintLast Go.Proofs.YthmhehfbepijgaaW.PrintMore
attribute [local go_sem] max2_int min2_int max_two min_two max_three min_three max_four min_four   -- for this text's walks alone
set_option linter.unusedVariables false
set_option linter.unusedSimpArgs false

/-! ### papermilllaw51_OrderLimits: function 7, by hand -/
/-! ### What the law OrderLimits reads -/
/-- The rolls of the first entries, one after another. -/
def seenL (es : List S68) (i : Nat) : List Int := (es.take i).flatMap fun x => x.f1
theorem es_takeL {l : List S68} {k : Nat} (h : k < l.length) : l.take (k + 1) = l.take k ++ [rd_T68 l (k : Int)] := by
  rw [List.take_succ_eq_append_getElem h, rd68_of (List.getElem?_eq_getElem h)]
theorem seen_succ {es : List S68} {i : Nat} {x : S68} (h : es[i]? = some x) : seenL es (i + 1) = seenL es i ++ x.f1 := by
  unfold seenL
  rw [es_takeL (List.getElem?_eq_some_iff.1 h).1, rd68_of h, List.flatMap_append]
  simp
theorem seen_len {B : Bk} {T : Nat} (hi : B.Inv T) : ∀ i, i ≤ B.es.length → (seenL B.es i).length ≤ i * T
  | 0, _ => Nat.zero_le _
  | i + 1, h => by
    have hx : B.es[i]? = some B.es[i] := List.getElem?_eq_getElem (by omega)
    rw [seen_succ hx, List.length_append, Nat.succ_mul]
    have h1 := seen_len hi i (by omega)
    have h2 := (hi.ent i _ hx).len
    omega
theorem seen_not {B : Bk} {T : Nat} (hi : B.Inv T) {i : Nat} {x : S68} (hx : B.es[i]? = some x) {r : Int} (hr : r ∈ x.f1) : r ∉ seenL B.es i := by
  intro hm
  obtain ⟨y, hy, hm'⟩ := List.mem_flatMap.1 hm
  obtain ⟨j, hj⟩ := List.getElem?_of_mem hy
  have hlt : j < i := by
    have := (List.getElem?_eq_some_iff.1 hj).1
    rw [List.length_take] at this
    omega
  rw [List.getElem?_take, if_pos hlt] at hj
  obtain ⟨s, hs⟩ := (hi.ent i x hx).fwd r hr
  obtain ⟨s', hs'⟩ := (hi.ent j y hj).fwd r hm'
  rw [hs] at hs'
  injection hs' with h
  injection h with h _
  omega
theorem nodup_take {l : List Int} (h : l.Nodup) {j : Nat} (hj : j < l.length) : l[j] ∉ l.take j := by
  intro hm
  obtain ⟨k, hk, e⟩ := List.getElem_of_mem hm
  rw [List.length_take] at hk
  rw [List.getElem_take] at e
  have := (List.getElem_inj h).1 e
  omega
theorem ship_split (f : Int → Option (Int × Bool)) (l : List Int) {j : Nat} (hj : j < l.length) : shipL f l = shipL f (l.take j) ++ shipL f (l[j] :: l.drop (j + 1)) := by
  unfold shipL
  rw [← List.filter_append, ← List.drop_eq_getElem_cons hj, List.take_append_drop]
theorem ship_yes (f : Int → Option (Int × Bool)) (l : List Int) {j : Nat} (hj : j < l.length) (h : ((f l[j]).getD (0, false)).2 = true) :
    ∃ hk : (shipL f (l.take j)).length < (shipL f l).length, (shipL f l)[(shipL f (l.take j)).length] = l[j] ∧ (shipL f (l.take (j + 1))).length = (shipL f (l.take j)).length + 1 := by
  have e := ship_split f l hj
  have e2 : shipL f (l[j] :: l.drop (j + 1)) = l[j] :: shipL f (l.drop (j + 1)) := by
    unfold shipL
    rw [List.filter_cons, if_pos h]
  rw [e2] at e
  have hk : (shipL f (l.take j)).length < (shipL f l).length := by rw [e, List.length_append, List.length_cons]; omega
  refine ⟨hk, ?_, ?_⟩
  · have : (shipL f l)[(shipL f (l.take j)).length]? = some l[j] := by rw [e, List.getElem?_append_right (Nat.le_refl _)]; simp
    exact (List.getElem?_eq_some_iff.1 this).2
  · rw [List.take_succ_eq_append_getElem hj]
    unfold shipL
    rw [List.filter_append, List.length_append, List.filter_cons, if_pos h]
    simp
theorem ship_no_ (f : Int → Option (Int × Bool)) (l : List Int) {j : Nat} (hj : j < l.length) (h : ((f l[j]).getD (0, false)).2 = false) :
    (∀ hk : (shipL f (l.take j)).length < (shipL f l).length, (shipL f l)[(shipL f (l.take j)).length] ≠ l[j]) ∧ (shipL f (l.take (j + 1))).length = (shipL f (l.take j)).length := by
  refine ⟨fun hk e => ?_, ?_⟩
  · have hm : l[j] ∈ shipL f l := e ▸ List.getElem_mem hk
    have := (List.mem_filter.1 hm).2
    rw [h] at this
    cases this
  · rw [List.take_succ_eq_append_getElem hj]
    unfold shipL
    rw [List.filter_append, List.length_append, List.filter_cons, if_neg (by rw [h]; simp)]
    simp
theorem find_at {B : Bk} {T : Nat} (hi : B.Inv T) {i : Nat} {x : S68} (hx : B.es[i]? = some x) {r : Int} (hr : r ∈ x.f1) : B.Find r = some (x.f0.f0, true) := by
  obtain ⟨s, hs⟩ := (hi.ent i x hx).fwd r hr
  have hlt := (List.getElem?_eq_some_iff.1 hx).1
  unfold Bk.Find
  rw [hs]
  simp only
  rw [if_pos (by omega), rd68_of hx]
theorem all_at {B : Bk} {i : Nat} {x : S68} (hx : B.es[i]? = some x) : rd_T41 B.all (i : Int) = B.stat x := by
  unfold rd_T41 Bk.all
  rw [Int.toNat_natCast, List.getD_eq_getElem?_getD, List.getElem?_map, hx]
  rfl
/-- What is true of the status of an entry. -/
structure StOk (T : Nat) (B : Bk) (i : Nat) (x : S68) (y : S41) : Prop where
  at_ : B.es[i]? = some x
  st : y = B.stat x
  chk : chkO y.f0 = 0
  r0 : 1 ≤ y.f0.f6 ∧ y.f0.f6 ≤ 1000 ∧ 0 ≤ y.f0.f7 ∧ y.f0.f7 ≤ 1000 ∧ 0 ≤ y.f0.f8 ∧ y.f0.f8 ≤ 1000
  lim : (y.f1.length : Int) ≤ y.f0.f6 + y.f0.f7
  len : y.f1.length ≤ T
  le : y.f2.length ≤ y.f1.length
  shut : y.f3 = true → y.f2.length = y.f1.length ∧ y.f0.f6 - y.f0.f8 ≤ (y.f1.length : Int)
theorem stOk {B : Bk} {T : Nat} (hi : B.Inv T) {i : Nat} (h : i < B.all.length) : ∃ x, StOk T B i x (rd_T41 B.all (i : Int)) := by
  rw [all_len] at h
  have hx : B.es[i]? = some B.es[i] := List.getElem?_eq_getElem h
  have q := hi.ent i _ hx
  have hr := chkO_rng q.chk
  have hle : (shipL B.asg B.es[i].f1).length ≤ B.es[i].f1.length := List.length_filter_le _ _
  refine ⟨B.es[i], hx, all_at hx, ?_, ?_, ?_, ?_, ?_, ?_⟩ <;> rw [all_at hx]
  · exact q.chk
  · exact ⟨hr.2.2.1, hr.2.2.2.1, hr.2.2.2.2.1, hr.2.2.2.2.2.1, hr.2.2.2.2.2.2.1, hr.2.2.2.2.2.2.2⟩
  · exact q.lim
  · exact q.len
  · exact hle
  · intro hc
    refine ⟨?_, (q.shut hc).2⟩
    show (shipL B.asg B.es[i].f1).length = B.es[i].f1.length
    have : shipL B.asg B.es[i].f1 = B.es[i].f1 := List.filter_eq_self.2 (fun n hn => by rw [(q.shut hc).1 n hn]; rfl)
    rw [this]
open Mono in
set_option maxHeartbeats 16000000 in
set_option maxRecDepth 100000 in
theorem OrderLimits_long (A0 : Option Addr) (c0 : Nat) (l0 : List S35) (w : World) (hr0 : Kd.C k35 w A0 l0.length l0) (hc0 : l0.length ≤ c0) (hwf : wfs l0 = true) (hN : 120 < l0.length) :
    Calls Try.prog 7 #[.slice A0 l0.length c0] w fun e w' => e = .returned (.bool true) ∧ Below w.heap.size w w' := by
  have hu35 := Try.underlying35
  have hu23 := Try.underlying23
  have hu41 := Try.underlying41
  have hlen := hr0.2.1
  have HR0 := Aside0.mk hr0
  have HC0 := Aside0.mk hc0
  have HWF := Aside0.mk hwf
  clear hr0 hc0 hwf
  have c1b : decide ((120 : Int) < (l0.length : Int)) = true := decide_eq_true (by omega)
  have c1n : decide (120 < l0.length) = true := decide_eq_true hN
  have c1m := eq_true hN
  go_enter Try.func7, Try.ntmps7
  go_wp2_with fail
  refine (LB.new w _ (Below.refl _ _)).mono ?_
  rintro e w1 ⟨P, pb, pm, rfl, h, _, _⟩
  have HB := Aside0.mk h.b
  clear h
  go_wp2_with fail
  refine (aw_all _).mono ?_
  rintro e w2 ⟨rfl, hb⟩
  go_wp2
  go_ret
  exact ⟨rfl, below_step HB.out hb⟩
open Mono in
set_option maxHeartbeats 16000000 in
set_option maxRecDepth 100000 in
theorem OrderLimits_all (A0 : Option Addr) (c0 : Nat) (l0 : List S35) (w : World) (hr0 : Kd.C k35 w A0 l0.length l0) (hc0 : l0.length ≤ c0) (hwf : wfs l0 = true) (hN : ¬ 120 < l0.length) :
    Calls Try.prog 7 #[.slice A0 l0.length c0] w fun e w' => e = .returned (.bool true) ∧ Below w.heap.size w w' := by
  have hu35 := Try.underlying35
  have hu23 := Try.underlying23
  have hu41 := Try.underlying41
  have hlen := hr0.2.1
  have HR0 := Aside0.mk hr0
  have HC0 := Aside0.mk hc0
  have HWF := Aside0.mk hwf
  clear hr0 hc0 hwf
  have c1b : decide ((120 : Int) < (l0.length : Int)) = false := decide_eq_false (by omega)
  have c1n : decide (120 < l0.length) = false := decide_eq_false hN
  have c1m := eq_false hN
  go_enter Try.func7, Try.ntmps7
  go_wp2_with fail
  refine (LB.new w _ (Below.refl _ _)).mono ?_
  rintro e w1 ⟨P0, pb, pm, rfl, h, _, _⟩
  have H1 : Aside0 (∃ P, LB w P pb pm w1 (Bk.new.run (l0.take 0))) := ⟨P0, h⟩
  clear h
  go_wp2_with fail
  go_loopg [4] l0.length (fun gg v4 wr => ∃ kk : Nat, kk ≤ l0.length ∧ l0.length - kk ≤ gg ∧ v4 = .int .i64 kk ∧ Aside0 (∃ P, LB w P pb pm wr (Bk.new.run (l0.take kk))))
  case atStart => exact ⟨0, Nat.zero_le _, by omega, rfl, H1⟩
  case round =>
    clear H1
    obtain ⟨kk, hkk, hg, rfl, HB⟩ := hrel
    by_cases hlt : kk < l0.length
    · have hltz : (kk : Int) < (l0.length : Int) := by omega
      obtain ⟨P, hP⟩ := HB.out
      have HP := Aside0.mk hP
      have HC := Aside0.mk (Kd.C_below HR0.out hP.b)
      have HWX := Aside0.mk (wfs_at HWF.out hlt)
      have HI := Aside0.mk (Bk.Inv.taken l0 kk (T := 900) (by omega))
      clear hP HB
      obtain ⟨ad, e, x0, x1, x2, x3, x4, x5, x6, x7, x8, x9, x10, x11, x12, x13, x14⟩ := at_T35 HC.out (kk : Int) (by omega) hltz
      subst e
      obtain ⟨x, HX⟩ : ∃ x, Aside0 (x = rd_T35 l0 (kk : Int)) := ⟨_, ⟨rfl⟩⟩
      rw [← HX.out] at HWX x0 x1 x2 x3 x4 x5 x6 x7 x8 x9 x10 x11 x12 x13 x14
      rw [Int.toNat_natCast] at x0 x1 x2 x3 x4 x5 x6 x7 x8 x9 x10 x11 x12 x13 x14
      go_wp2_with fail
      refine (LB.do_ HP.out HI.out (Nat.le_refl _) x HWX.out).mono ?_
      rintro e w2 ⟨rfl, P2, h, _, _⟩
      have HB2 : Aside0 (∃ P, LB w P pb pm w2 (Bk.new.run (l0.take (kk + 1)))) := ⟨P2, by rw [run_take l0 hlt, ← HX.out]; exact h⟩
      clear h
      go_wp2_with fail
      go_roundg (l0.length - (kk + 1))
      case measure => omega
      case rel => exact ⟨kk + 1, by omega, by omega, by go_num, HB2⟩
    · have hltz : ¬ (kk : Int) < (l0.length : Int) := by omega
      have : kk = l0.length := by omega
      subst this
      obtain ⟨P, hP⟩ := HB.out
      rw [List.take_length] at hP
      have hI := Bk.Inv.taken l0 l0.length (T := 120) (by omega)
      rw [List.take_length] at hI
      generalize Bk.new.run l0 = B at hP hI
      have HI := Aside0.mk hI
      have HP0 := Aside0.mk hP
      clear HB hP hI
      have q := LB.All HP0.out (HI.out.ok (by omega))
      go_wp2_with fail
      refine q.mono ?_
      clear q
      rintro e w3 ⟨v, rfl, hs, hb⟩
      change Kd.S k41 41 w3 wr.heap.size (fun _ => True) v B.all at hs
      obtain ⟨X1, d1, rfl⟩ := Kd.S_slice hs
      have HC1 := Aside0.mk (Kd.S_reads' hs).2
      have HP := Aside0.mk (HP0.out.below hb)
      clear hs hb HP0
      have HL := Aside0.mk HI.out.allLen
      have hl64 : B.all.length ≤ 64 := HL.out
      have g1b : decide ((64 : Int) < (B.all.length : Int)) = false := decide_eq_false (by omega)
      have g1n : decide (64 < B.all.length) = false := decide_eq_false (by omega)
      have g1m : (64 < B.all.length) = False := eq_false (by omega)
      go_wp2_with fail
      clear g1b g1n g1m
      go_loopg [5, 7] B.all.length (fun gg v5 v7 wr => ∃ ii : Nat, ii ≤ B.all.length ∧ B.all.length - ii ≤ gg ∧ v7 = .int .i64 ii ∧ Aside0 (Kd.R (Kd.int .i64) 3 wr w3.heap.size (fun _ => True) v5 (seenL B.es ii)) ∧ Aside0 (Below w3.heap.size w3 wr))
      case atStart => exact ⟨0, Nat.zero_le _, by omega, rfl, ⟨Kd.R_nil _ _ _ _ _⟩, ⟨Below.refl _ _⟩⟩
      case round =>
        obtain ⟨ii, hii, hg, rfl, HO, HB⟩ := hrel
        by_cases hil : ii < B.all.length
        · have hilz : (ii : Int) < (B.all.length : Int) := by omega
          obtain ⟨mad, mA, mc, mB, md, me, mx0, mx1, mx2, mx3, mx4, mx5, mx6, mx7, mx8, mx9, mx10, mx11, mx12, mx13, mx14, ml1, mC1, ml2, mC2⟩ := at_T41 HC1.out.2 (ii : Int) (by omega) hilz
          obtain ⟨y, Hy⟩ : ∃ x_, Aside0 (x_ = rd_T41 B.all (ii : Int)) := ⟨_, ⟨rfl⟩⟩
          rw [← Hy.out] at mx0 mx1 mx2 mx3 mx4 mx5 mx6 mx7 mx8 mx9 mx10 mx11 mx12 mx13 mx14 ml1 mC1 ml2 mC2
          rw [Int.toNat_natCast] at mx0 mx1 mx2 mx3 mx4 mx5 mx6 mx7 mx8 mx9 mx10 mx11 mx12 mx13 mx14
          subst me
          replace mx0 := pw_cell_below HB.out mx0
          replace mx1 := pw_cell_below HB.out mx1
          replace mx2 := pw_cell_below HB.out mx2
          replace mx3 := pw_cell_below HB.out mx3
          replace mx4 := pw_cell_below HB.out mx4
          replace mx5 := pw_cell_below HB.out mx5
          replace mx6 := pw_cell_below HB.out mx6
          replace mx7 := pw_cell_below HB.out mx7
          replace mx8 := pw_cell_below HB.out mx8
          replace mx9 := pw_cell_below HB.out mx9
          replace mx10 := pw_cell_below HB.out mx10
          replace mx11 := pw_cell_below HB.out mx11
          replace mx12 := pw_cell_below HB.out mx12
          replace mx13 := pw_cell_below HB.out mx13
          replace mx14 := pw_cell_below HB.out mx14
          obtain ⟨xe, hxe⟩ := stOk HI.out hil
          rw [← Hy.out] at hxe
          have HST := Aside0.mk hxe
          obtain ⟨h6a, h6b, h7a, h7b, h8a, h8b⟩ := hxe.r0
          have hy1 := hxe.lim
          have hy2 := hxe.len
          have hy3 := hxe.le
          clear hxe
          have HM := Aside0.mk (And.intro ml1 (And.intro mC1 (And.intro ml2 mC2)))
          clear ml1 mC1 ml2 mC2
          obtain ⟨gs, hgs⟩ : ∃ gs, gs = wr.heap.size := ⟨_, rfl⟩
          have HGS : Aside0 (w3.heap.size ≤ gs) := ⟨by rw [hgs]; exact below_size HB.out⟩
          go_wp2_with fail
          refine (Check_calls y.f0 _).mono ?_
          rintro e w5 ⟨rfl, hb⟩
          rw [HST.out.chk]
          have hb1 := below_step (below_alloc (Below.refl wr.heap.size wr) (.cells #[.int .i64 y.f0.f0, .int .i64 y.f0.f1, .int .i64 y.f0.f2, .int .i64 y.f0.f3, .int .i64 y.f0.f4, .int .i64 y.f0.f5, .int .i64 y.f0.f6, .int .i64 y.f0.f7, .int .i64 y.f0.f8, .int .i64 y.f0.f9, .int .i64 y.f0.f10, .int .i64 y.f0.f11, .slice mA y.f1.length mc, .slice mB y.f2.length md, .bool y.f3] 41)) hb
          have HS : Aside0 (w5.heap[gs]? = some (.cells #[.int .i64 y.f0.f0, .int .i64 y.f0.f1, .int .i64 y.f0.f2, .int .i64 y.f0.f3, .int .i64 y.f0.f4, .int .i64 y.f0.f5, .int .i64 y.f0.f6, .int .i64 y.f0.f7, .int .i64 y.f0.f8, .int .i64 y.f0.f9, .int .i64 y.f0.f10, .int .i64 y.f0.f11, .slice mA y.f1.length mc, .slice mB y.f2.length md, .bool y.f3] 41 (0, 0))) := ⟨by rw [hgs]; exact blk_below (blk_new wr _) hb⟩
          have HO5 : Aside0 (Kd.R (Kd.int .i64) 3 w5 w3.heap.size (fun k => k ≠ gs) _ (seenL B.es ii)) := ⟨Kd.R_below (Kd.R_mono (Kd.R_bound HO.out) (fun k hk => by have := hk.2.2.1; omega)) hb1⟩
          have HB5 := Aside0.mk (below_step HB.out hb1)
          clear HO HB hb hb1 mx0 mx1 mx2 mx3 mx4 mx5 mx6 mx7 mx8 mx9 mx10 mx11 mx12 mx13 mx14
          rw [← hgs]
          clear hgs
          have s0 : w5.cell? ⟨gs, 0, none⟩ = some (.int .i64 y.f0.f0) := (blk_cell HS.out 0).trans rfl
          have s1 : w5.cell? ⟨gs, 1, none⟩ = some (.int .i64 y.f0.f1) := (blk_cell HS.out 1).trans rfl
          have s2 : w5.cell? ⟨gs, 2, none⟩ = some (.int .i64 y.f0.f2) := (blk_cell HS.out 2).trans rfl
          have s3 : w5.cell? ⟨gs, 3, none⟩ = some (.int .i64 y.f0.f3) := (blk_cell HS.out 3).trans rfl
          have s4 : w5.cell? ⟨gs, 4, none⟩ = some (.int .i64 y.f0.f4) := (blk_cell HS.out 4).trans rfl
          have s5 : w5.cell? ⟨gs, 5, none⟩ = some (.int .i64 y.f0.f5) := (blk_cell HS.out 5).trans rfl
          have s6 : w5.cell? ⟨gs, 6, none⟩ = some (.int .i64 y.f0.f6) := (blk_cell HS.out 6).trans rfl
          have s7 : w5.cell? ⟨gs, 7, none⟩ = some (.int .i64 y.f0.f7) := (blk_cell HS.out 7).trans rfl
          have s8 : w5.cell? ⟨gs, 8, none⟩ = some (.int .i64 y.f0.f8) := (blk_cell HS.out 8).trans rfl
          have s9 : w5.cell? ⟨gs, 9, none⟩ = some (.int .i64 y.f0.f9) := (blk_cell HS.out 9).trans rfl
          have s10 : w5.cell? ⟨gs, 10, none⟩ = some (.int .i64 y.f0.f10) := (blk_cell HS.out 10).trans rfl
          have s11 : w5.cell? ⟨gs, 11, none⟩ = some (.int .i64 y.f0.f11) := (blk_cell HS.out 11).trans rfl
          have s12 : w5.cell? ⟨gs, 12, none⟩ = some (.slice mA y.f1.length mc) := (blk_cell HS.out 12).trans rfl
          have s13 : w5.cell? ⟨gs, 13, none⟩ = some (.slice mB y.f2.length md) := (blk_cell HS.out 13).trans rfl
          have s14 : w5.cell? ⟨gs, 14, none⟩ = some (.bool y.f3) := (blk_cell HS.out 14).trans rfl
          have e1 : IntKind.i64.wrap (y.f0.f6 + y.f0.f7) = y.f0.f6 + y.f0.f7 := by rw [i64_w]; exact wrapS (by omega) (by omega)
          have e1w : wrap64 (y.f0.f6 + y.f0.f7) = y.f0.f6 + y.f0.f7 := wrapS (by omega) (by omega)
          have e2 : IntKind.i64.wrap (y.f0.f6 - y.f0.f8) = y.f0.f6 - y.f0.f8 := by rw [i64_w]; exact wrapS (by omega) (by omega)
          have e2w : wrap64 (y.f0.f6 - y.f0.f8) = y.f0.f6 - y.f0.f8 := wrapS (by omega) (by omega)
          have t1 : decide (y.f0.f6 + y.f0.f7 < (y.f1.length : Int)) = false := decide_eq_false (by omega)
          have t2 : decide ((200 : Int) < (y.f1.length : Int)) = false := decide_eq_false (by omega)
          have t2n : decide (200 < y.f1.length) = false := decide_eq_false (by omega)
          have t2m : (200 < y.f1.length) = False := eq_false (by omega)
          have t3 : decide ((y.f1.length : Int) < (y.f2.length : Int)) = false := decide_eq_false (by omega)
          have t3n : decide (y.f1.length < y.f2.length) = false := decide_eq_false (by omega)
          have t3m : (y.f1.length < y.f2.length) = False := eq_false (by omega)
          have HY2 : Aside0 (y.f2 = shipL B.asg y.f1) := ⟨by rw [HST.out.st]; rfl⟩
          have HYM : Aside0 (∀ r ∈ y.f1, r ∈ xe.f1) := ⟨by rw [HST.out.st]; exact fun r hr => hr⟩
          have HYI : Aside0 (y.f0.f0 = xe.f0.f0) := ⟨by rw [HST.out.st]; rfl⟩
          have HYN : Aside0 (y.f1.Nodup) := ⟨by rw [HST.out.st]; exact (HI.out.ent ii xe HST.out.at_).nodup⟩
          cases hc : y.f3 with
          | true =>
            rw [hc] at s14
            obtain ⟨q1, q2⟩ := HST.out.shut hc
            have t4 : ((y.f2.length : Int) != (y.f1.length : Int)) = false := by rw [q1]; exact bne_self_eq_false _
            have t4n : (y.f2.length != y.f1.length) = false := by rw [q1]; exact bne_self_eq_false _
            have t4m : ((y.f2.length : Int) = (y.f1.length : Int)) = True := eq_true (by rw [q1])
            have t5 : decide ((y.f2.length : Int) < y.f0.f6 - y.f0.f8) = false := decide_eq_false (by rw [q1]; omega)
            clear q1 q2
            rw [hc] at HS
            clear hc
            go_wp2_with fail
            clear e1 e1w e2 e2w t1 t2 t2n t2m t3 t3n t3m t4 t4n t4m t5 s0 s1 s2 s3 s4 s5 s6 s7 s8 s9 s10 s11 s12 s13 s14
            go_loopg [5, 9, 10] y.f1.length (fun gg v5 v9 v10 wr => ∃ jj : Nat, jj ≤ y.f1.length ∧ y.f1.length - jj ≤ gg ∧ v10 = .int .i64 jj ∧ v9 = .int .i64 ((shipL B.asg (y.f1.take jj)).length : Nat) ∧ Aside0 (Kd.R (Kd.int .i64) 3 wr w3.heap.size (fun k => k ≠ gs) v5 (seenL B.es ii ++ y.f1.take jj)) ∧ Aside0 (Below w3.heap.size w3 wr) ∧ Aside0 (wr.heap[gs]? = some (.cells #[.int .i64 y.f0.f0, .int .i64 y.f0.f1, .int .i64 y.f0.f2, .int .i64 y.f0.f3, .int .i64 y.f0.f4, .int .i64 y.f0.f5, .int .i64 y.f0.f6, .int .i64 y.f0.f7, .int .i64 y.f0.f8, .int .i64 y.f0.f9, .int .i64 y.f0.f10, .int .i64 y.f0.f11, .slice mA y.f1.length mc, .slice mB y.f2.length md, .bool true] 41 (0, 0))))
            case atStart => exact ⟨0, Nat.zero_le _, by omega, rfl, rfl, ⟨by rw [List.take_zero, List.append_nil]; exact HO5.out⟩, HB5, HS⟩
            case round =>
              clear HO5 HB5 HS
              obtain ⟨jj, hjj, hg2, rfl, rfl, HO, HB, HS⟩ := hrel
              have s12m : wr.cell? ⟨gs, 12, none⟩ = some (.slice mA y.f1.length mc) := (blk_cell HS.out 12).trans rfl
              by_cases hjl : jj < y.f1.length
              · have hjlz : (jj : Int) < (y.f1.length : Int) := by omega
                obtain ⟨adr, er, hroll⟩ := Kd.at_int (Kd.C_below HM.out.2.1 HB.out) (jj : Int) (by omega) hjlz
                subst er
                obtain ⟨r, HR⟩ : ∃ r, Aside0 (r = rd y.f1 (jj : Int)) := ⟨_, ⟨rfl⟩⟩
                rw [← HR.out, Int.toNat_natCast] at hroll
                have hrj : r = y.f1[jj] := by rw [HR.out]; unfold rd; rw [Int.toNat_natCast, List.getD_eq_getElem?_getD, List.getElem?_eq_getElem hjl]; rfl
                have HRJ := Aside0.mk hrj
                have HRM : Aside0 (r ∈ y.f1) := ⟨by rw [hrj]; exact List.getElem_mem hjl⟩
                obtain ⟨As, cs, es⟩ := Kd.R_slice HO.out
                subst es
                obtain ⟨SN, hSN⟩ : ∃ SN, SN = seenL B.es ii ++ y.f1.take jj := ⟨_, rfl⟩
                rw [← hSN] at HO ⊢
                have HSN := Aside0.mk hSN
                have HNOT : Aside0 (∀ q ∈ SN, (q == r) = false) := ⟨fun q hq => beq_eq_false_iff_ne.2 (fun e => by rw [hSN, e] at hq; rcases List.mem_append.1 hq with h | h; exact seen_not HI.out HST.out.at_ (HYM.out r HRM.out) h; rw [hrj] at h; exact nodup_take HYN.out hjl h)⟩
                have HLN : Aside0 (SN.length ≤ 8000) := ⟨by rw [hSN, List.length_append]; have h1_ := seen_len HI.out ii (by rw [← all_len]; omega); have h2_ : ii * 120 ≤ 64 * 120 := Nat.mul_le_mul_right 120 (by omega); have h3_ : (y.f1.take jj).length ≤ y.f1.length := (by rw [List.length_take]; omega); omega⟩
                have hln := HLN.out
                clear hSN hrj
                go_wp2_with fail
                clear s12m
                go_loopg [11] SN.length (fun gg v11 wr2 => ∃ nn : Nat, nn ≤ SN.length ∧ SN.length - nn ≤ gg ∧ v11 = .int .i64 nn ∧ Aside0 (Below wr.heap.size wr wr2))
                case atStart => exact ⟨0, Nat.zero_le _, by omega, rfl, ⟨Below.refl _ _⟩⟩
                case round =>
                  obtain ⟨nn, hnn, hg3, rfl, HBI⟩ := hrel
                  replace hroll := pw_cell_below HBI.out hroll
                  have HS2 := Aside0.mk (blk_below HS.out HBI.out)
                  have HO2 := Aside0.mk (Kd.R_below HO.out HBI.out)
                  have HB2 := Aside0.mk (below_step HB.out HBI.out)
                  have s12 : wr.cell? ⟨gs, 12, none⟩ = some (.slice (some adr) y.f1.length mc) := (blk_cell HS2.out 12).trans rfl
                  clear HO HS HB
                  have pj0 : (0 ≤ (jj : Int)) = True := eq_true (by omega)
                  have pj1 : ((jj : Int) < (y.f1.length : Int)) = True := eq_true (by omega)
                  have pj2 : (jj < y.f1.length) = True := eq_true hjl
                  by_cases hnl : nn < SN.length
                  · have hnlz : (nn : Int) < (SN.length : Int) := by omega
                    obtain ⟨ads, es_, hseen⟩ := Kd.at_int (Kd.R_reads' HO2.out).2.2 (nn : Int) (by omega) hnlz
                    subst es_
                    obtain ⟨qq, HQ⟩ : ∃ q, Aside0 (q = rd SN (nn : Int)) := ⟨_, ⟨rfl⟩⟩
                    rw [← HQ.out, Int.toNat_natCast] at hseen
                    have hqr : (qq == r) = false := HNOT.out qq (by rw [HQ.out]; unfold rd; rw [Int.toNat_natCast, List.getD_eq_getElem?_getD, List.getElem?_eq_getElem hnl]; exact List.getElem_mem hnl)
                    have pn0 : (0 ≤ (nn : Int)) = True := eq_true (by omega)
                    have pn1 : ((nn : Int) < (SN.length : Int)) = True := eq_true (by omega)
                    have pn2 : (nn < SN.length) = True := eq_true hnl
                    go_wp2_with fail
                    go_quiet (fail)
                    go_wp2_with fail
                    go_roundg (SN.length - (nn + 1))
                    case measure => omega
                    case rel => exact ⟨nn + 1, by omega, by omega, by go_num, ⟨below_step HBI.out (pw_below_drewN (Below.refl _ _) _)⟩⟩
                  · have hnlz : ¬ (nn : Int) < (SN.length : Int) := by omega
                    have hne : nn = SN.length := by omega
                    subst hne
                    go_wp2_with (first | ((with_reducible refine gate_builtin (b := .append) (xs := #[.tmp 129, .tmp 135]) rfl ?_); at_builtin; refine Kd.R_append (Kd.int .i64) (w0 := w3) w3.heap.size rfl (.tmp 129) (.tmp 135) 39 3 (.int .i64 0) 8 rfl Try.underlying39 info3 rfl (by decide) (by omega) (.slice As SN.length cs) SN r [.int .i64 r] (fun k => k ≠ gs) (fun _ => False) rfl (by first | (go_simp; done) | (go_simp; rfl)) ?aP (fun _ hk => hk.elim) ?aF HO2.out HB2.out ?aS ?aL ?_; (case aP => exact rfl); (case aF => exact fun k hk e => by have := blk_lt HS2.out; omega); (case aS => exact below_size HB2.out); (case aL => have := HLN.out; omega); intro v1 w7 ho hb hg1 hat; have HO7 := Aside0.mk ho; have HB7 := Aside0.mk hb; have HS7 := Aside0.mk (blk_grown HS2.out hg1 (fun e => HO2.out.1 gs e.symm rfl)); clear ho hb hg1 hat))
                    clear hroll s12 HO2 HB2 HS2 HBI HNOT
                    have HSN7 : Aside0 (SN ++ [r] = seenL B.es ii ++ y.f1.take (jj + 1)) := ⟨by rw [HSN.out, List.append_assoc, List.take_succ_eq_append_getElem hjl, ← HRJ.out]⟩
                    obtain ⟨adr7, er7, hroll⟩ := Kd.at_int (Kd.C_below HM.out.2.1 HB7.out) (jj : Int) (by omega) hjlz
                    cases er7
                    rw [← HR.out, Int.toNat_natCast] at hroll
                    have s12 : w7.cell? ⟨gs, 12, none⟩ = some (.slice (some adr) y.f1.length mc) := (blk_cell HS7.out 12).trans rfl
                    have s13 : w7.cell? ⟨gs, 13, none⟩ = some (.slice mB y.f2.length md) := (blk_cell HS7.out 13).trans rfl
                    obtain ⟨kl, hkl⟩ : ∃ kl, kl = (shipL B.asg (y.f1.take jj)).length := ⟨_, rfl⟩
                    have hkle : kl ≤ 200 := by rw [hkl]; have h1_ : (shipL B.asg (y.f1.take jj)).length ≤ (y.f1.take jj).length := List.length_filter_le _ _; have h2_ : (y.f1.take jj).length ≤ y.f1.length := (by rw [List.length_take]; omega); omega
                    rw [← hkl]
                    have HKL := Aside0.mk hkl
                    have HWR : Aside0 ((Lit.int .i64 r).wf = true) := ⟨wfR ((HI.out.ent ii xe HST.out.at_).rng r (HYM.out r HRM.out))⟩
                    have HFI : Aside0 (B.Find r = some (y.f0.f0, true)) := ⟨by rw [HYI.out]; exact find_at HI.out HST.out.at_ (HYM.out r HRM.out)⟩
                    cases hsh : ((B.asg r).getD (0, false)).2 with
                    | true =>
                      have hq := ship_yes B.asg y.f1 hjl (by rw [← HRJ.out]; exact hsh)
                      rw [← hkl, ← HY2.out] at hq
                      obtain ⟨hk1, hk2, hk3⟩ := hq
                      rw [← HRJ.out] at hk2
                      have HK3 := Aside0.mk hk3
                      obtain ⟨adh, eh, hshp⟩ := Kd.at_int (Kd.C_below HM.out.2.2.2 HB7.out) (kl : Int) (by omega) (by omega)
                      subst eh
                      have hrh : rd y.f2 (kl : Int) = r := by unfold rd; rw [Int.toNat_natCast, List.getD_eq_getElem?_getD, List.getElem?_eq_getElem hk1]; exact hk2
                      rw [hrh, Int.toNat_natCast] at hshp
                      have pk0 : (0 ≤ (kl : Int)) = True := eq_true (by omega)
                      have pk1 : ((kl : Int) < (y.f2.length : Int)) = True := eq_true (by omega)
                      have pk2 : (kl < y.f2.length) = True := eq_true hk1
                      have pk3 : decide ((kl : Int) < (y.f2.length : Int)) = true := decide_eq_true (by omega)
                      have pk4 : decide (kl < y.f2.length) = true := decide_eq_true hk1
                      clear hk1 hk2 hk3 hsh hkl hrh
                      go_wp2_with fail
                      go_quiet (fail)
                      go_wp2_with fail
                      skip
                      have HB8 := Aside0.mk (below_step HB7.out (pw_below_drewN (Below.refl _ _) nq))
                      have HO8 := Aside0.mk (Kd.R_drewN HO7.out nq)
                      have HS8 := Aside0.mk (blk_below HS7.out (pw_below_drewN (Below.refl _ _) nq))
                      have q := LB.Find (HP.out.below HB8.out) r HWR.out (y.f0.f0, true) HFI.out
                      go_wp2_with fail
                      refine q.mono ?_
                      clear q
                      rintro e w9 ⟨rfl, hb⟩
                      have HB9 := Aside0.mk (below_step HB8.out hb)
                      have HO9 := Aside0.mk (Kd.R_below HO8.out hb)
                      have HS9 := Aside0.mk (blk_below HS8.out hb)
                      have s0 : w9.cell? ⟨gs, 0, none⟩ = some (.int .i64 y.f0.f0) := (blk_cell HS9.out 0).trans rfl
                      clear hb HB8 HO8 HS8
                      go_wp2_with fail
                      go_roundg (y.f1.length - (jj + 1))
                      case measure => omega
                      case rel => exact ⟨jj + 1, by omega, by omega, by go_num, by rw [HK3.out]; go_num, ⟨HSN7.out ▸ HO9.out⟩, HB9, HS9⟩
                    | false =>
                      have hq := ship_no_ B.asg y.f1 hjl (by rw [← HRJ.out]; exact hsh)
                      rw [← hkl, ← HY2.out] at hq
                      obtain ⟨hk2, hk3⟩ := hq
                      rw [← HRJ.out] at hk2
                      have HK3 := Aside0.mk hk3
                      by_cases hk1 : kl < y.f2.length
                      · obtain ⟨adh, eh, hshp⟩ := Kd.at_int (Kd.C_below HM.out.2.2.2 HB7.out) (kl : Int) (by omega) (by omega)
                        subst eh
                        obtain ⟨hh, HHH⟩ : ∃ h, Aside0 (h = rd y.f2 (kl : Int)) := ⟨_, ⟨rfl⟩⟩
                        rw [← HHH.out, Int.toNat_natCast] at hshp
                        have hne : (hh == r) = false := beq_eq_false_iff_ne.2 (by rw [HHH.out]; unfold rd; rw [Int.toNat_natCast, List.getD_eq_getElem?_getD, List.getElem?_eq_getElem hk1]; exact hk2 hk1)
                        have pk0 : (0 ≤ (kl : Int)) = True := eq_true (by omega)
                        have pk1 : ((kl : Int) < (y.f2.length : Int)) = True := eq_true (by omega)
                        have pk2 : (kl < y.f2.length) = True := eq_true hk1
                        have pk3 : decide ((kl : Int) < (y.f2.length : Int)) = true := decide_eq_true (by omega)
                        have pk4 : decide (kl < y.f2.length) = true := decide_eq_true hk1
                        clear hk1 hk2 hk3 hsh hkl
                        go_wp2_with fail
                        go_quiet (fail)
                        go_wp2_with fail
                        have HB8 := Aside0.mk (below_step HB7.out (pw_below_drewN (Below.refl _ _) nq))
                        have HO8 := Aside0.mk (Kd.R_drewN HO7.out nq)
                        have HS8 := Aside0.mk (blk_below HS7.out (pw_below_drewN (Below.refl _ _) nq))
                        have q := LB.Find (HP.out.below HB8.out) r HWR.out (y.f0.f0, true) HFI.out
                        go_wp2_with fail
                        refine q.mono ?_
                        clear q
                        rintro e w9 ⟨rfl, hb⟩
                        have HB9 := Aside0.mk (below_step HB8.out hb)
                        have HO9 := Aside0.mk (Kd.R_below HO8.out hb)
                        have HS9 := Aside0.mk (blk_below HS8.out hb)
                        have s0 : w9.cell? ⟨gs, 0, none⟩ = some (.int .i64 y.f0.f0) := (blk_cell HS9.out 0).trans rfl
                        clear hb HB8 HO8 HS8
                        go_wp2_with fail
                        go_roundg (y.f1.length - (jj + 1))
                        case measure => omega
                        case rel => exact ⟨jj + 1, by omega, by omega, by go_num, by rw [HK3.out, HKL.out], ⟨HSN7.out ▸ HO9.out⟩, HB9, HS9⟩
                      · have pk3 : decide ((kl : Int) < (y.f2.length : Int)) = false := decide_eq_false (by omega)
                        have pk4 : decide (kl < y.f2.length) = false := decide_eq_false hk1
                        have pk5 : (kl < y.f2.length) = False := eq_false hk1
                        clear hk1 hk2 hk3 hsh hkl
                        go_wp2_with fail
                        go_quiet (fail)
                        go_wp2_with fail
                        have HB8 := Aside0.mk (below_step HB7.out (pw_below_drewN (Below.refl _ _) nq))
                        have HO8 := Aside0.mk (Kd.R_drewN HO7.out nq)
                        have HS8 := Aside0.mk (blk_below HS7.out (pw_below_drewN (Below.refl _ _) nq))
                        have q := LB.Find (HP.out.below HB8.out) r HWR.out (y.f0.f0, true) HFI.out
                        go_wp2_with fail
                        refine q.mono ?_
                        clear q
                        rintro e w9 ⟨rfl, hb⟩
                        have HB9 := Aside0.mk (below_step HB8.out hb)
                        have HO9 := Aside0.mk (Kd.R_below HO8.out hb)
                        have HS9 := Aside0.mk (blk_below HS8.out hb)
                        have s0 : w9.cell? ⟨gs, 0, none⟩ = some (.int .i64 y.f0.f0) := (blk_cell HS9.out 0).trans rfl
                        clear hb HB8 HO8 HS8
                        go_wp2_with fail
                        go_roundg (y.f1.length - (jj + 1))
                        case measure => omega
                        case rel => exact ⟨jj + 1, by omega, by omega, by go_num, by rw [HK3.out, HKL.out], ⟨HSN7.out ▸ HO9.out⟩, HB9, HS9⟩
              · have hjlz : ¬ (jj : Int) < (y.f1.length : Int) := by omega
                have hje : jj = y.f1.length := by omega
                subst hje
                rw [List.take_length] at HO ⊢
                have s13 : wr.cell? ⟨gs, 13, none⟩ = some (.slice mB y.f2.length md) := (blk_cell HS.out 13).trans rfl
                rw [← HY2.out]
                have HO8 : Aside0 (Kd.R (Kd.int .i64) 3 wr w3.heap.size (fun _ => True) _ (seenL B.es (ii + 1))) := ⟨by rw [seen_succ HST.out.at_]; have h_ := Kd.R_mono HO.out (fun _ _ => trivial); rw [HST.out.st] at h_; exact h_⟩
                go_wp2_with fail
                go_roundg (B.all.length - (ii + 1))
                case measure => omega
                case rel => exact ⟨ii + 1, by omega, by omega, by go_num, HO8, HB⟩
          | false =>
            rw [hc] at s14
            rw [hc] at HS
            clear hc
            go_wp2_with fail
            clear e1 e1w e2 e2w t1 t2 t2n t2m t3 t3n t3m  s0 s1 s2 s3 s4 s5 s6 s7 s8 s9 s10 s11 s12 s13 s14
            go_loopg [5, 9, 10] y.f1.length (fun gg v5 v9 v10 wr => ∃ jj : Nat, jj ≤ y.f1.length ∧ y.f1.length - jj ≤ gg ∧ v10 = .int .i64 jj ∧ v9 = .int .i64 ((shipL B.asg (y.f1.take jj)).length : Nat) ∧ Aside0 (Kd.R (Kd.int .i64) 3 wr w3.heap.size (fun k => k ≠ gs) v5 (seenL B.es ii ++ y.f1.take jj)) ∧ Aside0 (Below w3.heap.size w3 wr) ∧ Aside0 (wr.heap[gs]? = some (.cells #[.int .i64 y.f0.f0, .int .i64 y.f0.f1, .int .i64 y.f0.f2, .int .i64 y.f0.f3, .int .i64 y.f0.f4, .int .i64 y.f0.f5, .int .i64 y.f0.f6, .int .i64 y.f0.f7, .int .i64 y.f0.f8, .int .i64 y.f0.f9, .int .i64 y.f0.f10, .int .i64 y.f0.f11, .slice mA y.f1.length mc, .slice mB y.f2.length md, .bool false] 41 (0, 0))))
            case atStart => exact ⟨0, Nat.zero_le _, by omega, rfl, rfl, ⟨by rw [List.take_zero, List.append_nil]; exact HO5.out⟩, HB5, HS⟩
            case round =>
              clear HO5 HB5 HS
              obtain ⟨jj, hjj, hg2, rfl, rfl, HO, HB, HS⟩ := hrel
              have s12m : wr.cell? ⟨gs, 12, none⟩ = some (.slice mA y.f1.length mc) := (blk_cell HS.out 12).trans rfl
              by_cases hjl : jj < y.f1.length
              · have hjlz : (jj : Int) < (y.f1.length : Int) := by omega
                obtain ⟨adr, er, hroll⟩ := Kd.at_int (Kd.C_below HM.out.2.1 HB.out) (jj : Int) (by omega) hjlz
                subst er
                obtain ⟨r, HR⟩ : ∃ r, Aside0 (r = rd y.f1 (jj : Int)) := ⟨_, ⟨rfl⟩⟩
                rw [← HR.out, Int.toNat_natCast] at hroll
                have hrj : r = y.f1[jj] := by rw [HR.out]; unfold rd; rw [Int.toNat_natCast, List.getD_eq_getElem?_getD, List.getElem?_eq_getElem hjl]; rfl
                have HRJ := Aside0.mk hrj
                have HRM : Aside0 (r ∈ y.f1) := ⟨by rw [hrj]; exact List.getElem_mem hjl⟩
                obtain ⟨As, cs, es⟩ := Kd.R_slice HO.out
                subst es
                obtain ⟨SN, hSN⟩ : ∃ SN, SN = seenL B.es ii ++ y.f1.take jj := ⟨_, rfl⟩
                rw [← hSN] at HO ⊢
                have HSN := Aside0.mk hSN
                have HNOT : Aside0 (∀ q ∈ SN, (q == r) = false) := ⟨fun q hq => beq_eq_false_iff_ne.2 (fun e => by rw [hSN, e] at hq; rcases List.mem_append.1 hq with h | h; exact seen_not HI.out HST.out.at_ (HYM.out r HRM.out) h; rw [hrj] at h; exact nodup_take HYN.out hjl h)⟩
                have HLN : Aside0 (SN.length ≤ 8000) := ⟨by rw [hSN, List.length_append]; have h1_ := seen_len HI.out ii (by rw [← all_len]; omega); have h2_ : ii * 120 ≤ 64 * 120 := Nat.mul_le_mul_right 120 (by omega); have h3_ : (y.f1.take jj).length ≤ y.f1.length := (by rw [List.length_take]; omega); omega⟩
                have hln := HLN.out
                clear hSN hrj
                go_wp2_with fail
                clear s12m
                go_loopg [11] SN.length (fun gg v11 wr2 => ∃ nn : Nat, nn ≤ SN.length ∧ SN.length - nn ≤ gg ∧ v11 = .int .i64 nn ∧ Aside0 (Below wr.heap.size wr wr2))
                case atStart => exact ⟨0, Nat.zero_le _, by omega, rfl, ⟨Below.refl _ _⟩⟩
                case round =>
                  obtain ⟨nn, hnn, hg3, rfl, HBI⟩ := hrel
                  replace hroll := pw_cell_below HBI.out hroll
                  have HS2 := Aside0.mk (blk_below HS.out HBI.out)
                  have HO2 := Aside0.mk (Kd.R_below HO.out HBI.out)
                  have HB2 := Aside0.mk (below_step HB.out HBI.out)
                  have s12 : wr.cell? ⟨gs, 12, none⟩ = some (.slice (some adr) y.f1.length mc) := (blk_cell HS2.out 12).trans rfl
                  clear HO HS HB
                  have pj0 : (0 ≤ (jj : Int)) = True := eq_true (by omega)
                  have pj1 : ((jj : Int) < (y.f1.length : Int)) = True := eq_true (by omega)
                  have pj2 : (jj < y.f1.length) = True := eq_true hjl
                  by_cases hnl : nn < SN.length
                  · have hnlz : (nn : Int) < (SN.length : Int) := by omega
                    obtain ⟨ads, es_, hseen⟩ := Kd.at_int (Kd.R_reads' HO2.out).2.2 (nn : Int) (by omega) hnlz
                    subst es_
                    obtain ⟨qq, HQ⟩ : ∃ q, Aside0 (q = rd SN (nn : Int)) := ⟨_, ⟨rfl⟩⟩
                    rw [← HQ.out, Int.toNat_natCast] at hseen
                    have hqr : (qq == r) = false := HNOT.out qq (by rw [HQ.out]; unfold rd; rw [Int.toNat_natCast, List.getD_eq_getElem?_getD, List.getElem?_eq_getElem hnl]; exact List.getElem_mem hnl)
                    have pn0 : (0 ≤ (nn : Int)) = True := eq_true (by omega)
                    have pn1 : ((nn : Int) < (SN.length : Int)) = True := eq_true (by omega)
                    have pn2 : (nn < SN.length) = True := eq_true hnl
                    go_wp2_with fail
                    go_quiet (fail)
                    go_wp2_with fail
                    go_roundg (SN.length - (nn + 1))
                    case measure => omega
                    case rel => exact ⟨nn + 1, by omega, by omega, by go_num, ⟨below_step HBI.out (pw_below_drewN (Below.refl _ _) _)⟩⟩
                  · have hnlz : ¬ (nn : Int) < (SN.length : Int) := by omega
                    have hne : nn = SN.length := by omega
                    subst hne
                    go_wp2_with (first | ((with_reducible refine gate_builtin (b := .append) (xs := #[.tmp 129, .tmp 135]) rfl ?_); at_builtin; refine Kd.R_append (Kd.int .i64) (w0 := w3) w3.heap.size rfl (.tmp 129) (.tmp 135) 39 3 (.int .i64 0) 8 rfl Try.underlying39 info3 rfl (by decide) (by omega) (.slice As SN.length cs) SN r [.int .i64 r] (fun k => k ≠ gs) (fun _ => False) rfl (by first | (go_simp; done) | (go_simp; rfl)) ?aP (fun _ hk => hk.elim) ?aF HO2.out HB2.out ?aS ?aL ?_; (case aP => exact rfl); (case aF => exact fun k hk e => by have := blk_lt HS2.out; omega); (case aS => exact below_size HB2.out); (case aL => have := HLN.out; omega); intro v1 w7 ho hb hg1 hat; have HO7 := Aside0.mk ho; have HB7 := Aside0.mk hb; have HS7 := Aside0.mk (blk_grown HS2.out hg1 (fun e => HO2.out.1 gs e.symm rfl)); clear ho hb hg1 hat))
                    clear hroll s12 HO2 HB2 HS2 HBI HNOT
                    have HSN7 : Aside0 (SN ++ [r] = seenL B.es ii ++ y.f1.take (jj + 1)) := ⟨by rw [HSN.out, List.append_assoc, List.take_succ_eq_append_getElem hjl, ← HRJ.out]⟩
                    obtain ⟨adr7, er7, hroll⟩ := Kd.at_int (Kd.C_below HM.out.2.1 HB7.out) (jj : Int) (by omega) hjlz
                    cases er7
                    rw [← HR.out, Int.toNat_natCast] at hroll
                    have s12 : w7.cell? ⟨gs, 12, none⟩ = some (.slice (some adr) y.f1.length mc) := (blk_cell HS7.out 12).trans rfl
                    have s13 : w7.cell? ⟨gs, 13, none⟩ = some (.slice mB y.f2.length md) := (blk_cell HS7.out 13).trans rfl
                    obtain ⟨kl, hkl⟩ : ∃ kl, kl = (shipL B.asg (y.f1.take jj)).length := ⟨_, rfl⟩
                    have hkle : kl ≤ 200 := by rw [hkl]; have h1_ : (shipL B.asg (y.f1.take jj)).length ≤ (y.f1.take jj).length := List.length_filter_le _ _; have h2_ : (y.f1.take jj).length ≤ y.f1.length := (by rw [List.length_take]; omega); omega
                    rw [← hkl]
                    have HKL := Aside0.mk hkl
                    have HWR : Aside0 ((Lit.int .i64 r).wf = true) := ⟨wfR ((HI.out.ent ii xe HST.out.at_).rng r (HYM.out r HRM.out))⟩
                    have HFI : Aside0 (B.Find r = some (y.f0.f0, true)) := ⟨by rw [HYI.out]; exact find_at HI.out HST.out.at_ (HYM.out r HRM.out)⟩
                    cases hsh : ((B.asg r).getD (0, false)).2 with
                    | true =>
                      have hq := ship_yes B.asg y.f1 hjl (by rw [← HRJ.out]; exact hsh)
                      rw [← hkl, ← HY2.out] at hq
                      obtain ⟨hk1, hk2, hk3⟩ := hq
                      rw [← HRJ.out] at hk2
                      have HK3 := Aside0.mk hk3
                      obtain ⟨adh, eh, hshp⟩ := Kd.at_int (Kd.C_below HM.out.2.2.2 HB7.out) (kl : Int) (by omega) (by omega)
                      subst eh
                      have hrh : rd y.f2 (kl : Int) = r := by unfold rd; rw [Int.toNat_natCast, List.getD_eq_getElem?_getD, List.getElem?_eq_getElem hk1]; exact hk2
                      rw [hrh, Int.toNat_natCast] at hshp
                      have pk0 : (0 ≤ (kl : Int)) = True := eq_true (by omega)
                      have pk1 : ((kl : Int) < (y.f2.length : Int)) = True := eq_true (by omega)
                      have pk2 : (kl < y.f2.length) = True := eq_true hk1
                      have pk3 : decide ((kl : Int) < (y.f2.length : Int)) = true := decide_eq_true (by omega)
                      have pk4 : decide (kl < y.f2.length) = true := decide_eq_true hk1
                      clear hk1 hk2 hk3 hsh hkl hrh
                      go_wp2_with fail
                      go_quiet (fail)
                      go_wp2_with fail
                      skip
                      have HB8 := Aside0.mk (below_step HB7.out (pw_below_drewN (Below.refl _ _) nq))
                      have HO8 := Aside0.mk (Kd.R_drewN HO7.out nq)
                      have HS8 := Aside0.mk (blk_below HS7.out (pw_below_drewN (Below.refl _ _) nq))
                      have q := LB.Find (HP.out.below HB8.out) r HWR.out (y.f0.f0, true) HFI.out
                      go_wp2_with fail
                      refine q.mono ?_
                      clear q
                      rintro e w9 ⟨rfl, hb⟩
                      have HB9 := Aside0.mk (below_step HB8.out hb)
                      have HO9 := Aside0.mk (Kd.R_below HO8.out hb)
                      have HS9 := Aside0.mk (blk_below HS8.out hb)
                      have s0 : w9.cell? ⟨gs, 0, none⟩ = some (.int .i64 y.f0.f0) := (blk_cell HS9.out 0).trans rfl
                      clear hb HB8 HO8 HS8
                      go_wp2_with fail
                      go_roundg (y.f1.length - (jj + 1))
                      case measure => omega
                      case rel => exact ⟨jj + 1, by omega, by omega, by go_num, by rw [HK3.out]; go_num, ⟨HSN7.out ▸ HO9.out⟩, HB9, HS9⟩
                    | false =>
                      have hq := ship_no_ B.asg y.f1 hjl (by rw [← HRJ.out]; exact hsh)
                      rw [← hkl, ← HY2.out] at hq
                      obtain ⟨hk2, hk3⟩ := hq
                      rw [← HRJ.out] at hk2
                      have HK3 := Aside0.mk hk3
                      by_cases hk1 : kl < y.f2.length
                      · obtain ⟨adh, eh, hshp⟩ := Kd.at_int (Kd.C_below HM.out.2.2.2 HB7.out) (kl : Int) (by omega) (by omega)
                        subst eh
                        obtain ⟨hh, HHH⟩ : ∃ h, Aside0 (h = rd y.f2 (kl : Int)) := ⟨_, ⟨rfl⟩⟩
                        rw [← HHH.out, Int.toNat_natCast] at hshp
                        have hne : (hh == r) = false := beq_eq_false_iff_ne.2 (by rw [HHH.out]; unfold rd; rw [Int.toNat_natCast, List.getD_eq_getElem?_getD, List.getElem?_eq_getElem hk1]; exact hk2 hk1)
                        have pk0 : (0 ≤ (kl : Int)) = True := eq_true (by omega)
                        have pk1 : ((kl : Int) < (y.f2.length : Int)) = True := eq_true (by omega)
                        have pk2 : (kl < y.f2.length) = True := eq_true hk1
                        have pk3 : decide ((kl : Int) < (y.f2.length : Int)) = true := decide_eq_true (by omega)
                        have pk4 : decide (kl < y.f2.length) = true := decide_eq_true hk1
                        clear hk1 hk2 hk3 hsh hkl
                        go_wp2_with fail
                        go_quiet (fail)
                        go_wp2_with fail
                        have HB8 := Aside0.mk (below_step HB7.out (pw_below_drewN (Below.refl _ _) nq))
                        have HO8 := Aside0.mk (Kd.R_drewN HO7.out nq)
                        have HS8 := Aside0.mk (blk_below HS7.out (pw_below_drewN (Below.refl _ _) nq))
                        have q := LB.Find (HP.out.below HB8.out) r HWR.out (y.f0.f0, true) HFI.out
                        go_wp2_with fail
                        refine q.mono ?_
                        clear q
                        rintro e w9 ⟨rfl, hb⟩
                        have HB9 := Aside0.mk (below_step HB8.out hb)
                        have HO9 := Aside0.mk (Kd.R_below HO8.out hb)
                        have HS9 := Aside0.mk (blk_below HS8.out hb)
                        have s0 : w9.cell? ⟨gs, 0, none⟩ = some (.int .i64 y.f0.f0) := (blk_cell HS9.out 0).trans rfl
                        clear hb HB8 HO8 HS8
                        go_wp2_with fail
                        go_roundg (y.f1.length - (jj + 1))
                        case measure => omega
                        case rel => exact ⟨jj + 1, by omega, by omega, by go_num, by rw [HK3.out, HKL.out], ⟨HSN7.out ▸ HO9.out⟩, HB9, HS9⟩
                      · have pk3 : decide ((kl : Int) < (y.f2.length : Int)) = false := decide_eq_false (by omega)
                        have pk4 : decide (kl < y.f2.length) = false := decide_eq_false hk1
                        have pk5 : (kl < y.f2.length) = False := eq_false hk1
                        clear hk1 hk2 hk3 hsh hkl
                        go_wp2_with fail
                        go_quiet (fail)
                        go_wp2_with fail
                        have HB8 := Aside0.mk (below_step HB7.out (pw_below_drewN (Below.refl _ _) nq))
                        have HO8 := Aside0.mk (Kd.R_drewN HO7.out nq)
                        have HS8 := Aside0.mk (blk_below HS7.out (pw_below_drewN (Below.refl _ _) nq))
                        have q := LB.Find (HP.out.below HB8.out) r HWR.out (y.f0.f0, true) HFI.out
                        go_wp2_with fail
                        refine q.mono ?_
                        clear q
                        rintro e w9 ⟨rfl, hb⟩
                        have HB9 := Aside0.mk (below_step HB8.out hb)
                        have HO9 := Aside0.mk (Kd.R_below HO8.out hb)
                        have HS9 := Aside0.mk (blk_below HS8.out hb)
                        have s0 : w9.cell? ⟨gs, 0, none⟩ = some (.int .i64 y.f0.f0) := (blk_cell HS9.out 0).trans rfl
                        clear hb HB8 HO8 HS8
                        go_wp2_with fail
                        go_roundg (y.f1.length - (jj + 1))
                        case measure => omega
                        case rel => exact ⟨jj + 1, by omega, by omega, by go_num, by rw [HK3.out, HKL.out], ⟨HSN7.out ▸ HO9.out⟩, HB9, HS9⟩
              · have hjlz : ¬ (jj : Int) < (y.f1.length : Int) := by omega
                have hje : jj = y.f1.length := by omega
                subst hje
                rw [List.take_length] at HO ⊢
                have s13 : wr.cell? ⟨gs, 13, none⟩ = some (.slice mB y.f2.length md) := (blk_cell HS.out 13).trans rfl
                rw [← HY2.out]
                have HO8 : Aside0 (Kd.R (Kd.int .i64) 3 wr w3.heap.size (fun _ => True) _ (seenL B.es (ii + 1))) := ⟨by rw [seen_succ HST.out.at_]; have h_ := Kd.R_mono HO.out (fun _ _ => trivial); rw [HST.out.st] at h_; exact h_⟩
                go_wp2_with fail
                go_roundg (B.all.length - (ii + 1))
                case measure => omega
                case rel => exact ⟨ii + 1, by omega, by omega, by go_num, HO8, HB⟩
        · have hilz : ¬ (ii : Int) < (B.all.length : Int) := by omega
          have hie : ii = B.all.length := by omega
          subst hie
          have HPE := Aside0.mk (HP.out.below HB.out)
          go_wp2_with fail
          refine (aw_all _).mono ?_
          rintro e w9 ⟨rfl, hb⟩
          go_wp2
          go_ret
          exact ⟨rfl, below_step HPE.out.b hb⟩
theorem OrderLimits_all_ (A0 : Option Addr) (c0 : Nat) (l0 : List S35) (w : World) (hr0 : Kd.C k35 w A0 l0.length l0) (hc0 : l0.length ≤ c0) (hwf : wfs l0 = true) :
    Calls Try.prog 7 #[.slice A0 l0.length c0] w fun e w' => e = .returned (.bool true) ∧ Below w.heap.size w w' := by
  by_cases hN : 120 < l0.length
  · exact OrderLimits_long A0 c0 l0 w hr0 hc0 hwf hN
  · exact OrderLimits_all A0 c0 l0 w hr0 hc0 hwf hN
def papermilllaw51_OrderLimits.f (l0 : List S35) : Option Bool := if wfs l0 = true then some true else none
theorem papermilllaw51_OrderLimits.calls (A0 : Option Addr) (c0 : Nat) (l0 : List S35) (r : Bool) (w : World) (hr0 : Kd.C k35 w A0 l0.length l0) (hc0 : l0.length ≤ c0) (h : papermilllaw51_OrderLimits.f l0  = some r) :
    Calls Try.prog 7 #[.slice A0 l0.length c0] w fun e w' => e = .returned (.bool r) ∧ Below w.heap.size w w' := by
  unfold papermilllaw51_OrderLimits.f at h
  split at h
  · rename_i hw0
    obtain rfl := Option.some.inj h
    exact OrderLimits_all_ A0 c0 l0 w hr0 hc0 hw0
  · cases h

end Go.Proofs.Ythmhehfbepijgaa.Q
