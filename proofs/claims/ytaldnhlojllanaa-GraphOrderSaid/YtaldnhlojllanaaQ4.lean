/- Plain Lean functions of the Go functions, and proofs that the Go calls come to them; laid out by this session's program wip/tools/hp.py. -/
import Derived.Test.YtaldnhlojllanaaQ0
import Derived.Test.YtaldnhlojllanaaQ2
namespace Go.Proofs.Ytaldnhlojllanaa.Q
open Go.RowKit Go.Proofs.YtaldnhlojllanaaW.PrintWords Go.Proofs.YtaldnhlojllanaaW.PrintLast Go.Proofs.YtaldnhlojllanaaW.PrintMore
attribute [local go_sem] max2_int min2_int max_two min_two max_three min_three max_four min_four   -- for this text's walks alone
set_option linter.unusedVariables false
set_option linter.unusedSimpArgs false

/-! ### graph_Reach: function 21, by hand -/
/-- What a visit does: marks the node, and visits from it what is not marked, arc by arc; the fuel is the depth. -/
def rVisit (l : List S42) : Nat → Int → List Bool → Option (List Bool)
  | 0, _, _ => none
  | k + 1, n, o => l.foldlM (fun o a => if a.f0 = n then (if o.getD a.f1.toNat false = true then some o else rVisit l k a.f1 o) else some o) (o.set n.toNat true)
theorem foldlM_mono {α β : Type} (f g : β → α → Option β) (h : ∀ b a, LeO (f b a) (g b a)) : ∀ (l : List α) (b : β), LeO (l.foldlM f b) (l.foldlM g b)
  | [], b => LeO.refl _
  | a :: l, b => by
    rw [List.foldlM_cons, List.foldlM_cons]
    exact LeO.bind (h b a) fun b' => foldlM_mono f g h l b'
theorem rVisit_mono (l : List S42) : ∀ k n o, LeO (rVisit l k n o) (rVisit l (k + 1) n o)
  | 0, _, _ => by intro r h; simp [rVisit] at h
  | k + 1, n, o => by
    unfold rVisit
    refine foldlM_mono _ _ (fun b a => ?_) _ _
    exact LeO.ite (LeO.ite (LeO.refl _) (rVisit_mono l k _ _)) (LeO.refl _)
/-- The memory of a visit: what is marked (its own slice), the graph, the function's own variable. -/
structure VInv (W0 : World) (A : Option Addr) (c : Nat) (l : List S42) (N : Int) (pout pg pv go co : Nat) (w : World) (o : List Bool) : Prop where
  len : (o.length : Int) = N
  r : Kd.R Kd.bool 4 w W0.heap.size (fun _ => True) (.slice (some ⟨go, 0, none⟩) o.length co) o
  out : w.heap[pout]? = some (.cells #[.slice (some ⟨go, 0, none⟩) o.length co] 33 (0, 0))
  g : w.heap[pg]? = some (.cells #[.int .i64 N, .slice A l.length c] 24 (0, 0))
  v : w.heap[pv]? = some (.cells #[.func (.func 36) #[] #[.pointer (some ⟨pout, 0, none⟩), .pointer (some ⟨pg, 0, none⟩), .pointer (some ⟨pv, 0, none⟩)]] 51 (0, 0))
  b : Below W0.heap.size W0 w
  gob : W0.heap.size ≤ go
theorem VInv.below {W0 : World} {A : Option Addr} {c : Nat} {l : List S42} {N : Int} {pout pg pv go co : Nat} {w w' : World} {o : List Bool} (h : VInv W0 A c l N pout pg pv go co w o) (hb : Below w.heap.size w w') : VInv W0 A c l N pout pg pv go co w' o :=
  ⟨h.len, Kd.R_below h.r hb, blk_below h.out hb, blk_below h.g hb, blk_below h.v hb, below_step h.b hb, h.gob⟩
theorem VInv.set {W0 : World} {A : Option Addr} {c : Nat} {l : List S42} {N : Int} {pout pg pv go co : Nat} {w : World} {o : List Bool} (h : VInv W0 A c l N pout pg pv go co w o) (n : Int) :
    VInv W0 A c l N pout pg pv go co (w.setCell ⟨go, n.toNat, none⟩ (.bool true)) (o.set n.toNat true) ∧ w.grownBy (w.setCell ⟨go, n.toNat, none⟩ (.bool true)) (some go) := by
  have hp := Kd.R_putg h.r n true
  have hl : (o.set n.toNat true).length = o.length := List.length_set
  refine ⟨⟨by rw [hl]; exact h.len, by rw [hl]; exact hp.1, by rw [hl]; exact blk_grown h.out hp.2 (Kd.R_ne h.r h.out (by decide)), blk_grown h.g hp.2 (Kd.R_ne h.r h.g (by decide)), blk_grown h.v hp.2 (Kd.R_ne h.r h.v (by decide)), below_set h.b h.gob, h.gob⟩, hp.2⟩
theorem VInv.at' {W0 : World} {A : Option Addr} {c : Nat} {l : List S42} {N : Int} {pout pg pv go co : Nat} {w : World} {o : List Bool} (h : VInv W0 A c l N pout pg pv go co w o) (n : Int) (h0 : 0 ≤ n) (h1 : n < (o.length : Int)) :
    w.cell? ⟨go, n.toNat, none⟩ = some (.bool (o.getD n.toNat false)) ∧ w.frozen? ⟨go, n.toNat, none⟩ = false := by
  obtain ⟨hx, hf⟩ := Kd.R_celln false h.r n h0 h1
  exact ⟨hx, hf⟩
theorem VInv.sz {W0 : World} {A : Option Addr} {c : Nat} {l : List S42} {N : Int} {pout pg pv go co : Nat} {w : World} {o : List Bool} (h : VInv W0 A c l N pout pg pv go co w o) : w.cell? ⟨pout, 0, none⟩ = some (.slice (some ⟨go, 0, none⟩) o.length co) ∧ w.cell? ⟨pg, 1, none⟩ = some (.slice A l.length c) ∧ w.cell? ⟨pv, 0, none⟩ = some (.func (.func 36) #[] #[.pointer (some ⟨pout, 0, none⟩), .pointer (some ⟨pg, 0, none⟩), .pointer (some ⟨pv, 0, none⟩)]) :=
  ⟨(blk_cell h.out 0).trans rfl, (blk_cell h.g 1).trans rfl, (blk_cell h.v 0).trans rfl⟩
set_option maxHeartbeats 2000000 in
set_option maxRecDepth 100000 in
theorem visit_calls (W0 : World) (A : Option Addr) (c : Nat) (l : List S42) (N : Int) (pout pg pv go co : Nat) (hC : Kd.C k42 W0 A l.length l) (hF : ∀ x ∈ l, (0 ≤ x.f0 ∧ x.f0 < N) ∧ 0 ≤ x.f1 ∧ x.f1 < N) : ∀ (k : Nat) (n : Int) (o o' : List Bool) (w : World), rVisit l k n o = some o' → VInv W0 A c l N pout pg pv go co w o → 0 ≤ n → n < N →
    Calls Try.prog 36 #[.int .i64 n, .pointer (some ⟨pout, 0, none⟩), .pointer (some ⟨pg, 0, none⟩), .pointer (some ⟨pv, 0, none⟩)] w fun e w' => e = .returned (.tuple #[]) ∧ VInv W0 A c l N pout pg pv go co w' o' ∧ w.grownBy w' (some go) := by
  intro k
  induction k with
  | zero => intro n o o' w h; simp [rVisit] at h
  | succ k ih =>
    intro n o o' w h hv hn0 hn1
    have hu24 := Try.underlying24
    have hu42 := Try.underlying42
    have hlen := hC.2.1
    have IH := Aside0.mk ih
    unfold rVisit at h
    obtain ⟨f, Hf⟩ : ∃ f : List Bool → S42 → Option (List Bool), Aside0 (f = fun o a => if a.f0 = n then (if o.getD a.f1.toNat false = true then some o else rVisit l k a.f1 o) else some o) := ⟨_, ⟨rfl⟩⟩
    rw [← Hf.out] at h
    have HC := Aside0.mk hC
    have HF := Aside0.mk hF
    have HV := Aside0.mk hv
    have H := Aside0.mk h
    have hno : n < (o.length : Int) := by rw [hv.len]; exact hn1
    clear hC hF hv h ih
    obtain ⟨hz0, hz1, hz2⟩ := HV.out.sz
    obtain ⟨hx, hfx⟩ := HV.out.at' n hn0 hno
    have c0 : decide (0 ≤ n) = true := decide_eq_true hn0
    have c1 : decide (n < (o.length : Int)) = true := decide_eq_true hno
    have p0 := eq_true hn0
    have p1 := eq_true hno
    clear hn0 hno
    go_enter Try.func36, Try.ntmps36
    go_wp2_with ((with_reducible refine gate_store (t := 4) (p := 9) rfl ?_); refine store_event (t := 4) (p := 9) (v := ?vo_s) (w1 := (w.setCell ⟨go, n.toNat, none⟩ (.bool true))) ?hg ?ho ?hn ?hr ?_; (case ho => rfl); (case hg => rfl); (case hn => rfl); (case hr => first | (go_simp; done) | (go_simp; rfl)); intro w1 hw; have HV1 : Aside0 (VInv W0 A c l N pout pg pv go co w1 (o.set n.toNat true)) := ⟨by rw [hw]; exact (HV.out.set n).1⟩; have HG1 : Aside0 (w.grownBy w1 (some go)) := ⟨by rw [hw]; exact (HV.out.set n).2⟩; clear hw; obtain ⟨hy0, hy1, hy2⟩ := HV1.out.sz)
    go_loopg [13] l.length (fun gg v13 wr => ∃ (kk : Nat) (o1 : List Bool), kk ≤ l.length ∧ l.length - kk ≤ gg ∧ v13 = .int .i64 kk ∧ Aside0 ((l.drop kk).foldlM f o1 = some o') ∧ Aside0 (VInv W0 A c l N pout pg pv go co wr o1) ∧ Aside0 (w.grownBy wr (some go)))
    case atStart => exact ⟨0, _, Nat.zero_le _, by omega, rfl, ⟨by rw [List.drop_zero]; exact H.out⟩, HV1, HG1⟩
    case round =>
      obtain ⟨kk, o1, hkk, hg, rfl, HO, HV2, HG2⟩ := hrel
      clear hx hfx hz0 hz1 hz2 hy0 hy1 hy2
      by_cases hlt : kk < l.length
      · have hltz : (kk : Int) < (l.length : Int) := by omega
        obtain ⟨ad, e, h0, h1⟩ := at_T42 HC.out (kk : Int) (by omega) (by omega)
        subst e
        rw [show rd_T42 l (kk : Int) = l.getD kk z42 by simp [rd_T42]] at h0 h1
        obtain ⟨x, HX⟩ : ∃ x, Aside0 (x = l.getD kk z42) := ⟨_, ⟨rfl⟩⟩
        have hxe : x = l[kk] := by rw [HX.out, List.getD_eq_getElem?_getD, List.getElem?_eq_getElem hlt]; rfl
        have HI := Aside0.mk (HF.out x (by rw [hxe]; exact List.getElem_mem hlt))
        have HO' : Aside0 ((f o1 x).bind (fun o2 => (l.drop (kk + 1)).foldlM f o2) = some o') := ⟨by
          have := HO.out
          rw [List.drop_eq_getElem_cons hlt, List.foldlM_cons, ← hxe] at this
          exact this⟩
        clear HO hxe
        rw [← HX.out, Int.toNat_natCast] at h0 h1
        replace h0 := (HV2.out.b.cell (World.block_lt_of_cell? W0 _ h0)).trans h0
        replace h1 := (HV2.out.b.cell (World.block_lt_of_cell? W0 _ h1)).trans h1
        obtain ⟨bo, EB⟩ : ∃ b, Aside0 (b = o1.getD x.f1.toNat false) := ⟨_, ⟨rfl⟩⟩
        have q0 := HI.out.2.1
        have q1 : x.f1 < (o1.length : Int) := by rw [HV2.out.len]; exact HI.out.2.2
        have c2 : decide (0 ≤ x.f1) = true := decide_eq_true q0
        have c3 : decide (x.f1 < (o1.length : Int)) = true := decide_eq_true q1
        have Q0 := Aside0.mk q0
        have Q1 := Aside0.mk q1
        replace q0 := eq_true q0
        replace q1 := eq_true q1
        by_cases c4 : x.f0 = n
        · have c4b0 : (x.f0 == n) = true := beq_iff_eq.mpr c4
          have c4b1 : (x.f0 != n) = false := bne_eq_false_iff_eq.mpr c4
          cases bo with
          | true =>
            have HN : Aside0 ((l.drop (kk + 1)).foldlM f o1 = some o') := ⟨by have h_ := HO'.out; rw [Hf.out] at h_; simp only [if_pos c4, ← EB.out] at h_; rw [Hf.out]; exact h_⟩
            clear c4 HO'
            go_wp2_with (first | ((with_reducible refine gate_dst (N := 6) rfl ?_); refine box_event ?hg (N := 6) ?hd (cs := #[.int .i64 0, .int .i64 0]) (t := 42) ?hr ?_; (case hd => rfl); (case hg => rfl); (case hr => first | (go_simp; done) | (go_simp; rfl)); intro gb hg wa hbox hb; have BN := Aside0.mk hbox; have BA := Aside0.mk hb; have GB : Aside0 (wr.heap.size ≤ gb) := ⟨by rw [hg]; exact Nat.le_refl _⟩; clear hbox hb hg; have hn0 : wa.cell? ⟨gb, 0, none⟩ = some (.int .i64 0) := (blk_cell BN.out 0).trans rfl; have hn1 : wa.cell? ⟨gb, 1, none⟩ = some (.int .i64 0) := (blk_cell BN.out 1).trans rfl; have hfn0 := blk_frozen BN.out 0; have hfn1 := blk_frozen BN.out 1) | ((with_reducible refine gate_store (t := 42) (p := 6) rfl ?_); refine store_event (t := 42) (p := 6) (v := ?vo_b0) (w1 := ((wa.setCell ⟨gb, 0, none⟩ (.int .i64 x.f0)).setCell ⟨gb, 1, none⟩ (.int .i64 x.f1))) ?hg ?ho ?hn ?hr ?_; (case ho => rfl); (case hg => rfl); (case hn => rfl); (case hr => first | (go_simp; done) | (go_simp; rfl)); intro wb hw; have BM : Aside0 (wb.heap[gb]? = some (.cells #[.int .i64 x.f0, .int .i64 x.f1] 42 (0, 0))) := ⟨by rw [hw]; refine blk_put (cs := #[.int .i64 x.f0, .int .i64 0]) ?_ 1 _ rfl; exact blk_put (cs := #[.int .i64 0, .int .i64 0]) BN.out 0 _ rfl⟩; have BB : Aside0 (Below wr.heap.size wr wb) := ⟨by rw [hw]; exact below_set (below_set BA.out GB.out) GB.out⟩; clear hw; have HV3 := Aside0.mk (HV2.out.below BB.out); have HG3 : Aside0 (w.grownBy wb (some go)) := ⟨HG2.out.trans (grown_of_below BB.out _)⟩; have hm0 : wb.cell? ⟨gb, 0, none⟩ = some (.int .i64 x.f0) := (blk_cell BM.out 0).trans rfl; have hm1 : wb.cell? ⟨gb, 1, none⟩ = some (.int .i64 x.f1) := (blk_cell BM.out 1).trans rfl; have hfm0 := blk_frozen BM.out 0; have hfm1 := blk_frozen BM.out 1; obtain ⟨hy0, hy1, hy2⟩ := HV3.out.sz; obtain ⟨hx, hfx⟩ := HV3.out.at' x.f1 Q0.out Q1.out; rw [← EB.out] at hx))
            go_roundg (l.length - (kk + 1))
            case measure => omega
            case rel => exact ⟨kk + 1, o1, by omega, by omega, by go_num, HN, HV3, HG3⟩
          | false =>
            have HN : Aside0 ((rVisit l k x.f1 o1).bind (fun o2 => (l.drop (kk + 1)).foldlM f o2) = some o') := ⟨by have h_ := HO'.out; rw [Hf.out] at h_; simp only [if_pos c4, ← EB.out] at h_; rw [Hf.out]; simpa using h_⟩
            obtain ⟨o2, ho2, HN2⟩ := Option.bind_eq_some_iff.mp HN.out
            have HO2 := Aside0.mk ho2
            have HN3 := Aside0.mk HN2
            clear c4 HO' HN ho2 HN2
            go_wp2_with (first | ((with_reducible refine gate_dst (N := 6) rfl ?_); refine box_event ?hg (N := 6) ?hd (cs := #[.int .i64 0, .int .i64 0]) (t := 42) ?hr ?_; (case hd => rfl); (case hg => rfl); (case hr => first | (go_simp; done) | (go_simp; rfl)); intro gb hg wa hbox hb; have BN := Aside0.mk hbox; have BA := Aside0.mk hb; have GB : Aside0 (wr.heap.size ≤ gb) := ⟨by rw [hg]; exact Nat.le_refl _⟩; clear hbox hb hg; have hn0 : wa.cell? ⟨gb, 0, none⟩ = some (.int .i64 0) := (blk_cell BN.out 0).trans rfl; have hn1 : wa.cell? ⟨gb, 1, none⟩ = some (.int .i64 0) := (blk_cell BN.out 1).trans rfl; have hfn0 := blk_frozen BN.out 0; have hfn1 := blk_frozen BN.out 1) | ((with_reducible refine gate_store (t := 42) (p := 6) rfl ?_); refine store_event (t := 42) (p := 6) (v := ?vo_b2) (w1 := ((wa.setCell ⟨gb, 0, none⟩ (.int .i64 x.f0)).setCell ⟨gb, 1, none⟩ (.int .i64 x.f1))) ?hg ?ho ?hn ?hr ?_; (case ho => rfl); (case hg => rfl); (case hn => rfl); (case hr => first | (go_simp; done) | (go_simp; rfl)); intro wb hw; have BM : Aside0 (wb.heap[gb]? = some (.cells #[.int .i64 x.f0, .int .i64 x.f1] 42 (0, 0))) := ⟨by rw [hw]; refine blk_put (cs := #[.int .i64 x.f0, .int .i64 0]) ?_ 1 _ rfl; exact blk_put (cs := #[.int .i64 0, .int .i64 0]) BN.out 0 _ rfl⟩; have BB : Aside0 (Below wr.heap.size wr wb) := ⟨by rw [hw]; exact below_set (below_set BA.out GB.out) GB.out⟩; clear hw; have HV3 := Aside0.mk (HV2.out.below BB.out); have HG3 : Aside0 (w.grownBy wb (some go)) := ⟨HG2.out.trans (grown_of_below BB.out _)⟩; have hm0 : wb.cell? ⟨gb, 0, none⟩ = some (.int .i64 x.f0) := (blk_cell BM.out 0).trans rfl; have hm1 : wb.cell? ⟨gb, 1, none⟩ = some (.int .i64 x.f1) := (blk_cell BM.out 1).trans rfl; have hfm0 := blk_frozen BM.out 0; have hfm1 := blk_frozen BM.out 1; obtain ⟨hy0, hy1, hy2⟩ := HV3.out.sz; obtain ⟨hx, hfx⟩ := HV3.out.at' x.f1 Q0.out Q1.out; rw [← EB.out] at hx) | (go_at_call 36; refine (IH.out x.f1 o1 o2 wb HO2.out HV3.out Q0.out HI.out.2.2).mono ?_; rintro e w6 ⟨rfl, hv6, hg6⟩; have HV4 := Aside0.mk hv6; have HG4 := Aside0.mk (HG3.out.trans hg6); clear hv6 hg6))
            go_roundg (l.length - (kk + 1))
            case measure => omega
            case rel => exact ⟨kk + 1, o2, by omega, by omega, by go_num, HN3, HV4, HG4⟩
        · have c4b0 : (x.f0 == n) = false := beq_eq_false_iff_ne.mpr c4
          have c4b1 : (x.f0 != n) = true := bne_iff_ne.mpr c4
          have HN : Aside0 ((l.drop (kk + 1)).foldlM f o1 = some o') := ⟨by have h_ := HO'.out; rw [Hf.out] at h_; simp only [if_neg c4] at h_; rw [Hf.out]; exact h_⟩
          clear c4 HO'
          go_wp2_with (first | ((with_reducible refine gate_dst (N := 6) rfl ?_); refine box_event ?hg (N := 6) ?hd (cs := #[.int .i64 0, .int .i64 0]) (t := 42) ?hr ?_; (case hd => rfl); (case hg => rfl); (case hr => first | (go_simp; done) | (go_simp; rfl)); intro gb hg wa hbox hb; have BN := Aside0.mk hbox; have BA := Aside0.mk hb; have GB : Aside0 (wr.heap.size ≤ gb) := ⟨by rw [hg]; exact Nat.le_refl _⟩; clear hbox hb hg; have hn0 : wa.cell? ⟨gb, 0, none⟩ = some (.int .i64 0) := (blk_cell BN.out 0).trans rfl; have hn1 : wa.cell? ⟨gb, 1, none⟩ = some (.int .i64 0) := (blk_cell BN.out 1).trans rfl; have hfn0 := blk_frozen BN.out 0; have hfn1 := blk_frozen BN.out 1) | ((with_reducible refine gate_store (t := 42) (p := 6) rfl ?_); refine store_event (t := 42) (p := 6) (v := ?vo_b1) (w1 := ((wa.setCell ⟨gb, 0, none⟩ (.int .i64 x.f0)).setCell ⟨gb, 1, none⟩ (.int .i64 x.f1))) ?hg ?ho ?hn ?hr ?_; (case ho => rfl); (case hg => rfl); (case hn => rfl); (case hr => first | (go_simp; done) | (go_simp; rfl)); intro wb hw; have BM : Aside0 (wb.heap[gb]? = some (.cells #[.int .i64 x.f0, .int .i64 x.f1] 42 (0, 0))) := ⟨by rw [hw]; refine blk_put (cs := #[.int .i64 x.f0, .int .i64 0]) ?_ 1 _ rfl; exact blk_put (cs := #[.int .i64 0, .int .i64 0]) BN.out 0 _ rfl⟩; have BB : Aside0 (Below wr.heap.size wr wb) := ⟨by rw [hw]; exact below_set (below_set BA.out GB.out) GB.out⟩; clear hw; have HV3 := Aside0.mk (HV2.out.below BB.out); have HG3 : Aside0 (w.grownBy wb (some go)) := ⟨HG2.out.trans (grown_of_below BB.out _)⟩; have hm0 : wb.cell? ⟨gb, 0, none⟩ = some (.int .i64 x.f0) := (blk_cell BM.out 0).trans rfl; have hm1 : wb.cell? ⟨gb, 1, none⟩ = some (.int .i64 x.f1) := (blk_cell BM.out 1).trans rfl; have hfm0 := blk_frozen BM.out 0; have hfm1 := blk_frozen BM.out 1; obtain ⟨hy0, hy1, hy2⟩ := HV3.out.sz; obtain ⟨hx, hfx⟩ := HV3.out.at' x.f1 Q0.out Q1.out; rw [← EB.out] at hx))
          go_roundg (l.length - (kk + 1))
          case measure => omega
          case rel => exact ⟨kk + 1, o1, by omega, by omega, by go_num, HN, HV3, HG3⟩
      · have hltz : ¬ (kk : Int) < (l.length : Int) := by omega
        have : kk = l.length := by omega
        subst this
        have h_ := HO.out
        rw [List.drop_length, List.foldlM_nil] at h_
        obtain rfl := Option.some.inj h_
        clear h_
        go_wp2
        go_end0
        exact ⟨rfl, HV2.out, HG2.out⟩
def graph_Reach.f (k : Nat) (a0 : Int) (l : List S42) (n : Int) : Option (List Bool × Int) := (graph_Check.f k a0 l).bind fun e => if e = 0 then (if n < 0 then some ([], 7) else if n ≥ a0 then some ([], 7) else (rVisit l k n (List.replicate a0.toNat false)).bind fun o => some (o, 0)) else some ([], e)
theorem graph_Reach.mono : ∀ a0 a1 a2 k, LeO (graph_Reach.f k a0 a1 a2) (graph_Reach.f (k + 1) a0 a1 a2) := by
  intro a0 a1 a2 k
  unfold graph_Reach.f
  exact LeO.bind (graph_Check.mono _ _ _) fun _ => LeO.ite (LeO.ite (LeO.refl _) (LeO.ite (LeO.refl _) (LeO.bind (rVisit_mono _ _ _ _) fun _ => LeO.refl _))) (LeO.refl _)
set_option maxHeartbeats 4000000 in
set_option maxRecDepth 100000 in
theorem graph_Reach.calls (k : Nat) (a0 : Int) (A : Option Addr) (c : Nat) (l : List S42) (n : Int) (r1 : List Bool) (r2 : Int) (w : World) (hr : Kd.C k42 w A l.length l) (hc : l.length ≤ c) (h : graph_Reach.f k a0 l n = some (r1, r2)) :
    Calls Try.prog 21 #[.agg #[.int .i64 a0, .slice A l.length c], .int .i64 n] w fun e w' => ∃ v0_ : Value, e = .returned (.tuple #[v0_, .int .i64 r2]) ∧ Kd.R Kd.bool 4 w' w.heap.size (fun _ => True) v0_ r1 ∧ Below w.heap.size w w' := by
  have hu24 := Try.underlying24
  have hu42 := Try.underlying42
  have HR := Aside0.mk hr
  have HC := Aside0.mk hc
  clear hr hc
  unfold graph_Reach.f at h
  obtain ⟨e0, A20, H⟩ := Option.bind_eq_some_iff.mp h
  clear h
  have A2 := Aside0.mk A20
  clear A20
  by_cases c3 : e0 = 0
  · rw [if_pos c3] at H
    have c3b0 : (e0 == 0) = true := beq_iff_eq.mpr c3
    have c3b1 : (e0 != 0) = false := bne_eq_false_iff_eq.mpr c3
    have CH : Aside0 (Fit a0 l) := ⟨check_fit (by rw [← c3]; exact A2.out)⟩
    clear c3
    by_cases c4 : n < 0
    · rw [if_pos c4] at H
      have c4b0 : decide (n < 0) = true := decide_eq_true c4
      clear c4
      simp only [Option.some.injEq, Prod.mk.injEq] at H
      obtain ⟨rfl, rfl⟩ := H
      go_enter Try.func21, Try.ntmps21
      go_wp2_with (first | ((with_reducible refine gate_dst (N := 2) rfl ?_); refine box_event ?hg (N := 2) ?hd (cs := #[.int .i64 a0, .slice A l.length c]) (t := 24) ?hr ?_; (case hd => rfl); (case hg => rfl); (case hr => first | (go_simp; done) | (go_simp; rfl)); intro g1 hg w1 hbox hb; have BK1 := Aside0.mk hbox; have HB1 := Aside0.mk hb; have G1 : Aside0 (w.heap.size ≤ g1) := ⟨by rw [hg]; exact Nat.le_refl _⟩; clear hbox hb hg; have hz0 : w1.cell? ⟨g1, 0, none⟩ = some (.int .i64 a0) := (blk_cell BK1.out 0).trans rfl; have hz1 : w1.cell? ⟨g1, 1, none⟩ = some (.slice A l.length c) := (blk_cell BK1.out 1).trans rfl; have hfz0 := blk_frozen BK1.out 0; have hfz1 := blk_frozen BK1.out 1) | (go_at_call 14; refine (graph_Check.calls k a0 A c l e0 _ (Kd.C_below HR.out HB1.out) HC.out A2.out).mono ?_; rintro e w2 ⟨rfl, hb⟩; have HB2 := Aside0.mk (below_step HB1.out hb); have BK2 := Aside0.mk (blk_below BK1.out hb); clear hb; have hy0 : w2.cell? ⟨g1, 0, none⟩ = some (.int .i64 a0) := (blk_cell BK2.out 0).trans rfl; have hy1 : w2.cell? ⟨g1, 1, none⟩ = some (.slice A l.length c) := (blk_cell BK2.out 1).trans rfl; have hfy0 := blk_frozen BK2.out 0; have hfy1 := blk_frozen BK2.out 1))
      go_ret2
      exact ⟨_, rfl, Kd.R_nil _ _ _ _ _, HB2.out⟩
    · rw [if_neg c4] at H
      have c4b0 : decide (n < 0) = false := decide_eq_false c4
      by_cases c5 : n ≥ a0
      · rw [if_pos c5] at H
        have c5b0 : decide (a0 ≤ n) = true := decide_eq_true c5
        clear c4 c5
        simp only [Option.some.injEq, Prod.mk.injEq] at H
        obtain ⟨rfl, rfl⟩ := H
        go_enter Try.func21, Try.ntmps21
        go_wp2_with (first | ((with_reducible refine gate_dst (N := 2) rfl ?_); refine box_event ?hg (N := 2) ?hd (cs := #[.int .i64 a0, .slice A l.length c]) (t := 24) ?hr ?_; (case hd => rfl); (case hg => rfl); (case hr => first | (go_simp; done) | (go_simp; rfl)); intro g1 hg w1 hbox hb; have BK1 := Aside0.mk hbox; have HB1 := Aside0.mk hb; have G1 : Aside0 (w.heap.size ≤ g1) := ⟨by rw [hg]; exact Nat.le_refl _⟩; clear hbox hb hg; have hz0 : w1.cell? ⟨g1, 0, none⟩ = some (.int .i64 a0) := (blk_cell BK1.out 0).trans rfl; have hz1 : w1.cell? ⟨g1, 1, none⟩ = some (.slice A l.length c) := (blk_cell BK1.out 1).trans rfl; have hfz0 := blk_frozen BK1.out 0; have hfz1 := blk_frozen BK1.out 1) | (go_at_call 14; refine (graph_Check.calls k a0 A c l e0 _ (Kd.C_below HR.out HB1.out) HC.out A2.out).mono ?_; rintro e w2 ⟨rfl, hb⟩; have HB2 := Aside0.mk (below_step HB1.out hb); have BK2 := Aside0.mk (blk_below BK1.out hb); clear hb; have hy0 : w2.cell? ⟨g1, 0, none⟩ = some (.int .i64 a0) := (blk_cell BK2.out 0).trans rfl; have hy1 : w2.cell? ⟨g1, 1, none⟩ = some (.slice A l.length c) := (blk_cell BK2.out 1).trans rfl; have hfy0 := blk_frozen BK2.out 0; have hfy1 := blk_frozen BK2.out 1))
        go_ret2
        exact ⟨_, rfl, Kd.R_nil _ _ _ _ _, HB2.out⟩
      · rw [if_neg c5] at H
        have c5b0 : decide (a0 ≤ n) = false := decide_eq_false c5
        have N0 : Aside0 (0 ≤ n ∧ n < a0) := ⟨by omega⟩
        clear c4 c5
        obtain ⟨d0, HD0⟩ : ∃ d0, Aside0 (d0 = List.replicate a0.toNat false) := ⟨_, ⟨rfl⟩⟩
        rw [← HD0.out] at H
        have HL0 : Aside0 ((d0.length : Int) = a0) := ⟨by rw [HD0.out]; have := CH.out.1; simp; omega⟩
        obtain ⟨o', HO, H⟩ := Option.bind_eq_some_iff.mp H
        simp only [Option.some.injEq, Prod.mk.injEq] at H
        obtain ⟨rfl, rfl⟩ := H
        have HO' := Aside0.mk HO
        clear HO
        have p0 := CH.out.1
        have c6b0 := eq_true p0
        have c6b1 : decide (0 ≤ a0) = true := decide_eq_true p0
        clear p0
        go_enter Try.func21, Try.ntmps21
        go_wp2_with (first | ((with_reducible refine gate_dst (N := 2) rfl ?_); refine box_event ?hg (N := 2) ?hd (cs := #[.int .i64 a0, .slice A l.length c]) (t := 24) ?hr ?_; (case hd => rfl); (case hg => rfl); (case hr => first | (go_simp; done) | (go_simp; rfl)); intro g1 hg w1 hbox hb; have BK1 := Aside0.mk hbox; have HB1 := Aside0.mk hb; have G1 : Aside0 (w.heap.size ≤ g1) := ⟨by rw [hg]; exact Nat.le_refl _⟩; clear hbox hb hg; have hz0 : w1.cell? ⟨g1, 0, none⟩ = some (.int .i64 a0) := (blk_cell BK1.out 0).trans rfl; have hz1 : w1.cell? ⟨g1, 1, none⟩ = some (.slice A l.length c) := (blk_cell BK1.out 1).trans rfl; have hfz0 := blk_frozen BK1.out 0; have hfz1 := blk_frozen BK1.out 1) | (go_at_call 14; refine (graph_Check.calls k a0 A c l e0 _ (Kd.C_below HR.out HB1.out) HC.out A2.out).mono ?_; rintro e w2 ⟨rfl, hb⟩; have HB2 := Aside0.mk (below_step HB1.out hb); have BK2 := Aside0.mk (blk_below BK1.out hb); clear hb; have hy0 : w2.cell? ⟨g1, 0, none⟩ = some (.int .i64 a0) := (blk_cell BK2.out 0).trans rfl; have hy1 : w2.cell? ⟨g1, 1, none⟩ = some (.slice A l.length c) := (blk_cell BK2.out 1).trans rfl; have hfy0 := blk_frozen BK2.out 0; have hfy1 := blk_frozen BK2.out 1) | ((with_reducible refine gate_dst (N := 24) rfl ?_); refine Kd.R_make Kd.bool _ 4 rfl (N := 24) rfl 33 _ _ rfl a0 rfl rfl Try.underlying33 (.bool false) 1 info4 rfl (by decide) (by omega) false (ok := fun _ => True) (okp := fun _ => True) rfl (fun _ hk => hk) trivial CH.out.1 (Nat.le_trans (Nat.mul_le_mul_right _ (by have := CH.out.2.1; omega : a0.toNat ≤ 281474976710656)) (by omega)) (Below.refl _ _) (Nat.le_refl _) ?_; intro vd w3 ho hb hg_ hnew_; clear hg_ hnew_; rw [← HD0.out] at ho; have RD := Aside0.mk (Kd.R_lower ho (below_size HB2.out)); have HB3 := Aside0.mk (below_step HB2.out hb); have BK3 := Aside0.mk (blk_below BK2.out hb); clear ho hb; have hx0 : w3.cell? ⟨g1, 0, none⟩ = some (.int .i64 a0) := (blk_cell BK3.out 0).trans rfl; have hx1 : w3.cell? ⟨g1, 1, none⟩ = some (.slice A l.length c) := (blk_cell BK3.out 1).trans rfl; obtain ⟨go, co, eo, gb_, gl_, cl_, HG_⟩ := Kd.R_form RD.out (by have := HL0.out; have := N0.out; omega); subst eo; have GO := Aside0.mk gb_; clear gb_ gl_ HG_) | ((with_reducible refine gate_dst (N := 7) rfl ?_); refine box_event ?hg (N := 7) ?hd (cs := #[.slice none 0 0]) (t := 33) ?hr ?_; (case hd => rfl); (case hg => rfl); (case hr => first | (go_simp; done) | (go_simp; rfl)); intro g6 hg w4 hbox hb; have BK6 := Aside0.mk hbox; have HB4 := Aside0.mk (below_step HB3.out hb); have G6 : Aside0 (w.heap.size ≤ g6) := ⟨by rw [hg]; exact below_size HB3.out⟩; have N16 : Aside0 (g1 ≠ g6) := ⟨by rw [hg]; exact Nat.ne_of_lt (blk_lt BK3.out)⟩; have BK4 := Aside0.mk (blk_below BK3.out hb); have RD4 := Aside0.mk (Kd.R_below RD.out hb); clear hbox hb hg; have hv0 : w4.cell? ⟨g6, 0, none⟩ = some (.slice none 0 0) := (blk_cell BK6.out 0).trans rfl; have hfv0 := blk_frozen BK6.out 0) | ((with_reducible refine gate_store (t := 33) (p := 7) rfl ?_); refine store_event (t := 33) (p := 7) (v := ?vo_w5) (w1 := (w4.setCell ⟨g6, 0, none⟩ (.slice (some ⟨go, 0, none⟩) d0.length co))) ?hg ?ho ?hn ?hr ?_; (case ho => rfl); (case hg => rfl); (case hn => rfl); (case hr => first | (go_simp; done) | (go_simp; rfl)); intro w5 hw; have BK5 : Aside0 (w5.heap[g1]? = some (.cells #[.int .i64 a0, .slice A l.length c] 24 (0, 0))) := ⟨by rw [hw]; exact blk_far BK4.out N16.out _⟩; have BQ5 : Aside0 (w5.heap[g6]? = some (.cells #[.slice (some ⟨go, 0, none⟩) d0.length co] 33 (0, 0))) := ⟨by rw [hw]; exact blk_put (cs := #[.slice none 0 0]) BK6.out 0 _ rfl⟩; have RD5 : Aside0 (Kd.R Kd.bool 4 w5 w.heap.size (fun _ => True) (.slice (some ⟨go, 0, none⟩) d0.length co) d0) := ⟨by rw [hw]; exact Kd.R_mono (Kd.R_far (p := ⟨g6, 0, none⟩) (Kd.R_types RD4.out BK6.out (by decide)) (fun _ hk => hk.2) _) (fun _ hk => trivial)⟩; have HB5 : Aside0 (Below w.heap.size w w5) := ⟨by rw [hw]; exact below_set HB4.out G6.out⟩; have hw0 : w5.cell? ⟨g6, 0, none⟩ = some (.slice (some ⟨go, 0, none⟩) d0.length co) := (blk_cell BQ5.out 0).trans rfl; clear hw) | ((with_reducible refine gate_dst (N := 8) rfl ?_); refine box_event ?hg (N := 8) ?hd (cs := #[.nilFunc]) (t := 51) ?hr ?_; (case hd => rfl); (case hg => rfl); (case hr => first | (go_simp; done) | (go_simp; rfl)); intro g8 hg w7 hbox hb; have BK8 := Aside0.mk hbox; have HB7 := Aside0.mk (below_step HB5.out hb); have G8 : Aside0 (w.heap.size ≤ g8) := ⟨by rw [hg]; exact below_size HB5.out⟩; have N18 : Aside0 (g1 ≠ g8) := ⟨by rw [hg]; exact Nat.ne_of_lt (blk_lt BK5.out)⟩; have N68 : Aside0 (g6 ≠ g8) := ⟨by rw [hg]; exact Nat.ne_of_lt (blk_lt BQ5.out)⟩; have BK7 := Aside0.mk (blk_below BK5.out hb); have BQ7 := Aside0.mk (blk_below BQ5.out hb); have RD7 := Aside0.mk (Kd.R_below RD5.out hb); clear hbox hb hg; have hf0 : w7.cell? ⟨g8, 0, none⟩ = some (.nilFunc) := (blk_cell BK8.out 0).trans rfl; have hff0 := blk_frozen BK8.out 0) | ((with_reducible refine gate_store (t := 51) (p := 8) rfl ?_); refine store_event (t := 51) (p := 8) (v := ?vo_w8) (w1 := (w7.setCell ⟨g8, 0, none⟩ (.func (.func 36) #[] #[.pointer (some ⟨g6, 0, none⟩), .pointer (some ⟨g1, 0, none⟩), .pointer (some ⟨g8, 0, none⟩)]))) ?hg ?ho ?hn ?hr ?_; (case ho => rfl); (case hg => rfl); (case hn => rfl); (case hr => first | (go_simp; done) | (go_simp; rfl)); intro w9 hw; have HV9 : Aside0 (VInv w A c l a0 g6 g1 g8 go co w9 d0) := ⟨by rw [hw]; exact ⟨HL0.out, Kd.R_mono (Kd.R_far (p := ⟨g8, 0, none⟩) (Kd.R_types RD7.out BK8.out (by decide)) (fun _ hk => hk.2) _) (fun _ hk => trivial), blk_far BQ7.out N68.out _, blk_far BK7.out N18.out _, blk_put (cs := #[.nilFunc]) BK8.out 0 _ rfl, below_set HB7.out G8.out, GO.out⟩⟩; clear hw; obtain ⟨hy0, hy1, hy2⟩ := HV9.out.sz) | (go_at_call 36; refine (visit_calls w A c l a0 g6 g1 g8 go co HR.out (fun x hx => CH.out.2.2.2 x hx) k n d0 o' w9 HO'.out HV9.out N0.out.1 N0.out.2).mono ?_; rintro e w6' ⟨rfl, hv6, hg6⟩; have HV6 := Aside0.mk hv6; clear hv6 hg6; obtain ⟨hz0, hz1, hz2⟩ := HV6.out.sz))
        go_ret2
        exact ⟨_, rfl, HV6.out.r, HV6.out.b⟩
  · rw [if_neg c3] at H
    have c3b0 : (e0 == 0) = false := beq_eq_false_iff_ne.mpr c3
    have c3b1 : (e0 != 0) = true := bne_iff_ne.mpr c3
    clear c3
    simp only [Option.some.injEq, Prod.mk.injEq] at H
    obtain ⟨rfl, rfl⟩ := H
    go_enter Try.func21, Try.ntmps21
    go_wp2_with (first | ((with_reducible refine gate_dst (N := 2) rfl ?_); refine box_event ?hg (N := 2) ?hd (cs := #[.int .i64 a0, .slice A l.length c]) (t := 24) ?hr ?_; (case hd => rfl); (case hg => rfl); (case hr => first | (go_simp; done) | (go_simp; rfl)); intro g1 hg w1 hbox hb; have BK1 := Aside0.mk hbox; have HB1 := Aside0.mk hb; have G1 : Aside0 (w.heap.size ≤ g1) := ⟨by rw [hg]; exact Nat.le_refl _⟩; clear hbox hb hg; have hz0 : w1.cell? ⟨g1, 0, none⟩ = some (.int .i64 a0) := (blk_cell BK1.out 0).trans rfl; have hz1 : w1.cell? ⟨g1, 1, none⟩ = some (.slice A l.length c) := (blk_cell BK1.out 1).trans rfl; have hfz0 := blk_frozen BK1.out 0; have hfz1 := blk_frozen BK1.out 1) | (go_at_call 14; refine (graph_Check.calls k a0 A c l e0 _ (Kd.C_below HR.out HB1.out) HC.out A2.out).mono ?_; rintro e w2 ⟨rfl, hb⟩; have HB2 := Aside0.mk (below_step HB1.out hb); have BK2 := Aside0.mk (blk_below BK1.out hb); clear hb; have hy0 : w2.cell? ⟨g1, 0, none⟩ = some (.int .i64 a0) := (blk_cell BK2.out 0).trans rfl; have hy1 : w2.cell? ⟨g1, 1, none⟩ = some (.slice A l.length c) := (blk_cell BK2.out 1).trans rfl; have hfy0 := blk_frozen BK2.out 0; have hfy1 := blk_frozen BK2.out 1))
    go_ret2
    exact ⟨_, rfl, Kd.R_nil _ _ _ _ _, HB2.out⟩

/-! ### papermillref10_Bools: function 23 -/
def papermillref10_Bools.l0 : Nat → List Bool → List Bool → Int → Option (Bool)
  | 0, _, _, _ => none
  | k + 1, x0, x1, x5 => if x5 < (x0.length : Int) then (if 0 ≤ x5 then (if x5 < (x1.length : Int) then (if ((rdOf false x0 x5) != (rdOf false x1 x5)) = true then (some false) else (papermillref10_Bools.l0 k x0 x1 (wrap64 (x5 + 1)))) else (none)) else (none)) else (some true)
def papermillref10_Bools.f (k : Nat) (l0 : List Bool) (l1 : List Bool) : Option (Bool) := if (l0.length : Int) = (l1.length : Int) then (papermillref10_Bools.l0 k l0 l1 0) else (some false)
theorem papermillref10_Bools.mono_l : ∀ k, (∀ y0 y1 y2, LeO (papermillref10_Bools.l0 k y0 y1 y2) (papermillref10_Bools.l0 (k + 1) y0 y1 y2))
  | 0 => fun _ _ _ r h => by simp [papermillref10_Bools.l0] at h
  | k + 1 => by
    have ih0 := papermillref10_Bools.mono_l k
    · intro y0 y1 y2
      unfold papermillref10_Bools.l0
      repeat' first
      | (with_reducible exact ih0 _ _ _)
      | (with_reducible exact LeO.refl _)
      | (with_reducible exact LeO.none _)
      | (with_reducible refine LeO.ite ?_ ?_)
      | (with_reducible refine LeO.bind ?_ (fun _ => ?_))
      | exact ih0 _ _ _
      | exact LeO.none _
      | refine LeO.ite ?_ ?_
      | refine LeO.bind ?_ (fun _ => ?_)
theorem papermillref10_Bools.mono : ∀ a0 a1 k, LeO (papermillref10_Bools.f k a0 a1) (papermillref10_Bools.f (k + 1) a0 a1) := by
  intro a0 a1 k
  have ih0 := papermillref10_Bools.mono_l k
  unfold papermillref10_Bools.f
  repeat' first
      | (with_reducible exact ih0 _ _ _)
      | (with_reducible exact LeO.refl _)
      | (with_reducible exact LeO.none _)
      | (with_reducible refine LeO.ite ?_ ?_)
      | (with_reducible refine LeO.bind ?_ (fun _ => ?_))
      | exact ih0 _ _ _
      | exact LeO.none _
      | refine LeO.ite ?_ ?_
      | refine LeO.bind ?_ (fun _ => ?_)
set_option maxHeartbeats 8000000 in
set_option maxRecDepth 100000 in
theorem papermillref10_Bools.calls (k : Nat) (A0 : Option Addr) (c0 : Nat) (l0 : List Bool) (A1 : Option Addr) (c1 : Nat) (l1 : List Bool) (r : Bool) (w : World) (hr0 : Kd.C Kd.bool w A0 l0.length l0) (hc0 : l0.length ≤ c0) (hr1 : Kd.C Kd.bool w A1 l1.length l1) (hc1 : l1.length ≤ c1) (h : papermillref10_Bools.f k l0 l1 = some r) :
    Calls Try.prog 23 #[.slice A0 l0.length c0, .slice A1 l1.length c1] w fun e w' => e = .returned (.bool r) ∧ Drawn0 w w' := by
  have HR0 := Aside0.mk hr0
  have HC0 := Aside0.mk hc0
  clear hr0 hc0
  have HR1 := Aside0.mk hr1
  have HC1 := Aside0.mk hc1
  clear hr1 hc1
  have H : (if (l0.length : Int) = (l1.length : Int) then (papermillref10_Bools.l0 k l0 l1 0) else (some false)) = some r := h
  clear h
  by_cases c3 : (l0.length : Int) = (l1.length : Int)
  · rw [if_pos c3] at H
    have c3b0 : ((l0.length : Int) == (l1.length : Int)) = true := beq_iff_eq.mpr c3
    have c3b1 : ((l0.length : Int) != (l1.length : Int)) = false := bne_eq_false_iff_eq.mpr c3
    have c3b2 : (l0.length == l1.length) = true := by first | simpa using c3 | (simp at c3 ⊢; omega)
    clear c3
    have H' := Aside0.mk H
    clear H
    go_enter Try.func23, Try.ntmps23
    go_wp2
    repeat (go_quiet (fail); try go_wp2)
    go_loopg [5] k (fun kq v5 w' => ∃ (x5_1 : Int), v5 = .int .i64 x5_1 ∧ Aside0 (papermillref10_Bools.l0 kq l0 l1 x5_1 = some r) ∧ Aside0 (kq ≤ k) ∧ Drawn0 w w')
    case atStart => exact ⟨(0), (by first | rfl | (simp; done) | (simp [*]; done)), H', ⟨Nat.le_refl _⟩, by repeat (first | exact Drawn0.refl _ | apply Drawn0.step)⟩
    case round =>
      clear H'
      (try clear c1); (try clear c2); (try clear p2); (try clear c3); (try clear c3b0); (try clear c3b1); (try clear c3b2)
      obtain ⟨x5_1, rfl, HA, HK1, ⟨m1, rfl⟩⟩ := hrel
      cases gk with
      | zero => exact absurd HA.out (by simp [papermillref10_Bools.l0])
      | succ k1 =>
        have H := HA.out
        clear HA
        simp only [papermillref10_Bools.l0] at H
        by_cases c4 : x5_1 < (l0.length : Int)
        · rw [if_pos c4] at H
          have c4b0 : decide (x5_1 < (l0.length : Int)) = true := decide_eq_true c4
          clear c4
          by_cases c5 : 0 ≤ x5_1
          · rw [if_pos c5] at H
            have c5b0 : decide (0 ≤ x5_1) = true := decide_eq_true c5
            clear c5
            by_cases c6 : x5_1 < (l1.length : Int)
            · rw [if_pos c6] at H
              have c6b0 : decide (x5_1 < (l1.length : Int)) = true := decide_eq_true c6
              clear c6
              by_cases c7 : ((rdOf false l0 x5_1) != (rdOf false l1 x5_1)) = true
              · rw [if_pos c7] at H
                have c7b0 : ((rdOf false l0 x5_1) != (rdOf false l1 x5_1)) = true := c7
                (try (have c7b1 : decide ((rdOf false l0 x5_1) = (rdOf false l1 x5_1)) = false := by simpa using c7))
                (try (have c7b2 : ((rdOf false l0 x5_1) == (rdOf false l1 x5_1)) = false := by simpa using c7))
                (try (have c7b3 : ¬ ((rdOf false l0 x5_1) = (rdOf false l1 x5_1)) := by simpa using c7))
                clear c7
                obtain rfl := Option.some.inj H
                have p133 : 0 ≤ (x5_1 : Int) := of_decide_eq_true (by first | (with_reducible assumption) | assumption)
                have q133 : x5_1 < (l0.length : Int) := of_decide_eq_true (by first | (with_reducible assumption) | assumption)
                obtain ⟨ad133, e133, hx133_0⟩ := Kd.at_bool HR0.out x5_1 p133 q133
                cases e133
                replace p133 := eq_true p133
                replace q133 := eq_true q133
                have p134 : 0 ≤ (x5_1 : Int) := of_decide_eq_true (by first | (with_reducible assumption) | assumption)
                have q134 : x5_1 < (l1.length : Int) := of_decide_eq_true (by first | (with_reducible assumption) | assumption)
                obtain ⟨ad134, e134, hx134_0⟩ := Kd.at_bool HR1.out x5_1 p134 q134
                cases e134
                replace p134 := eq_true p134
                replace q134 := eq_true q134
                go_wp2
                repeat (go_quiet (fail); try go_wp2)
                go_ret
                exact ⟨by first | rfl | (simp; done) | (simp [*]; done), by repeat (first | exact Drawn0.refl _ | apply Drawn0.step)⟩
              · rw [if_neg c7] at H
                have c7b0 : ((rdOf false l0 x5_1) != (rdOf false l1 x5_1)) = false := by simpa using c7
                (try (have c7b1 : decide ((rdOf false l0 x5_1) = (rdOf false l1 x5_1)) = true := by simpa using c7))
                (try (have c7b2 : ((rdOf false l0 x5_1) == (rdOf false l1 x5_1)) = true := by simpa using c7))
                clear c7
                have H' := Aside0.mk H
                clear H
                have p133 : 0 ≤ (x5_1 : Int) := of_decide_eq_true (by first | (with_reducible assumption) | assumption)
                have q133 : x5_1 < (l0.length : Int) := of_decide_eq_true (by first | (with_reducible assumption) | assumption)
                obtain ⟨ad133, e133, hx133_0⟩ := Kd.at_bool HR0.out x5_1 p133 q133
                cases e133
                replace p133 := eq_true p133
                replace q133 := eq_true q133
                have p134 : 0 ≤ (x5_1 : Int) := of_decide_eq_true (by first | (with_reducible assumption) | assumption)
                have q134 : x5_1 < (l1.length : Int) := of_decide_eq_true (by first | (with_reducible assumption) | assumption)
                obtain ⟨ad134, e134, hx134_0⟩ := Kd.at_bool HR1.out x5_1 p134 q134
                cases e134
                replace p134 := eq_true p134
                replace q134 := eq_true q134
                go_wp2
                repeat (go_quiet (fail); try go_wp2)
                go_roundg k1
                case measure => have := HK1.out; omega
                case rel => exact ⟨(wrap64 (x5_1 + 1)), (by first | rfl | (simp; done) | (simp [*]; done)), H', ⟨by have := HK1.out; omega⟩, by repeat (first | exact Drawn0.refl _ | apply Drawn0.step)⟩
            · rw [if_neg c6] at H
              exact absurd H (by simp)
          · rw [if_neg c5] at H
            exact absurd H (by simp)
        · rw [if_neg c4] at H
          have c4b0 : decide (x5_1 < (l0.length : Int)) = false := decide_eq_false c4
          clear c4
          obtain rfl := Option.some.inj H
          go_wp2
          repeat (go_quiet (fail); try go_wp2)
          go_ret
          exact ⟨by first | rfl | (simp; done) | (simp [*]; done), by repeat (first | exact Drawn0.refl _ | apply Drawn0.step)⟩
  · rw [if_neg c3] at H
    have c3b0 : ((l0.length : Int) == (l1.length : Int)) = false := beq_eq_false_iff_ne.mpr c3
    have c3b1 : ((l0.length : Int) != (l1.length : Int)) = true := bne_iff_ne.mpr c3
    have c3b2 : (l0.length == l1.length) = false := by first | simpa using c3 | (simp at c3 ⊢; omega)
    obtain rfl := Option.some.inj H
    go_enter Try.func23, Try.ntmps23
    go_wp2
    repeat (go_quiet (fail); try go_wp2)
    go_ret
    exact ⟨by first | rfl | (simp; done) | (simp [*]; done), by repeat (first | exact Drawn0.refl _ | apply Drawn0.step)⟩

/-! ### graph_Levels: function 24 -/
mutual
def graph_Levels.l0 : Nat → List Int → List Int → Int → Int → Int → List (S42) → Option (List Int × Int)
  | 0, _, _, _, _, _, _ => none
  | k + 1, x6, x22, x23, x24, x136000, x136001 => if x24 < x23 then (if 0 ≤ x24 then (if x24 < (x22.length : Int) then (graph_Levels.l1 k x6 (rd x22 x24) x22 x23 x24 x136001 (x136001.length : Int) 0 x136000 x136001) else (none)) else (none)) else (some (x6, 0))
def graph_Levels.l1 : Nat → List Int → Int → List Int → Int → Int → List (S42) → Int → Int → Int → List (S42) → Option (List Int × Int)
  | 0, _, _, _, _, _, _, _, _, _, _ => none
  | k + 1, x6, x8, x22, x23, x24, x29, x30, x31, x136000, x136001 => if x31 < x30 then (if 0 ≤ x31 then (if x31 < (x29.length : Int) then (if ((rd_T42 x29 x31).f0) = x8 then (if 0 ≤ ((rd_T42 x29 x31).f1) then (if ((rd_T42 x29 x31).f1) < (x6.length : Int) then (if 0 ≤ x8 then (if x8 < (x6.length : Int) then (graph_Levels.l1 k (x6.set (((rd_T42 x29 x31).f1) : Int).toNat (mx (rd x6 ((rd_T42 x29 x31).f1)) (wrap64 ((rd x6 x8) + 1)))) x8 x22 x23 x24 x29 x30 (wrap64 (x31 + 1)) x136000 x136001) else (none)) else (none)) else (none)) else (none)) else (graph_Levels.l1 k x6 x8 x22 x23 x24 x29 x30 (wrap64 (x31 + 1)) x136000 x136001)) else (none)) else (none)) else (graph_Levels.l0 k x6 x22 x23 (wrap64 (x24 + 1)) x136000 x136001)
end
def graph_Levels.f (k : Nat) (a0_0 : Int) (l0_1 : List (S42)) : Option (List Int × Int) := (graph_Order.f k a0_0 l0_1).bind fun bt136 => (if bt136.2 = 0 then (if 0 ≤ a0_0 then (if (a0_0 : Int).toNat ≤ 35184372088832 then (graph_Levels.l0 k (List.replicate (a0_0 : Int).toNat 0) bt136.1 (bt136.1.length : Int) 0 a0_0 l0_1) else (none)) else (none)) else (some (([] : List Int), bt136.2)))
theorem graph_Levels.mono_l : ∀ k, (∀ y0 y1 y2 y3 y4 y5, LeO (graph_Levels.l0 k y0 y1 y2 y3 y4 y5) (graph_Levels.l0 (k + 1) y0 y1 y2 y3 y4 y5)) ∧ (∀ y0 y1 y2 y3 y4 y5 y6 y7 y8 y9, LeO (graph_Levels.l1 k y0 y1 y2 y3 y4 y5 y6 y7 y8 y9) (graph_Levels.l1 (k + 1) y0 y1 y2 y3 y4 y5 y6 y7 y8 y9))
  | 0 => ⟨fun _ _ _ _ _ _ r h => by simp [graph_Levels.l0] at h, fun _ _ _ _ _ _ _ _ _ _ r h => by simp [graph_Levels.l1] at h⟩
  | k + 1 => by
    obtain ⟨ih0, ih1⟩ := graph_Levels.mono_l k
    refine ⟨?_, ?_⟩
    · intro y0 y1 y2 y3 y4 y5
      unfold graph_Levels.l0
      repeat' first
      | (with_reducible exact ih0 _ _ _ _ _ _)
      | (with_reducible exact ih1 _ _ _ _ _ _ _ _ _ _)
      | (with_reducible exact graph_Order.mono _ _ _)
      | (with_reducible exact LeO.refl _)
      | (with_reducible exact LeO.none _)
      | (with_reducible refine LeO.ite ?_ ?_)
      | (with_reducible refine LeO.bind ?_ (fun _ => ?_))
      | exact ih0 _ _ _ _ _ _
      | exact ih1 _ _ _ _ _ _ _ _ _ _
      | exact graph_Order.mono _ _ _
      | exact LeO.none _
      | refine LeO.ite ?_ ?_
      | refine LeO.bind ?_ (fun _ => ?_)
    · intro y0 y1 y2 y3 y4 y5 y6 y7 y8 y9
      unfold graph_Levels.l1
      repeat' first
      | (with_reducible exact ih0 _ _ _ _ _ _)
      | (with_reducible exact ih1 _ _ _ _ _ _ _ _ _ _)
      | (with_reducible exact graph_Order.mono _ _ _)
      | (with_reducible exact LeO.refl _)
      | (with_reducible exact LeO.none _)
      | (with_reducible refine LeO.ite ?_ ?_)
      | (with_reducible refine LeO.bind ?_ (fun _ => ?_))
      | exact ih0 _ _ _ _ _ _
      | exact ih1 _ _ _ _ _ _ _ _ _ _
      | exact graph_Order.mono _ _ _
      | exact LeO.none _
      | refine LeO.ite ?_ ?_
      | refine LeO.bind ?_ (fun _ => ?_)
theorem graph_Levels.mono : ∀ a0 a1 k, LeO (graph_Levels.f k a0 a1) (graph_Levels.f (k + 1) a0 a1) := by
  intro a0 a1 k
  obtain ⟨ih0, ih1⟩ := graph_Levels.mono_l k
  unfold graph_Levels.f
  repeat' first
      | (with_reducible exact ih0 _ _ _ _ _ _)
      | (with_reducible exact ih1 _ _ _ _ _ _ _ _ _ _)
      | (with_reducible exact graph_Order.mono _ _ _)
      | (with_reducible exact LeO.refl _)
      | (with_reducible exact LeO.none _)
      | (with_reducible refine LeO.ite ?_ ?_)
      | (with_reducible refine LeO.bind ?_ (fun _ => ?_))
      | exact ih0 _ _ _ _ _ _
      | exact ih1 _ _ _ _ _ _ _ _ _ _
      | exact graph_Order.mono _ _ _
      | exact LeO.none _
      | refine LeO.ite ?_ ?_
      | refine LeO.bind ?_ (fun _ => ?_)
def graph_Levels.T12 : Bool × List (List Nat × List Nat) := (true, [([], []), ([], []), ([1], [1]), ([], []), ([], []), ([4], [4]), ([3, 5], [3, 5]), ([6], [6]), ([], []), ([], []), ([8, 9], [8, 9]), ([10], [10]), ([11], [11]), ([7, 12], [7, 12]), ([0, 2, 0, 1, 2, 3, 4, 5, 6, 7, 8, 9, 10, 11, 12, 13], [0, 2]), ([14, 13, 0, 1, 2, 3, 4, 5, 6, 7, 8, 9, 10, 11, 12, 13], [13, 14])])
def graph_Levels.B12 : List Nat := [0, 0, 2, 0, 0, 16, 56, 120, 0, 0, 768, 1792, 3840, 8184, 16383, 32767]
theorem graph_Levels.tab12 : rtab .any (opsOf Try.f24 12) = graph_Levels.T12 := by kernel_rfl
theorem graph_Levels.bits12 : waitsOk graph_Levels.T12.2 graph_Levels.B12 = true := by kernel_rfl
set_option maxHeartbeats 8000000 in
set_option maxRecDepth 100000 in
theorem graph_Levels.calls (k : Nat) (a0_0 : Int) (A0_1 : Option Addr) (c0_1 : Nat) (l0_1 : List (S42)) (r1 : List Int) (r2 : Int) (w : World) (hr0_1 : Kd.C k42 w A0_1 l0_1.length l0_1) (hc0_1 : l0_1.length ≤ c0_1) (h : graph_Levels.f k a0_0 l0_1 = some (r1, r2)) :
    Calls Try.prog 24 #[.agg #[.int .i64 a0_0, .slice A0_1 l0_1.length c0_1]] w fun e w' => ∃ v0_ : Value, e = .returned (.tuple #[v0_, .int .i64 r2]) ∧ Kd.R (Kd.int .i64) 3 w' w.heap.size (fun _ => True) v0_ r1 ∧ Below w.heap.size w w' := by
  have hu24 := Try.underlying24
  have hu42 := Try.underlying42
  have HR0_1 := Aside0.mk hr0_1
  have HC0_1 := Aside0.mk hc0_1
  clear hr0_1 hc0_1
  have HB := Aside0.mk (Below.refl w.heap.size w)
  have H : ((graph_Order.f k a0_0 l0_1).bind fun bt136 => (if bt136.2 = 0 then (if 0 ≤ a0_0 then (if (a0_0 : Int).toNat ≤ 35184372088832 then (graph_Levels.l0 k (List.replicate (a0_0 : Int).toNat 0) bt136.1 (bt136.1.length : Int) 0 a0_0 l0_1) else (none)) else (none)) else (some (([] : List Int), bt136.2)))) = some (r1, r2) := h
  clear h
  replace H := Option.bind_eq_some_iff.mp H
  obtain ⟨⟨t136, t139⟩, A20, H⟩ := H
  replace H : (if t139 = 0 then (if 0 ≤ a0_0 then (if (a0_0 : Int).toNat ≤ 35184372088832 then (graph_Levels.l0 k (List.replicate (a0_0 : Int).toNat 0) t136 (t136.length : Int) 0 a0_0 l0_1) else (none)) else (none)) else (some (([] : List Int), t139))) = some (r1, r2) := H
  have A2 := Aside0.mk A20
  clear A20
  by_cases c3 : t139 = 0
  · rw [if_pos c3] at H
    have c3b0 : (t139 == 0) = true := beq_iff_eq.mpr c3
    have c3b1 : (t139 != 0) = false := bne_eq_false_iff_eq.mpr c3
    clear c3
    by_cases c4 : 0 ≤ a0_0
    · rw [if_pos c4] at H
      have c4b0 := eq_true c4
      have c4b1 : decide (0 ≤ a0_0) = true := decide_eq_true c4
      clear c4
      by_cases c5 : (a0_0 : Int).toNat ≤ 35184372088832
      · rw [if_pos c5] at H
        have c5b0 := eq_true c5
        have c5b1 : decide ((a0_0 : Int).toNat ≤ 35184372088832) = true := decide_eq_true c5
        clear c5
        obtain ⟨y140, hy140⟩ : ∃ y_ : List Int, y_ = (List.replicate (a0_0 : Int).toNat 0) := ⟨_, rfl⟩
        replace H : (graph_Levels.l0 k y140 t136 (t136.length : Int) 0 a0_0 l0_1) = some (r1, r2) := by first | (rw [hy140]; with_reducible exact H) | (have H2_ := (Option.bind_some _ _).symm.trans H; rw [hy140]; with_reducible exact H2_) | (have H2_ := (Option.bind_some _ _).symm.trans H; with_reducible exact H2_) | with_reducible exact H | (rw [hy140]; exact H) | exact H
        have Ny140 := Aside0.mk hy140
        clear hy140
        have H' := Aside0.mk H
        clear H
        go_enter Try.func24, Try.ntmps24
        go_wp2_with (first | ((with_reducible refine gate_dst (N := 1) rfl ?_); refine box_event ?hg (N := 1) ?hd (cs := #[.int .i64 a0_0, .slice A0_1 l0_1.length c0_1]) (t := 24) ?hr ?_; (case hd => rfl); (case hg => rfl); (case hr => first | (go_simp; done) | (go_simp; rfl)); intro gb135 hg w6 hbox hb; have n0_ := Aside0.mk (below_step (by repeat (first | (with_reducible first | exact HB.out | apply below_alloc | apply pw_below_drewN | apply below_drew1) | exact HB.out)) hb); have n1_ := Aside0.mk (hbox); have n2_ := Aside0.mk ((by rw [hg]; exact (below_size (by repeat (first | (with_reducible first | exact HB.out | apply below_alloc | apply pw_below_drewN | apply below_drew1) | exact HB.out))) : w.heap.size ≤ gb135)); have n3_ := Aside0.mk ((by rw [hg]; exact (below_size (by repeat (first | (with_reducible first | exact HB.out | apply below_alloc | apply pw_below_drewN | apply below_drew1) | exact HB.out))) : w.heap.size ≤ gb135)); clear HB; have HB := n0_; have BK135 := n1_; have GW135 := n2_; have GE135 := n3_; clear n0_ n1_ n2_ n3_; clear hb hbox hg; have hcz7_0 : w6.cell? ⟨gb135, 0, none⟩ = some (.int .i64 a0_0) := (blk_cell BK135.out 0).trans rfl; have hcz7_1 : w6.cell? ⟨gb135, 1, none⟩ = some (.slice A0_1 l0_1.length c0_1) := (blk_cell BK135.out 1).trans rfl; have hfz7_0 := blk_frozen BK135.out 0; have hfz7_1 := blk_frozen BK135.out 1) | ((with_reducible refine gate_callee (f := 16) rfl ?_); refine goesL_ (some 13) rfl rfl Try.func16 (by kernel_rfl) rfl #[.agg #[.int .i64 a0_0, .slice A0_1 l0_1.length c0_1]] rfl (by (try simp only [List.map_toArray, List.map_cons, List.map_nil]); first | done | rfl | (simp only [List.length_drop, List.length_take]; rfl)) ?_; (with_reducible refine (graph_Order.calls k a0_0 _ _ l0_1 t136 t139 _ ?side1 ?side2 A2.out).mono ?_); (case side1 => repeat (first | exact (Kd.C_below HR0_1.out HB.out) | (with_reducible refine Kd.C_alloc ?_ _) | (with_reducible refine Kd.C_drewN ?_ _) | (with_reducible refine Kd.C_drew ?_))); (case side2 => exact HC0_1.out); rintro e w8 ⟨v137, rfl, ho0, hb⟩; refine ⟨_, rfl, ?_⟩; have n0_ := Aside0.mk (Kd.R_lower ho0 (below_size (by repeat (first | (with_reducible first | exact HB.out | apply below_alloc | apply pw_below_drewN | apply below_drew1 | refine below_set ?_ GE135.out) | exact HB.out)))); have n1_ := Aside0.mk (blk_below (g := gb135) (o := .cells #[.int .i64 a0_0, .slice A0_1 l0_1.length c0_1] 24 (0, 0)) (by (with_reducible repeat (first | refine blk_drewN ?_ _ | refine blk_drew ?_ | refine blk_alloc ?_ _)); exact BK135.out) hb); have n2_ := Aside0.mk (below_step (by repeat (first | (with_reducible first | exact HB.out | apply below_alloc | apply pw_below_drewN | apply below_drew1 | refine below_set ?_ GE135.out) | exact HB.out)) hb); clear BK135; clear HB; have HO138 := n0_; have BK135 := n1_; have HB := n2_; clear n0_ n1_ n2_; (try clear hb); (try clear hb2); (try clear hk); (try clear hi); (try clear ho0); have hcz9_0 : w8.cell? ⟨gb135, 0, none⟩ = some (.int .i64 a0_0) := (blk_cell BK135.out 0).trans rfl; have hcz9_1 : w8.cell? ⟨gb135, 1, none⟩ = some (.slice A0_1 l0_1.length c0_1) := (blk_cell BK135.out 1).trans rfl; have hfz9_0 := blk_frozen BK135.out 0; have hfz9_1 := blk_frozen BK135.out 1) | ((with_reducible refine gate_dst (N := 21) rfl ?_); refine Kd.R_make (Kd.int .i64) _ 3 rfl (N := 21) rfl 29 _ _ rfl a0_0 rfl rfl Try.underlying29 (.int .i64 0) 8 info3 rfl (by decide) (by omega) 0 (ok := fun _ => True) (okp := fun _ => True) rfl (fun _ hk => hk) trivial (of_decide_eq_true (by first | (with_reducible assumption) | assumption)) (Nat.le_trans (Nat.mul_le_mul_right _ (of_decide_eq_true (by first | (with_reducible assumption) | assumption) : a0_0.toNat ≤ 35184372088832)) (by omega)) (Below.refl _ _) (Nat.le_refl _) ?_; intro v141 w10 ho11 hb hg_ hnew_; clear hg_ hnew_; (first | rw [← Ny140.out] at ho11 | (simp only [Int.reduceToNat] at ho11; rw [← Ny140.out] at ho11)); have n0_ := Aside0.mk (Kd.R_elder' (by (with_reducible repeat (first | apply Kd.R_alloc | apply Kd.R_drewN | apply Kd.R_drew)); exact HO138.out) (Kd.R_base ho11) hb); have n1_ := Aside0.mk (Kd.R_lower (Kd.R_new' ho11 (Kd.R_lt (by (with_reducible repeat (first | apply Kd.R_alloc | apply Kd.R_drewN | apply Kd.R_drew)); exact HO138.out))) (below_size (by repeat (first | (with_reducible first | exact HB.out | apply below_alloc | apply pw_below_drewN | apply below_drew1 | refine below_set ?_ GE135.out) | exact HB.out)))); have n2_ := Aside0.mk (blk_below (g := gb135) (o := .cells #[.int .i64 a0_0, .slice A0_1 l0_1.length c0_1] 24 (0, 0)) (by (with_reducible repeat (first | refine blk_drewN ?_ _ | refine blk_drew ?_ | refine blk_alloc ?_ _)); exact BK135.out) hb); have n3_ := Aside0.mk (below_step (by repeat (first | (with_reducible first | exact HB.out | apply below_alloc | apply pw_below_drewN | apply below_drew1 | refine below_set ?_ GE135.out) | exact HB.out)) hb); clear HO138; clear BK135; clear HB; have HO138 := n0_; have HO142 := n1_; have BK135 := n2_; have HB := n3_; clear n0_ n1_ n2_ n3_; clear hb ho11; obtain ⟨Ao12, co12, eo12⟩ := Kd.R_slice HO138.out; subst eo12))
        go_loopg [24] k (fun kq v24 w' => ∃ (x6_1 : List Int) (x24_1 : Int), v24 = .int .i64 x24_1 ∧ Aside0 (graph_Levels.l0 kq x6_1 t136 (t136.length : Int) x24_1 a0_0 l0_1 = some (r1, r2)) ∧ Aside0 (kq ≤ k) ∧ Aside0 (Kd.R (Kd.int .i64) 3 w' w.heap.size (fun k_ => some k_ ≠ ((.slice Ao12 t136.length co12) : Value).ownBlock) v141 x6_1) ∧ Aside0 (Kd.R (Kd.int .i64) 3 w' w.heap.size (fun k_ => some k_ ≠ (v141 : Value).ownBlock) (.slice Ao12 t136.length co12) t136) ∧ Aside0 (w'.heap[gb135]? = some (.cells #[.int .i64 a0_0, (.slice A0_1 l0_1.length c0_1)] 24 (0, 0))) ∧ Aside0 (Below w.heap.size w w'))
        case atStart => exact ⟨(y140), (0), (by first | rfl | (simp; done) | (simp [*]; done)), H', ⟨Nat.le_refl _⟩, ⟨by (with_reducible repeat (first | apply Kd.R_alloc | apply Kd.R_drewN | apply Kd.R_drew)); exact Kd.R_mono HO142.out (fun _ hk => hk.2)⟩, ⟨by (with_reducible repeat (first | apply Kd.R_alloc | apply Kd.R_drewN | apply Kd.R_drew)); exact Kd.R_mono HO138.out (fun _ hk => hk.2)⟩, ⟨by (with_reducible repeat (first | refine blk_drewN ?_ _ | refine blk_drew ?_ | refine blk_alloc ?_ _)); exact BK135.out⟩, ⟨by repeat (first | (with_reducible first | exact HB.out | apply below_alloc | apply pw_below_drewN | apply below_drew1 | refine below_set ?_ GE135.out) | exact HB.out)⟩⟩
        case round =>
          clear H'
          (try clear c1); (try clear c2); (try clear p2); (try clear c3); (try clear c3b0); (try clear c3b1); (try clear c4); (try clear c4b0); (try clear c4b1); (try clear c5); (try clear c5b0); (try clear c5b1); (try clear hcz7_0); (try clear hcz7_1); (try clear hcz9_0); (try clear hcz9_1); (try clear hfz7_0); (try clear hfz7_1); (try clear hfz9_0); (try clear hfz9_1)
          obtain ⟨x6_1, x24_1, rfl, HA, HK1, HO_6, HO_22, BK135, HB⟩ := hrel
          cases gk with
          | zero => exact absurd HA.out (by simp [graph_Levels.l0])
          | succ k1 =>
            have H := HA.out
            clear HA
            simp only [graph_Levels.l0] at H
            by_cases c13 : x24_1 < (t136.length : Int)
            · rw [if_pos c13] at H
              have c13b0 : decide (x24_1 < (t136.length : Int)) = true := decide_eq_true c13
              clear c13
              by_cases c14 : 0 ≤ x24_1
              · rw [if_pos c14] at H
                have c14b0 : decide (0 ≤ x24_1) = true := decide_eq_true c14
                clear c14
                by_cases c15 : x24_1 < (t136.length : Int)
                · rw [if_pos c15] at H
                  have c15b0 : decide (x24_1 < (t136.length : Int)) = true := decide_eq_true c15
                  clear c15
                  have H' := Aside0.mk H
                  clear H
                  have p143 : 0 ≤ (x24_1 : Int) := of_decide_eq_true (by first | (with_reducible assumption) | assumption)
                  have q143 : x24_1 < (t136.length : Int) := of_decide_eq_true (by first | (with_reducible assumption) | assumption)
                  obtain ⟨ad143, e143, hx143_0⟩ := Kd.at_int (Kd.R_reads' HO_22.out).2.2 x24_1 p143 q143
                  cases e143
                  replace p143 := eq_true p143
                  replace q143 := eq_true q143
                  have hcz16_0 : wr.cell? ⟨gb135, 0, none⟩ = some (.int .i64 a0_0) := (blk_cell BK135.out 0).trans rfl
                  have hcz16_1 : wr.cell? ⟨gb135, 1, none⟩ = some (.slice A0_1 l0_1.length c0_1) := (blk_cell BK135.out 1).trans rfl
                  have hfz16_0 := blk_frozen BK135.out 0
                  have hfz16_1 := blk_frozen BK135.out 1
                  go_wp2
                  go_loopg [31] k1 (fun kq v31 w' => ∃ (x6_2 : List Int) (x31_2 : Int), v31 = .int .i64 x31_2 ∧ Aside0 (graph_Levels.l1 kq x6_2 (rd t136 x24_1) t136 (t136.length : Int) x24_1 l0_1 (l0_1.length : Int) x31_2 a0_0 l0_1 = some (r1, r2)) ∧ Aside0 (kq ≤ k1) ∧ Aside0 (Kd.R (Kd.int .i64) 3 w' w.heap.size (fun k_ => some k_ ≠ ((.slice (some ad143) t136.length co12) : Value).ownBlock) v141 x6_2) ∧ Aside0 (Kd.R (Kd.int .i64) 3 w' w.heap.size (fun k_ => some k_ ≠ (v141 : Value).ownBlock) (.slice (some ad143) t136.length co12) t136) ∧ Aside0 (w'.heap[gb135]? = some (.cells #[.int .i64 a0_0, (.slice A0_1 l0_1.length c0_1)] 24 (0, 0))) ∧ Aside0 (Below w.heap.size w w'))
                  case atStart => exact ⟨(x6_1), (0), (by first | rfl | (simp; done) | (simp [*]; done)), H', ⟨Nat.le_refl _⟩, ⟨by (with_reducible repeat (first | apply Kd.R_alloc | apply Kd.R_drewN | apply Kd.R_drew)); exact HO_6.out⟩, ⟨by (with_reducible repeat (first | apply Kd.R_alloc | apply Kd.R_drewN | apply Kd.R_drew)); exact HO_22.out⟩, ⟨by (with_reducible repeat (first | refine blk_drewN ?_ _ | refine blk_drew ?_ | refine blk_alloc ?_ _)); exact BK135.out⟩, ⟨by repeat (first | (with_reducible first | exact HB.out | apply below_alloc | apply pw_below_drewN | apply below_drew1 | refine below_set ?_ GE135.out) | exact HB.out)⟩⟩
                  case round =>
                    clear H'
                    (try clear c1); (try clear p1); (try clear q1); (try clear hx1); (try clear c2); (try clear p2); (try clear c3); (try clear c3b0); (try clear c3b1); (try clear c4); (try clear c4b0); (try clear c4b1); (try clear c5); (try clear c5b0); (try clear c5b1); (try clear c13); (try clear c13b0); (try clear c14); (try clear c14b0); (try clear p14); (try clear q14); (try clear hx14); (try clear c15); (try clear c15b0); (try clear c16); (try clear hcz16_0); (try clear hcz16_1); (try clear hcz7_0); (try clear hcz7_1); (try clear hcz9_0); (try clear hcz9_1); (try clear hfz16_0); (try clear hfz16_1); (try clear hfz7_0); (try clear hfz7_1); (try clear hfz9_0); (try clear hfz9_1); (try clear hx143_0); (try clear p143); (try clear p2); (try clear q143)
                    obtain ⟨x6_2, x31_2, rfl, HA, HK2, HO_6, HO_22, BK135, HB⟩ := hrel
                    cases gk with
                    | zero => exact absurd HA.out (by simp [graph_Levels.l1])
                    | succ k2 =>
                      have H := HA.out
                      clear HA
                      simp only [graph_Levels.l1] at H
                      by_cases c17 : x31_2 < (l0_1.length : Int)
                      · rw [if_pos c17] at H
                        have c17b0 : decide (x31_2 < (l0_1.length : Int)) = true := decide_eq_true c17
                        clear c17
                        by_cases c18 : 0 ≤ x31_2
                        · rw [if_pos c18] at H
                          have c18b0 : decide (0 ≤ x31_2) = true := decide_eq_true c18
                          clear c18
                          by_cases c19 : x31_2 < (l0_1.length : Int)
                          · rw [if_pos c19] at H
                            have c19b0 : decide (x31_2 < (l0_1.length : Int)) = true := decide_eq_true c19
                            clear c19
                            by_cases c20 : ((rd_T42 l0_1 x31_2).f0) = (rd t136 x24_1)
                            · rw [if_pos c20] at H
                              have c20b0 : (((rd_T42 l0_1 x31_2).f0) == (rd t136 x24_1)) = true := beq_iff_eq.mpr c20
                              have c20b1 : (((rd_T42 l0_1 x31_2).f0) != (rd t136 x24_1)) = false := bne_eq_false_iff_eq.mpr c20
                              clear c20
                              by_cases c21 : 0 ≤ ((rd_T42 l0_1 x31_2).f1)
                              · rw [if_pos c21] at H
                                have c21b0 : decide (0 ≤ ((rd_T42 l0_1 x31_2).f1)) = true := decide_eq_true c21
                                clear c21
                                by_cases c22 : ((rd_T42 l0_1 x31_2).f1) < (x6_2.length : Int)
                                · rw [if_pos c22] at H
                                  have c22b0 : decide (((rd_T42 l0_1 x31_2).f1) < (x6_2.length : Int)) = true := decide_eq_true c22
                                  clear c22
                                  by_cases c23 : 0 ≤ (rd t136 x24_1)
                                  · rw [if_pos c23] at H
                                    have c23b0 : decide (0 ≤ (rd t136 x24_1)) = true := decide_eq_true c23
                                    clear c23
                                    by_cases c24 : (rd t136 x24_1) < (x6_2.length : Int)
                                    · rw [if_pos c24] at H
                                      have c24b0 : decide ((rd t136 x24_1) < (x6_2.length : Int)) = true := decide_eq_true c24
                                      clear c24
                                      obtain ⟨ji25, hji25⟩ : ∃ j_ : Int, (mx (rd x6_2 ((rd_T42 l0_1 x31_2).f1)) (wrap64 ((rd x6_2 (rd t136 x24_1)) + 1))) = j_ := ⟨_, rfl⟩
                                      replace H : (graph_Levels.l1 k2 (x6_2.set (((rd_T42 l0_1 x31_2).f1) : Int).toNat (ji25)) (rd t136 x24_1) t136 (t136.length : Int) x24_1 l0_1 (l0_1.length : Int) (wrap64 (x31_2 + 1)) a0_0 l0_1) = some (r1, r2) := by first | (rw [hji25] at H; exact H) | (simp only [hji25] at H ⊢; exact H)
                                      have hji25_ : (if (rd x6_2 ((rd_T42 l0_1 x31_2).f1)) < (wrap64 ((rd x6_2 (rd t136 x24_1)) + 1)) then (wrap64 ((rd x6_2 (rd t136 x24_1)) + 1)) else (rd x6_2 ((rd_T42 l0_1 x31_2).f1))) = ji25 := hji25
                                      obtain ⟨y148, hy148⟩ : ∃ y_ : List Int, y_ = (x6_2.set (((rd_T42 l0_1 x31_2).f1) : Int).toNat (ji25)) := ⟨_, rfl⟩
                                      replace H : (graph_Levels.l1 k2 y148 (rd t136 x24_1) t136 (t136.length : Int) x24_1 l0_1 (l0_1.length : Int) (wrap64 (x31_2 + 1)) a0_0 l0_1) = some (r1, r2) := by first | (rw [hy148]; with_reducible exact H) | (have H2_ := (Option.bind_some _ _).symm.trans H; rw [hy148]; with_reducible exact H2_) | (have H2_ := (Option.bind_some _ _).symm.trans H; with_reducible exact H2_) | with_reducible exact H | (rw [hy148]; exact H) | exact H
                                      have Ny148 := Aside0.mk hy148
                                      clear hy148
                                      have H' := Aside0.mk H
                                      clear H
                                      have p144 : 0 ≤ (x31_2 : Int) := of_decide_eq_true (by first | (with_reducible assumption) | assumption)
                                      have q144 : x31_2 < (l0_1.length : Int) := of_decide_eq_true (by first | (with_reducible assumption) | assumption)
                                      obtain ⟨ad144, e144, hx144_0, hx144_1⟩ := at_T42 HR0_1.out x31_2 p144 q144
                                      cases e144
                                      replace hx144_0 := (HB.out.cell (World.block_lt_of_cell? w _ hx144_0)).trans hx144_0
                                      replace hx144_1 := (HB.out.cell (World.block_lt_of_cell? w _ hx144_1)).trans hx144_1
                                      replace p144 := eq_true p144
                                      replace q144 := eq_true q144
                                      try go_wp2_with (first | ((with_reducible refine gate_dst (N := 10) rfl ?_); refine box_event ?hg (N := 10) ?hd (cs := #[.int .i64 0, .int .i64 0]) (t := 42) ?hr ?_; (case hd => rfl); (case hg => rfl); (case hr => first | (go_simp; done) | (go_simp; rfl)); intro gb145 hg w27 hbox hb; have n0_ := Aside0.mk (Kd.R_below (by (with_reducible repeat (first | apply Kd.R_alloc | apply Kd.R_drewN | apply Kd.R_drew)); exact HO_6.out) hb); have n1_ := Aside0.mk (Kd.R_below (by (with_reducible repeat (first | apply Kd.R_alloc | apply Kd.R_drewN | apply Kd.R_drew)); exact HO_22.out) hb); have n2_ := Aside0.mk (blk_below (g := gb135) (o := .cells #[.int .i64 a0_0, .slice (some ad144) l0_1.length c0_1] 24 (0, 0)) (by (with_reducible repeat (first | refine blk_drewN ?_ _ | refine blk_drew ?_ | refine blk_alloc ?_ _)); exact BK135.out) hb); have n3_ := Aside0.mk (below_step (by repeat (first | (with_reducible first | exact HB.out | apply below_alloc | apply pw_below_drewN | apply below_drew1 | refine below_set ?_ GE135.out) | exact HB.out)) hb); have n4_ := Aside0.mk (hbox); have n5_ := Aside0.mk ((by rw [hg]; exact (below_size (by repeat (first | (with_reducible first | exact HB.out | apply below_alloc | apply pw_below_drewN | apply below_drew1 | refine below_set ?_ GE135.out) | exact HB.out))) : w.heap.size ≤ gb145)); have n6_ := Aside0.mk ((by rw [hg]; exact (below_size (by repeat (first | (with_reducible first | exact HB.out | apply below_alloc | apply pw_below_drewN | apply below_drew1 | refine below_set ?_ GE135.out) | exact HB.out))) : w.heap.size ≤ gb145)); have n7_ := Aside0.mk ((by rw [hg]; exact Nat.ne_of_lt (blk_lt (g := gb135) (o := .cells #[.int .i64 a0_0, .slice (some ad144) l0_1.length c0_1] 24 (0, 0)) (by (with_reducible repeat (first | refine blk_drewN ?_ _ | refine blk_drew ?_ | refine blk_alloc ?_ _)); exact BK135.out)) : gb135 ≠ gb145)); have n8_ := Aside0.mk ((by rw [hg]; exact Nat.ne_of_gt (blk_lt (g := gb135) (o := .cells #[.int .i64 a0_0, .slice (some ad144) l0_1.length c0_1] 24 (0, 0)) (by (with_reducible repeat (first | refine blk_drewN ?_ _ | refine blk_drew ?_ | refine blk_alloc ?_ _)); exact BK135.out)) : gb145 ≠ gb135)); clear HO_6; clear HO_22; clear BK135; clear HB; have HO_6 := n0_; have HO_22 := n1_; have BK135 := n2_; have HB := n3_; have BK145 := n4_; have GW145 := n5_; have GE145 := n6_; have NB135_145 := n7_; have NB145_135 := n8_; clear n0_ n1_ n2_ n3_ n4_ n5_ n6_ n7_ n8_; clear hb hbox hg; have hnb28 := NB145_135.out; have hnc28 := NB135_145.out; have hcz29_0 : w27.cell? ⟨gb145, 0, none⟩ = some (.int .i64 0) := (blk_cell BK145.out 0).trans rfl; have hcz29_1 : w27.cell? ⟨gb145, 1, none⟩ = some (.int .i64 0) := (blk_cell BK145.out 1).trans rfl; have hfz29_0 := blk_frozen BK145.out 0; have hfz29_1 := blk_frozen BK145.out 1))
                                      have n0_ : Aside0 (Kd.R (Kd.int .i64) 3 ((w27.setCell ⟨gb145, 0, none⟩ (.int .i64 ((rd_T42 l0_1 x31_2).f0))).setCell ⟨gb145, 1, none⟩ (.int .i64 ((rd_T42 l0_1 x31_2).f1))) w.heap.size (fun k_ => some k_ ≠ (.slice (some ad143) t136.length co12 : Value).ownBlock) v141 x6_2) := ⟨by (with_reducible repeat (first | apply Kd.R_alloc | apply Kd.R_drewN | apply Kd.R_drew)); exact Kd.R_mono (Kd.R_far (p := ⟨gb145, 1, none⟩) (Kd.R_far (p := ⟨gb145, 0, none⟩) (Kd.R_types HO_6.out BK145.out (by decide)) (fun _ hk => hk.2) (.int .i64 ((rd_T42 l0_1 x31_2).f0))) (fun _ hk => hk.2) (.int .i64 ((rd_T42 l0_1 x31_2).f1))) (fun _ hk => hk.1)⟩
                                      have n1_ : Aside0 (Kd.R (Kd.int .i64) 3 ((w27.setCell ⟨gb145, 0, none⟩ (.int .i64 ((rd_T42 l0_1 x31_2).f0))).setCell ⟨gb145, 1, none⟩ (.int .i64 ((rd_T42 l0_1 x31_2).f1))) w.heap.size (fun k_ => some k_ ≠ (v141 : Value).ownBlock) (.slice (some ad143) t136.length co12) t136) := ⟨by (with_reducible repeat (first | apply Kd.R_alloc | apply Kd.R_drewN | apply Kd.R_drew)); exact Kd.R_mono (Kd.R_far (p := ⟨gb145, 1, none⟩) (Kd.R_far (p := ⟨gb145, 0, none⟩) (Kd.R_types HO_22.out BK145.out (by decide)) (fun _ hk => hk.2) (.int .i64 ((rd_T42 l0_1 x31_2).f0))) (fun _ hk => hk.2) (.int .i64 ((rd_T42 l0_1 x31_2).f1))) (fun _ hk => hk.1)⟩
                                      have n2_ : Aside0 (((w27.setCell ⟨gb145, 0, none⟩ (.int .i64 ((rd_T42 l0_1 x31_2).f0))).setCell ⟨gb145, 1, none⟩ (.int .i64 ((rd_T42 l0_1 x31_2).f1))).heap[gb135]? = some (.cells #[.int .i64 a0_0, .slice (some ad144) l0_1.length c0_1] 24 (0, 0))) := ⟨by (with_reducible repeat (first | refine blk_drewN ?_ _ | refine blk_drew ?_ | refine blk_alloc ?_ _)); refine blk_far ?_ NB135_145.out _; (with_reducible repeat (first | refine blk_drewN ?_ _ | refine blk_drew ?_ | refine blk_alloc ?_ _)); refine blk_far ?_ NB135_145.out _; (with_reducible repeat (first | refine blk_drewN ?_ _ | refine blk_drew ?_ | refine blk_alloc ?_ _)); exact BK135.out⟩
                                      have n3_ : Aside0 (((w27.setCell ⟨gb145, 0, none⟩ (.int .i64 ((rd_T42 l0_1 x31_2).f0))).setCell ⟨gb145, 1, none⟩ (.int .i64 ((rd_T42 l0_1 x31_2).f1))).heap[gb145]? = some (.cells #[.int .i64 ((rd_T42 l0_1 x31_2).f0), .int .i64 ((rd_T42 l0_1 x31_2).f1)] 42 (0, 0))) := ⟨by (with_reducible repeat (first | refine blk_drewN ?_ _ | refine blk_drew ?_ | refine blk_alloc ?_ _)); refine blk_put (cs := #[.int .i64 ((rd_T42 l0_1 x31_2).f0), .int .i64 0]) ?_ 1 _ rfl; (with_reducible repeat (first | refine blk_drewN ?_ _ | refine blk_drew ?_ | refine blk_alloc ?_ _)); refine blk_put (cs := #[.int .i64 0, .int .i64 0]) ?_ 0 _ rfl; (with_reducible repeat (first | refine blk_drewN ?_ _ | refine blk_drew ?_ | refine blk_alloc ?_ _)); exact BK145.out⟩
                                      have n4_ : Aside0 (Below w.heap.size w ((w27.setCell ⟨gb145, 0, none⟩ (.int .i64 ((rd_T42 l0_1 x31_2).f0))).setCell ⟨gb145, 1, none⟩ (.int .i64 ((rd_T42 l0_1 x31_2).f1)))) := ⟨by repeat (first | (with_reducible first | exact HB.out | apply below_alloc | apply pw_below_drewN | apply below_drew1 | refine below_set ?_ GE135.out | refine below_set ?_ GE145.out) | exact HB.out)⟩
                                      (try clear HO_6)
                                      (try clear HO_22)
                                      (try clear BK135)
                                      (try clear BK145)
                                      (try clear HB)
                                      generalize ((w27.setCell ⟨gb145, 0, none⟩ (.int .i64 ((rd_T42 l0_1 x31_2).f0))).setCell ⟨gb145, 1, none⟩ (.int .i64 ((rd_T42 l0_1 x31_2).f1))) = w30 at n0_ n1_ n2_ n3_ n4_ ⊢
                                      have HO_6 := n0_
                                      have HO_22 := n1_
                                      have BK135 := n2_
                                      have BK145 := n3_
                                      have HB := n4_
                                      clear n0_ n1_ n2_ n3_ n4_
                                      have n0_ := Aside0.mk (Kd.R_drew HO_6.out)
                                      have n1_ := Aside0.mk (Kd.R_drew HO_22.out)
                                      have n2_ := Aside0.mk (blk_drew BK135.out)
                                      have n3_ := Aside0.mk (blk_drew BK145.out)
                                      have n4_ := Aside0.mk (below_drew1 HB.out)
                                      clear HO_6
                                      clear HO_22
                                      clear BK135
                                      clear BK145
                                      clear HB
                                      have HO_6 := n0_
                                      have HO_22 := n1_
                                      have BK135 := n2_
                                      have BK145 := n3_
                                      have HB := n4_
                                      clear n0_ n1_ n2_ n3_ n4_
                                      obtain ⟨Ao32, co32, eo32⟩ := Kd.R_slice HO_6.out
                                      (first | subst eo32 | (injection eo32 with f1_ f2_ f3_; have f4_ := f1_.symm; have f5_ := f3_.symm; clear f1_ f2_ f3_; subst f4_; subst f5_))
                                      have p146 : 0 ≤ (((rd_T42 l0_1 x31_2).f1) : Int) := of_decide_eq_true (by first | (with_reducible assumption) | assumption)
                                      have q146 : ((rd_T42 l0_1 x31_2).f1) < (x6_2.length : Int) := of_decide_eq_true (by first | (with_reducible assumption) | assumption)
                                      obtain ⟨ad146, e146, hx146_0⟩ := Kd.at_int (Kd.R_reads' HO_6.out).2.2 ((rd_T42 l0_1 x31_2).f1) p146 q146
                                      cases e146
                                      replace p146 := eq_true p146
                                      replace q146 := eq_true q146
                                      have p147 : 0 ≤ ((rd t136 x24_1) : Int) := of_decide_eq_true (by first | (with_reducible assumption) | assumption)
                                      have q147 : (rd t136 x24_1) < (x6_2.length : Int) := of_decide_eq_true (by first | (with_reducible assumption) | assumption)
                                      obtain ⟨ad147, e147, hx147_0⟩ := Kd.at_int (Kd.R_reads' HO_6.out).2.2 (rd t136 x24_1) p147 q147
                                      obtain rfl : ad146 = ad147 := (by injection e147)
                                      replace p147 := eq_true p147
                                      replace q147 := eq_true q147
                                      have p26 : 0 ≤ (((rd_T42 l0_1 x31_2).f1) : Int) := of_decide_eq_true (by first | (with_reducible assumption) | assumption)
                                      have q26 : (((rd_T42 l0_1 x31_2).f1) : Int) < ((x6_2.length : Int) : Int) := of_decide_eq_true (by first | (with_reducible assumption) | assumption)
                                      obtain ⟨go26, co26, eo26, gb26, gl26, cl26, HG26⟩ := Kd.R_form HO_6.out (by omega)
                                      (first | cases eo26 | (injection eo26 with ea_ en_ ec_; (first | subst ea_ | (injection ea_ with ea_; subst ea_)); subst ec_; clear en_))
                                      have GB26 := Aside0.mk gb26
                                      have GG26 := Aside0.mk HG26
                                      clear gb26 gl26 HG26
                                      (first | simp only [add_plain] at hx146_0 | skip)
                                      (first | simp only [add_plain] at hx147_0 | skip)
                                      obtain ⟨hx26_0, hf26_0⟩ := Kd.R_celln 0 HO_6.out (((rd_T42 l0_1 x31_2).f1) : Int) p26 q26
                                      replace p26 := eq_true p26
                                      replace q26 := eq_true q26
                                      have HP33 := Kd.R_putn HO_6.out (((rd_T42 l0_1 x31_2).f1) : Int) ji25
                                      rw [← Ny148.out] at HP33
                                      have HQ33 := Aside0.mk HP33
                                      clear HP33
                                      refine start_ (n := 16) (S := fun w' => w'.cell? ⟨gb145, 0, none⟩ = some (.int .i64 ((rd_T42 l0_1 x31_2).f0)) ∧ w'.cell? ⟨gb145, 1, none⟩ = some (.int .i64 ((rd_T42 l0_1 x31_2).f1)) ∧ w'.cell? ⟨go26, (((rd_T42 l0_1 x31_2).f1)).toNat, none⟩ = some (.int .i64 (rd x6_2 ((rd_T42 l0_1 x31_2).f1))) ∧ w'.cell? ⟨go26, ((rd t136 x24_1)).toNat, none⟩ = some (.int .i64 (rd x6_2 (rd t136 x24_1)))) (ds := [15]) #[false, false, false, false, false, false, false, false, false, false, false, false, false, false, false, false] (by kernel_rfl) rfl rfl ⟨(blk_cell BK145.out 0).trans rfl, (blk_cell BK145.out 1).trans rfl, hx146_0, hx147_0⟩ (fun hHeld => ?_); refine with_tabW graph_Levels.tab12 graph_Levels.bits12 (fun HT_ HW_ => ?_)
                                      generalize w30.drew = w31 at HO_6 HO_22 BK135 BK145 HB GG26 HQ33 hf26_0 hx146_0 hx147_0 hx26_0 hHeld ⊢
                                      refine pure_ (i := 0) (N := some 39) (v := ?_) (a' := ?_) #[true, false, false, false, false, false, false, false, false, false, false, false, false, false, false, false] rfl rfl (any_of HT_.out (by kernel_rfl)) (fun _ _ _ h => h) (Or.inl ⟨by rfl, ?_⟩) ?_ ?_
                                      rotate_left
                                      · intro w'
                                        go_simp
                                        with_reducible rfl
                                      rotate_left
                                      · simp only [Act.put, List.setIfInBounds_toArray, List.set_cons_zero, List.set_cons_succ, i64_w, i32_w]
                                        rfl
                                      refine pure_ (i := 1) (N := some 40) (v := ?_) (a' := ?_) #[true, true, false, false, false, false, false, false, false, false, false, false, false, false, false, false] rfl rfl (any_of HT_.out (by kernel_rfl)) (fun _ _ _ h => h) (Or.inl ⟨by rfl, ?_⟩) ?_ ?_
                                      rotate_left
                                      · intro w'
                                        go_simp
                                        with_reducible rfl
                                      rotate_left
                                      · simp only [Act.put, List.setIfInBounds_toArray, List.set_cons_zero, List.set_cons_succ, i64_w, i32_w]
                                        rfl
                                      refine pure_ (i := 3) (N := some 42) (v := ?_) (a' := ?_) #[true, true, false, true, false, false, false, false, false, false, false, false, false, false, false, false] rfl rfl (any_of HT_.out (by kernel_rfl)) (fun _ _ _ h => h) (Or.inl ⟨by rfl, ?_⟩) ?_ ?_
                                      rotate_left
                                      · intro w'
                                        go_simp
                                        with_reducible rfl
                                      rotate_left
                                      · simp only [Act.put, List.setIfInBounds_toArray, List.set_cons_zero, List.set_cons_succ, i64_w, i32_w]
                                        rfl
                                      refine pure_ (i := 4) (N := some 43) (v := ?_) (a' := ?_) #[true, true, false, true, true, false, false, false, false, false, false, false, false, false, false, false] rfl rfl (any_of HT_.out (by kernel_rfl)) (fun _ _ _ h => h) (Or.inl ⟨by rfl, ?_⟩) ?_ ?_
                                      rotate_left
                                      · intro w'
                                        go_simp
                                        with_reducible rfl
                                      rotate_left
                                      · simp only [Act.put, List.setIfInBounds_toArray, List.set_cons_zero, List.set_cons_succ, i64_w, i32_w]
                                        rfl
                                      refine pure_ (i := 8) (N := some 47) (v := ?_) (a' := ?_) #[true, true, false, true, true, false, false, false, true, false, false, false, false, false, false, false] rfl rfl (any_of HT_.out (by kernel_rfl)) (fun _ _ _ h => h) (Or.inl ⟨by rfl, ?_⟩) ?_ ?_
                                      rotate_left
                                      · intro w'
                                        go_simp
                                        with_reducible rfl
                                      rotate_left
                                      · simp only [Act.put, List.setIfInBounds_toArray, List.set_cons_zero, List.set_cons_succ, i64_w, i32_w]
                                        rfl
                                      refine pure_ (i := 9) (N := some 48) (v := ?_) (a' := ?_) #[true, true, false, true, true, false, false, false, true, true, false, false, false, false, false, false] rfl rfl (any_of HT_.out (by kernel_rfl)) (fun _ _ _ h => h) (Or.inl ⟨by rfl, ?_⟩) ?_ ?_
                                      rotate_left
                                      · intro w'
                                        go_simp
                                        with_reducible rfl
                                      rotate_left
                                      · simp only [Act.put, List.setIfInBounds_toArray, List.set_cons_zero, List.set_cons_succ, i64_w, i32_w]
                                        rfl
                                      refine pure_ (i := 10) (N := some 49) (v := ?_) (a' := ?_) #[true, true, false, true, true, false, false, false, true, true, true, false, false, false, false, false] rfl rfl (any_of HT_.out (by kernel_rfl)) (fun _ _ _ h => h) (Or.inl ⟨by rfl, ?_⟩) ?_ ?_
                                      rotate_left
                                      · intro w'
                                        go_simp
                                        with_reducible rfl
                                      rotate_left
                                      · simp only [Act.put, List.setIfInBounds_toArray, List.set_cons_zero, List.set_cons_succ, i64_w, i32_w]
                                        rfl
                                      refine take_ (i := 2) (N := some 41) (v := ?_) (a' := ?_) #[true, true, true, true, true, false, false, false, true, true, true, false, false, false, false, false] rfl rfl (take_ofW HT_.out HW_.out (by kernel_rfl)) (fun _ _ _ h => h) (Or.inl ⟨by rfl, ?_⟩) hHeld ?_ ?_
                                      rotate_left
                                      · rintro w' ⟨s0, s1, s2, s3⟩
                                        go_simp
                                        with_reducible rfl
                                      rotate_left
                                      · simp only [Act.put, List.setIfInBounds_toArray, List.set_cons_zero, List.set_cons_succ, i64_w, i32_w]
                                        rfl
                                      refine take_ (i := 5) (N := some 44) (v := ?_) (a' := ?_) #[true, true, true, true, true, true, false, false, true, true, true, false, false, false, false, false] rfl rfl (take_ofW HT_.out HW_.out (by kernel_rfl)) (fun _ _ _ h => h) (Or.inl ⟨by rfl, ?_⟩) hHeld ?_ ?_
                                      rotate_left
                                      · rintro w' ⟨s0, s1, s2, s3⟩
                                        go_simp
                                        with_reducible rfl
                                      rotate_left
                                      · simp only [Act.put, List.setIfInBounds_toArray, List.set_cons_zero, List.set_cons_succ, i64_w, i32_w]
                                        rfl
                                      refine pure_ (i := 6) (N := some 45) (v := ?_) (a' := ?_) #[true, true, true, true, true, true, true, false, true, true, true, false, false, false, false, false] rfl rfl (any_of HT_.out (by kernel_rfl)) (fun _ _ _ h => h) (Or.inl ⟨by rfl, ?_⟩) ?_ ?_
                                      rotate_left
                                      · intro w'
                                        go_simp
                                        with_reducible rfl
                                      rotate_left
                                      · simp only [Act.put, List.setIfInBounds_toArray, List.set_cons_zero, List.set_cons_succ, i64_w, i32_w]
                                        rfl
                                      refine take_ (i := 7) (N := some 46) (v := ?_) (a' := ?_) #[true, true, true, true, true, true, true, true, true, true, true, false, false, false, false, false] rfl rfl (take_ofW HT_.out HW_.out (by kernel_rfl)) (fun _ _ _ h => h) (Or.inl ⟨by rfl, ?_⟩) hHeld ?_ ?_
                                      rotate_left
                                      · rintro w' ⟨s0, s1, s2, s3⟩
                                        go_simp
                                        with_reducible rfl
                                      rotate_left
                                      · simp only [Act.put, List.setIfInBounds_toArray, List.set_cons_zero, List.set_cons_succ, i64_w, i32_w]
                                        rfl
                                      refine take_ (i := 11) (N := some 50) (v := ?_) (a' := ?_) #[true, true, true, true, true, true, true, true, true, true, true, true, false, false, false, false] rfl rfl (take_ofW HT_.out HW_.out (by kernel_rfl)) (fun _ _ _ h => h) (Or.inl ⟨by rfl, ?_⟩) hHeld ?_ ?_
                                      rotate_left
                                      · rintro w' ⟨s0, s1, s2, s3⟩
                                        go_simp
                                        with_reducible rfl
                                      rotate_left
                                      · simp only [Act.put, List.setIfInBounds_toArray, List.set_cons_zero, List.set_cons_succ, i64_w, i32_w]
                                        rfl
                                      refine pure_ (i := 12) (N := some 51) (v := ?_) (a' := ?_) #[true, true, true, true, true, true, true, true, true, true, true, true, true, false, false, false] rfl rfl (any_of HT_.out (by kernel_rfl)) (fun _ _ _ h => h) (Or.inl ⟨by rfl, ?_⟩) ?_ ?_
                                      rotate_left
                                      · intro w'
                                        go_simp
                                        with_reducible rfl
                                      rotate_left
                                      · simp only [Act.put, List.setIfInBounds_toArray, List.set_cons_zero, List.set_cons_succ, i64_w, i32_w]
                                        rfl
                                      refine pure_ (i := 13) (N := some 52) (v := ?_) (a' := ?_) #[true, true, true, true, true, true, true, true, true, true, true, true, true, true, false, false] rfl rfl (any_of HT_.out (by kernel_rfl)) (fun _ _ _ h => h) (Or.inl ⟨by rfl, ?_⟩) ?_ ?_
                                      rotate_left
                                      · intro w'
                                        go_simp
                                        with_reducible rfl
                                      rotate_left
                                      · simp only [Act.put, List.setIfInBounds_toArray, List.set_cons_zero, List.set_cons_succ, i64_w, i32_w]
                                        rfl
                                      refine pure_ (i := 14) (N := some 53) (v := ?_) (a' := ?_) #[true, true, true, true, true, true, true, true, true, true, true, true, true, true, true, false] rfl rfl (any_of HT_.out (by kernel_rfl)) (fun _ _ _ h => h) (Or.inl ⟨by rfl, ?_⟩) ?_ ?_
                                      rotate_left
                                      · intro w'
                                        go_simp
                                        with_reducible rfl
                                      rotate_left
                                      · simp only [Act.put, List.setIfInBounds_toArray, List.set_cons_zero, List.set_cons_succ, i64_w, i32_w]
                                        rfl
                                      refine last_ (i := 15) (N := none) #[true, true, true, true, true, true, true, true, true, true, true, true, true, true, true, true] rfl rfl (one_of HT_.out (by kernel_rfl)) (by decide) (fun K hK => ?_)
                                      refine skip_ (w1 := ?_) (by rfl) rfl ?_ ?_
                                      rotate_left
                                      · go_simp
                                        rfl
                                      refine hK.out _ _ ?_
                                      clear hK K
                                      refine done_ (done_of HT_.out (by kernel_rfl)) ?_
                                      try go_wp2
                                      go_roundg k2
                                      case measure => have := HK1.out; have := HK2.out; omega
                                      case rel => exact ⟨(y148), (wrap64 (x31_2 + 1)), (by first | rfl | (simp; done) | (simp [*]; done)), H', ⟨by have := HK1.out; have := HK2.out; omega⟩, ⟨by (with_reducible repeat (first | apply Kd.R_alloc | apply Kd.R_drewN | apply Kd.R_drew)); exact HQ33.out⟩, ⟨by (with_reducible repeat (first | apply Kd.R_alloc | apply Kd.R_drewN | apply Kd.R_drew)); exact Kd.R_mono (Kd.R_far (p := ⟨go26, (((rd_T42 l0_1 x31_2).f1) : Int).toNat, none⟩) (Kd.R_mono HO_22.out (fun k_ hk => (⟨hk, fun e_ => hk (by rw [e_]; rfl)⟩ : _ ∧ k_ ≠ go26))) (fun _ hk => hk.2) (.int .i64 ji25)) (fun _ hk => hk.1)⟩, ⟨by (with_reducible repeat (first | refine blk_drewN ?_ _ | refine blk_drew ?_ | refine blk_alloc ?_ _)); refine blk_far ?_ (by have h_ := Kd.R_ne HO_6.out BK135.out (by decide); intro e_; exact h_ (by rw [e_]; rfl)) _; (with_reducible repeat (first | refine blk_drewN ?_ _ | refine blk_drew ?_ | refine blk_alloc ?_ _)); exact BK135.out⟩, ⟨by repeat (first | (with_reducible first | exact HB.out | apply below_alloc | apply pw_below_drewN | apply below_drew1 | refine below_set ?_ GB26.out | refine below_set ?_ GE135.out | refine below_set ?_ GE145.out) | exact HB.out)⟩⟩
                                    · rw [if_neg c24] at H
                                      exact absurd H (by simp)
                                  · rw [if_neg c23] at H
                                    exact absurd H (by simp)
                                · rw [if_neg c22] at H
                                  exact absurd H (by simp)
                              · rw [if_neg c21] at H
                                exact absurd H (by simp)
                            · rw [if_neg c20] at H
                              have c20b0 : (((rd_T42 l0_1 x31_2).f0) == (rd t136 x24_1)) = false := beq_eq_false_iff_ne.mpr c20
                              have c20b1 : (((rd_T42 l0_1 x31_2).f0) != (rd t136 x24_1)) = true := bne_iff_ne.mpr c20
                              have H' := Aside0.mk H
                              clear H
                              have p144 : 0 ≤ (x31_2 : Int) := of_decide_eq_true (by first | (with_reducible assumption) | assumption)
                              have q144 : x31_2 < (l0_1.length : Int) := of_decide_eq_true (by first | (with_reducible assumption) | assumption)
                              obtain ⟨ad144, e144, hx144_0, hx144_1⟩ := at_T42 HR0_1.out x31_2 p144 q144
                              cases e144
                              replace hx144_0 := (HB.out.cell (World.block_lt_of_cell? w _ hx144_0)).trans hx144_0
                              replace hx144_1 := (HB.out.cell (World.block_lt_of_cell? w _ hx144_1)).trans hx144_1
                              replace p144 := eq_true p144
                              replace q144 := eq_true q144
                              go_wp2_with (first | ((with_reducible refine gate_dst (N := 10) rfl ?_); refine box_event ?hg (N := 10) ?hd (cs := #[.int .i64 0, .int .i64 0]) (t := 42) ?hr ?_; (case hd => rfl); (case hg => rfl); (case hr => first | (go_simp; done) | (go_simp; rfl)); intro gb145 hg w34 hbox hb; have n0_ := Aside0.mk (Kd.R_below (by (with_reducible repeat (first | apply Kd.R_alloc | apply Kd.R_drewN | apply Kd.R_drew)); exact HO_6.out) hb); have n1_ := Aside0.mk (Kd.R_below (by (with_reducible repeat (first | apply Kd.R_alloc | apply Kd.R_drewN | apply Kd.R_drew)); exact HO_22.out) hb); have n2_ := Aside0.mk (blk_below (g := gb135) (o := .cells #[.int .i64 a0_0, .slice (some ad144) l0_1.length c0_1] 24 (0, 0)) (by (with_reducible repeat (first | refine blk_drewN ?_ _ | refine blk_drew ?_ | refine blk_alloc ?_ _)); exact BK135.out) hb); have n3_ := Aside0.mk (below_step (by repeat (first | (with_reducible first | exact HB.out | apply below_alloc | apply pw_below_drewN | apply below_drew1 | refine below_set ?_ GE135.out) | exact HB.out)) hb); have n4_ := Aside0.mk (hbox); have n5_ := Aside0.mk ((by rw [hg]; exact (below_size (by repeat (first | (with_reducible first | exact HB.out | apply below_alloc | apply pw_below_drewN | apply below_drew1 | refine below_set ?_ GE135.out) | exact HB.out))) : w.heap.size ≤ gb145)); have n6_ := Aside0.mk ((by rw [hg]; exact (below_size (by repeat (first | (with_reducible first | exact HB.out | apply below_alloc | apply pw_below_drewN | apply below_drew1 | refine below_set ?_ GE135.out) | exact HB.out))) : w.heap.size ≤ gb145)); have n7_ := Aside0.mk ((by rw [hg]; exact Nat.ne_of_lt (blk_lt (g := gb135) (o := .cells #[.int .i64 a0_0, .slice (some ad144) l0_1.length c0_1] 24 (0, 0)) (by (with_reducible repeat (first | refine blk_drewN ?_ _ | refine blk_drew ?_ | refine blk_alloc ?_ _)); exact BK135.out)) : gb135 ≠ gb145)); have n8_ := Aside0.mk ((by rw [hg]; exact Nat.ne_of_gt (blk_lt (g := gb135) (o := .cells #[.int .i64 a0_0, .slice (some ad144) l0_1.length c0_1] 24 (0, 0)) (by (with_reducible repeat (first | refine blk_drewN ?_ _ | refine blk_drew ?_ | refine blk_alloc ?_ _)); exact BK135.out)) : gb145 ≠ gb135)); clear HO_6; clear HO_22; clear BK135; clear HB; have HO_6 := n0_; have HO_22 := n1_; have BK135 := n2_; have HB := n3_; have BK145 := n4_; have GW145 := n5_; have GE145 := n6_; have NB135_145 := n7_; have NB145_135 := n8_; clear n0_ n1_ n2_ n3_ n4_ n5_ n6_ n7_ n8_; clear hb hbox hg; have hnb35 := NB145_135.out; have hnc35 := NB135_145.out; have hcz36_0 : w34.cell? ⟨gb145, 0, none⟩ = some (.int .i64 0) := (blk_cell BK145.out 0).trans rfl; have hcz36_1 : w34.cell? ⟨gb145, 1, none⟩ = some (.int .i64 0) := (blk_cell BK145.out 1).trans rfl; have hfz36_0 := blk_frozen BK145.out 0; have hfz36_1 := blk_frozen BK145.out 1))
                              go_roundg k2
                              case measure => have := HK1.out; have := HK2.out; omega
                              case rel => exact ⟨(x6_2), (wrap64 (x31_2 + 1)), (by first | rfl | (simp; done) | (simp [*]; done)), H', ⟨by have := HK1.out; have := HK2.out; omega⟩, ⟨by (with_reducible repeat (first | apply Kd.R_alloc | apply Kd.R_drewN | apply Kd.R_drew)); exact Kd.R_mono (Kd.R_far (p := ⟨gb145, 1, none⟩) (Kd.R_far (p := ⟨gb145, 0, none⟩) (Kd.R_types HO_6.out BK145.out (by decide)) (fun _ hk => hk.2) (.int .i64 ((rd_T42 l0_1 x31_2).f0))) (fun _ hk => hk.2) (.int .i64 ((rd_T42 l0_1 x31_2).f1))) (fun _ hk => hk.1)⟩, ⟨by (with_reducible repeat (first | apply Kd.R_alloc | apply Kd.R_drewN | apply Kd.R_drew)); exact Kd.R_mono (Kd.R_far (p := ⟨gb145, 1, none⟩) (Kd.R_far (p := ⟨gb145, 0, none⟩) (Kd.R_types HO_22.out BK145.out (by decide)) (fun _ hk => hk.2) (.int .i64 ((rd_T42 l0_1 x31_2).f0))) (fun _ hk => hk.2) (.int .i64 ((rd_T42 l0_1 x31_2).f1))) (fun _ hk => hk.1)⟩, ⟨by (with_reducible repeat (first | refine blk_drewN ?_ _ | refine blk_drew ?_ | refine blk_alloc ?_ _)); refine blk_far ?_ NB135_145.out _; (with_reducible repeat (first | refine blk_drewN ?_ _ | refine blk_drew ?_ | refine blk_alloc ?_ _)); refine blk_far ?_ NB135_145.out _; (with_reducible repeat (first | refine blk_drewN ?_ _ | refine blk_drew ?_ | refine blk_alloc ?_ _)); exact BK135.out⟩, ⟨by repeat (first | (with_reducible first | exact HB.out | apply below_alloc | apply pw_below_drewN | apply below_drew1 | refine below_set ?_ GE135.out | refine below_set ?_ GE145.out) | exact HB.out)⟩⟩
                          · rw [if_neg c19] at H
                            exact absurd H (by simp)
                        · rw [if_neg c18] at H
                          exact absurd H (by simp)
                      · rw [if_neg c17] at H
                        have c17b0 : decide (x31_2 < (l0_1.length : Int)) = false := decide_eq_false c17
                        clear c17
                        have H' := Aside0.mk H
                        clear H
                        go_wp2
                        go_roundg k2
                        case measure => have := HK1.out; have := HK2.out; omega
                        case rel => exact ⟨(x6_2), (wrap64 (x24_1 + 1)), (by first | rfl | (simp; done) | (simp [*]; done)), H', ⟨by have := HK1.out; have := HK2.out; omega⟩, ⟨by (with_reducible repeat (first | apply Kd.R_alloc | apply Kd.R_drewN | apply Kd.R_drew)); exact HO_6.out⟩, ⟨by (with_reducible repeat (first | apply Kd.R_alloc | apply Kd.R_drewN | apply Kd.R_drew)); exact HO_22.out⟩, ⟨by (with_reducible repeat (first | refine blk_drewN ?_ _ | refine blk_drew ?_ | refine blk_alloc ?_ _)); exact BK135.out⟩, ⟨by repeat (first | (with_reducible first | exact HB.out | apply below_alloc | apply pw_below_drewN | apply below_drew1 | refine below_set ?_ GE135.out) | exact HB.out)⟩⟩
                · rw [if_neg c15] at H
                  exact absurd H (by simp)
              · rw [if_neg c14] at H
                exact absurd H (by simp)
            · rw [if_neg c13] at H
              have c13b0 : decide (x24_1 < (t136.length : Int)) = false := decide_eq_false c13
              clear c13
              simp only [Option.some.injEq, Prod.mk.injEq] at H
              obtain ⟨rfl, rfl⟩ := H
              go_wp2
              go_ret2
              exact ⟨_, by first | rfl | (simp [errW_none, errW_some] <;> rfl) | (simp [*, errW_none, errW_some] <;> rfl), by (with_reducible repeat (first | apply Kd.R_alloc | apply Kd.R_drewN | apply Kd.R_drew)); exact Kd.R_mono HO_6.out (fun _ hk => trivial), by repeat (first | (with_reducible first | exact HB.out | apply below_alloc | apply pw_below_drewN | apply below_drew1 | refine below_set ?_ GE135.out) | exact HB.out)⟩
      · rw [if_neg c5] at H
        exact absurd H (by simp)
    · rw [if_neg c4] at H
      exact absurd H (by simp)
  · rw [if_neg c3] at H
    have c3b0 : (t139 == 0) = false := beq_eq_false_iff_ne.mpr c3
    have c3b1 : (t139 != 0) = true := bne_iff_ne.mpr c3
    simp only [Option.some.injEq, Prod.mk.injEq] at H
    obtain ⟨rfl, rfl⟩ := H
    go_enter Try.func24, Try.ntmps24
    go_wp2_with (first | ((with_reducible refine gate_dst (N := 1) rfl ?_); refine box_event ?hg (N := 1) ?hd (cs := #[.int .i64 a0_0, .slice A0_1 l0_1.length c0_1]) (t := 24) ?hr ?_; (case hd => rfl); (case hg => rfl); (case hr => first | (go_simp; done) | (go_simp; rfl)); intro gb135 hg w37 hbox hb; have n0_ := Aside0.mk (below_step (by repeat (first | (with_reducible first | exact HB.out | apply below_alloc | apply pw_below_drewN | apply below_drew1) | exact HB.out)) hb); have n1_ := Aside0.mk (hbox); have n2_ := Aside0.mk ((by rw [hg]; exact (below_size (by repeat (first | (with_reducible first | exact HB.out | apply below_alloc | apply pw_below_drewN | apply below_drew1) | exact HB.out))) : w.heap.size ≤ gb135)); have n3_ := Aside0.mk ((by rw [hg]; exact (below_size (by repeat (first | (with_reducible first | exact HB.out | apply below_alloc | apply pw_below_drewN | apply below_drew1) | exact HB.out))) : w.heap.size ≤ gb135)); clear HB; have HB := n0_; have BK135 := n1_; have GW135 := n2_; have GE135 := n3_; clear n0_ n1_ n2_ n3_; clear hb hbox hg; have hcz38_0 : w37.cell? ⟨gb135, 0, none⟩ = some (.int .i64 a0_0) := (blk_cell BK135.out 0).trans rfl; have hcz38_1 : w37.cell? ⟨gb135, 1, none⟩ = some (.slice A0_1 l0_1.length c0_1) := (blk_cell BK135.out 1).trans rfl; have hfz38_0 := blk_frozen BK135.out 0; have hfz38_1 := blk_frozen BK135.out 1) | ((with_reducible refine gate_callee (f := 16) rfl ?_); refine goesL_ (some 13) rfl rfl Try.func16 (by kernel_rfl) rfl #[.agg #[.int .i64 a0_0, .slice A0_1 l0_1.length c0_1]] rfl (by (try simp only [List.map_toArray, List.map_cons, List.map_nil]); first | done | rfl | (simp only [List.length_drop, List.length_take]; rfl)) ?_; (with_reducible refine (graph_Order.calls k a0_0 _ _ l0_1 t136 t139 _ ?side1 ?side2 A2.out).mono ?_); (case side1 => repeat (first | exact (Kd.C_below HR0_1.out HB.out) | (with_reducible refine Kd.C_alloc ?_ _) | (with_reducible refine Kd.C_drewN ?_ _) | (with_reducible refine Kd.C_drew ?_))); (case side2 => exact HC0_1.out); rintro e w39 ⟨v137, rfl, ho0, hb⟩; refine ⟨_, rfl, ?_⟩; have n0_ := Aside0.mk (Kd.R_lower ho0 (below_size (by repeat (first | (with_reducible first | exact HB.out | apply below_alloc | apply pw_below_drewN | apply below_drew1 | refine below_set ?_ GE135.out) | exact HB.out)))); have n1_ := Aside0.mk (blk_below (g := gb135) (o := .cells #[.int .i64 a0_0, .slice A0_1 l0_1.length c0_1] 24 (0, 0)) (by (with_reducible repeat (first | refine blk_drewN ?_ _ | refine blk_drew ?_ | refine blk_alloc ?_ _)); exact BK135.out) hb); have n2_ := Aside0.mk (below_step (by repeat (first | (with_reducible first | exact HB.out | apply below_alloc | apply pw_below_drewN | apply below_drew1 | refine below_set ?_ GE135.out) | exact HB.out)) hb); clear BK135; clear HB; have HO138 := n0_; have BK135 := n1_; have HB := n2_; clear n0_ n1_ n2_; (try clear hb); (try clear hb2); (try clear hk); (try clear hi); (try clear ho0)))
    go_ret2
    exact ⟨_, by first | rfl | (simp [errW_none, errW_some] <;> rfl) | (simp [*, errW_none, errW_some] <;> rfl), by first | exact Kd.R_nil _ _ _ _ _ | exact Kd.N_nil _ _ _ _ _ | exact Kd.V_nil _ _ _ _ _ | exact Kd.Q_nil _ _ _ _ _ | exact Kd.S_nil _ _ _ _ _, by repeat (first | (with_reducible first | exact HB.out | apply below_alloc | apply pw_below_drewN | apply below_drew1 | refine below_set ?_ GE135.out) | exact HB.out)⟩

end Go.Proofs.Ytaldnhlojllanaa.Q
