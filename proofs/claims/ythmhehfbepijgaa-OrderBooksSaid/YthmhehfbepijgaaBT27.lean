import Derived.Test.YthmhehfbepijgaaBQ0
import Derived.Test.YthmhehfbepijgaaBQ5
import Derived.Test.YthmhehfbepijgaaBQ7
namespace Go.Proofs.Ythmhehfbepijgaa.Q
open Go.RowKit Go.Proofs.YthmhehfbepijgaaW.PrintWords Go.Proofs.YthmhehfbepijgaaW.PrintLast Go.Proofs.YthmhehfbepijgaaW.PrintMore
attribute [local go_sem] max2_int min2_int max_two min_two max_three min_three max_four min_four
set_option linter.unusedVariables false
set_option linter.unusedSimpArgs false
set_option maxHeartbeats 16000000 in
def pairA {α β : Type} (a : Kd α) (b : Kd β) : Kd (α × β) where
  sz := a.sz + b.sz
  E := a.E ++ b.E
  K := fun w x cs => ∃ c0 c1, cs = c0 ++ c1 ∧ a.K w x.1 c0 ∧ b.K w x.2 c1
  M := fun w base ok x cs => ∃ c0 c1, ∃ (ok0 ok1 : Nat → Prop), cs = c0 ++ c1 ∧ (∀ k, ok0 k → ok k) ∧ (∀ k, ok1 k → ok k) ∧ (∀ k, ok0 k → ok1 k → False) ∧ a.M w base ok0 x.1 c0 ∧ b.M w base ok1 x.2 c1
  K_len := by
    rintro w x cs ⟨c0, c1, rfl, h0, h1⟩
    rw [List.length_append, a.K_len h0, b.K_len h1]
  K_one := by
    rintro w x cs ⟨c0, c1, rfl, h0, h1⟩ u hu
    rcases List.mem_append.1 hu with hu | hu
    · exact a.K_one h0 u hu
    · exact b.K_one h1 u hu
  K_below := by
    rintro w w1 x cs hb ⟨c0, c1, rfl, h0, h1⟩
    exact ⟨c0, c1, rfl, a.K_below hb h0, b.K_below hb h1⟩
  K_of_M := by
    rintro w base ok x cs ⟨c0, c1, ok0, ok1, rfl, _, _, _, h0, h1⟩
    exact ⟨c0, c1, rfl, a.K_of_M h0, b.K_of_M h1⟩
  M_mono := by
    rintro w base ok ok' x cs hok ⟨c0, c1, ok0, ok1, rfl, s0, s1, hd, h0, h1⟩
    exact ⟨c0, c1, ok0, ok1, rfl, fun k hk => hok k (s0 k hk), fun k hk => hok k (s1 k hk), hd, h0, h1⟩
  M_bound := by
    rintro w base ok x cs ⟨c0, c1, ok0, ok1, rfl, s0, s1, hd, h0, h1⟩
    refine ⟨c0, c1, _, _, rfl, ?_, ?_, ?_, a.M_bound h0, b.M_bound h1⟩
    · rintro k ⟨p1, p2, p3, q, hq, p4⟩
      exact ⟨s0 k p1, p2, p3, q, List.mem_append_left _ hq, p4⟩
    · rintro k ⟨p1, p2, p3, q, hq, p4⟩
      exact ⟨s1 k p1, p2, p3, q, List.mem_append_right _ hq, p4⟩
    · rintro k ⟨p1, _⟩ ⟨p2, _⟩
      exact hd k p1 p2
  M_move := by
    rintro w w1 base ok x cs hm ⟨c0, c1, ok0, ok1, rfl, s0, s1, hd, h0, h1⟩
    exact ⟨c0, c1, ok0, ok1, rfl, s0, s1, hd, a.M_move (fun k hk => hm k (s0 k hk)) h0, b.M_move (fun k hk => hm k (s1 k hk)) h1⟩
  M_lower := by
    rintro w base base' ok x cs hb ⟨c0, c1, ok0, ok1, rfl, s0, s1, hd, h0, h1⟩
    exact ⟨c0, c1, ok0, ok1, rfl, s0, s1, hd, a.M_lower hb h0, b.M_lower hb h1⟩
def k41a : Kd S41 := Kd.iso (Kd.pair k23 (pairA (Kd.slice 3 (Kd.int .i64)) (Kd.pair (Kd.slice 3 (Kd.int .i64)) Kd.bool))) (fun x : S41 => (x.f0, x.f1, x.f2, x.f3))
theorem k41a_openM {w : World} {base : Nat} {ok : Nat → Prop} {x : S41} {cs : List Value} (h : k41a.M w base ok x cs) : ∃ v12 v13, ∃ (ok0 ok1 : Nat → Prop), cs = [.int .i64 x.f0.f0, .int .i64 x.f0.f1, .int .i64 x.f0.f2, .int .i64 x.f0.f3, .int .i64 x.f0.f4, .int .i64 x.f0.f5, .int .i64 x.f0.f6, .int .i64 x.f0.f7, .int .i64 x.f0.f8, .int .i64 x.f0.f9, .int .i64 x.f0.f10, .int .i64 x.f0.f11, v12, v13, .bool x.f3] ∧ (∀ k, ok0 k → ok k) ∧ (∀ k, ok1 k → ok k) ∧ (∀ k, ok0 k → ok1 k → False) ∧ (Kd.int .i64).R 3 w base ok0 v12 x.f1 ∧ (Kd.int .i64).R 3 w base ok1 v13 x.f2 := by
  obtain ⟨_, _, rfl, s0, ⟨_, _, ok0, ok1, rfl, h0, h1, hd, ⟨v12, rfl, g12⟩, ⟨_, _, rfl, ⟨v13, rfl, g13⟩, rfl⟩⟩⟩ := h
  obtain rfl := k23_openM s0
  exact ⟨v12, v13, ok0, ok1, rfl, h0, h1, hd, g12, g13⟩
theorem k41a_mkM (w : World) (base : Nat) (ok : Nat → Prop) (x : S41) {ok0 ok1 : Nat → Prop} (h0 : ∀ k, ok0 k → ok k) (h1 : ∀ k, ok1 k → ok k) (hd : ∀ k, ok0 k → ok1 k → False) {v12 : Value} (g12 : (Kd.int .i64).R 3 w base ok0 v12 x.f1) {v13 : Value} (g13 : (Kd.int .i64).R 3 w base ok1 v13 x.f2) : k41a.M w base ok x [.int .i64 x.f0.f0, .int .i64 x.f0.f1, .int .i64 x.f0.f2, .int .i64 x.f0.f3, .int .i64 x.f0.f4, .int .i64 x.f0.f5, .int .i64 x.f0.f6, .int .i64 x.f0.f7, .int .i64 x.f0.f8, .int .i64 x.f0.f9, .int .i64 x.f0.f10, .int .i64 x.f0.f11, v12, v13, .bool x.f3] :=
  ⟨[.int .i64 x.f0.f0, .int .i64 x.f0.f1, .int .i64 x.f0.f2, .int .i64 x.f0.f3, .int .i64 x.f0.f4, .int .i64 x.f0.f5, .int .i64 x.f0.f6, .int .i64 x.f0.f7, .int .i64 x.f0.f8, .int .i64 x.f0.f9, .int .i64 x.f0.f10, .int .i64 x.f0.f11], [v12, v13, .bool x.f3], rfl, (k23_mkM w base ok x.f0), ⟨[v12], [v13, .bool x.f3], ok0, ok1, rfl, h0, h1, hd, ⟨v12, rfl, g12⟩, ⟨[v13], [.bool x.f3], rfl, ⟨v13, rfl, g13⟩, rfl⟩⟩⟩
theorem CA {w : World} {A : Option Addr} {n : Nat} {L : List S41} : Kd.C k41a w A n L ↔ Kd.C k41 w A n L := Iff.rfl
theorem VA {w : World} {e base : Nat} {ok : Nat → Prop} {v : Value} {L : List S41} : Kd.V k41a e w base ok v L ↔ Kd.V k41 e w base ok v L := Iff.rfl
section
variable {w : World} {base : Nat} {ok : Nat → Prop} {L : List S41} {A : Option Addr} {n c : Nat}
theorem SA_elem (h : Kd.S k41a 41 w base ok (.slice A n c) L) (i : Nat) (hi : i < L.length) :
    ∃ g A12 c12 A13 c13, A = some ⟨g, 0, none⟩ ∧ w.cell? ⟨g, i * 15, none⟩ = some (.int .i64 (rd_T41 L (i : Int)).f0.f0) ∧ w.cell? ⟨g, i * 15 + 1, none⟩ = some (.int .i64 (rd_T41 L (i : Int)).f0.f1) ∧ w.cell? ⟨g, i * 15 + 2, none⟩ = some (.int .i64 (rd_T41 L (i : Int)).f0.f2) ∧ w.cell? ⟨g, i * 15 + 3, none⟩ = some (.int .i64 (rd_T41 L (i : Int)).f0.f3) ∧ w.cell? ⟨g, i * 15 + 4, none⟩ = some (.int .i64 (rd_T41 L (i : Int)).f0.f4) ∧ w.cell? ⟨g, i * 15 + 5, none⟩ = some (.int .i64 (rd_T41 L (i : Int)).f0.f5) ∧ w.cell? ⟨g, i * 15 + 6, none⟩ = some (.int .i64 (rd_T41 L (i : Int)).f0.f6) ∧ w.cell? ⟨g, i * 15 + 7, none⟩ = some (.int .i64 (rd_T41 L (i : Int)).f0.f7) ∧ w.cell? ⟨g, i * 15 + 8, none⟩ = some (.int .i64 (rd_T41 L (i : Int)).f0.f8) ∧ w.cell? ⟨g, i * 15 + 9, none⟩ = some (.int .i64 (rd_T41 L (i : Int)).f0.f9) ∧ w.cell? ⟨g, i * 15 + 10, none⟩ = some (.int .i64 (rd_T41 L (i : Int)).f0.f10) ∧ w.cell? ⟨g, i * 15 + 11, none⟩ = some (.int .i64 (rd_T41 L (i : Int)).f0.f11) ∧ w.cell? ⟨g, i * 15 + 12, none⟩ = some (.slice A12 (rd_T41 L (i : Int)).f1.length c12) ∧ w.cell? ⟨g, i * 15 + 13, none⟩ = some (.slice A13 (rd_T41 L (i : Int)).f2.length c13) ∧ w.cell? ⟨g, i * 15 + 14, none⟩ = some (.bool (rd_T41 L (i : Int)).f3) ∧ (∀ j, w.frozen? ⟨g, i * 15 + j, none⟩ = false) ∧ ok g ∧ base ≤ g := by
  obtain ⟨g, cap, e, hbase, _, _⟩ := Kd.S_form h (by omega)
  obtain ⟨rfl, rfl, rfl⟩ : A = some ⟨g, 0, none⟩ ∧ n = L.length ∧ c = cap := by injection e with e1 e2 e3; exact ⟨e1, e2, e3⟩
  obtain ⟨ad, A12, c12, A13, c13, e, y0, y1, y2, y3, y4, y5, y6, y7, y8, y9, y10, y11, y12, y13, y14, _, _, _, _⟩ := at_T41 (CA.1 (Kd.S_reads' h).2.2) (i : Int) (by omega) (by omega)
  obtain rfl := Option.some.inj e
  obtain ⟨_, _, _, _, _, hfr, _⟩ := Kd.S_elem h z41 (i : Int) (by omega) (by omega)
  have hP := (Kd.S_R h).1 g rfl
  rw [Int.toNat_natCast] at hfr y0 y1 y2 y3 y4 y5 y6 y7 y8 y9 y10 y11 y12 y13 y14
  simp only [add_plain] at y0 y1 y2 y3 y4 y5 y6 y7 y8 y9 y10 y11 y12 y13 y14
  exact ⟨g, A12, c12, A13, c13, rfl, y0, y1, y2, y3, y4, y5, y6, y7, y8, y9, y10, y11, y12, y13, y14, hfr, hP, hbase⟩
theorem SA_put {g : Nat} (h : Kd.S k41a 41 w base ok (.slice (some ⟨g, 0, none⟩) n c) L) (i : Nat) (hi : i < L.length) (j : Nat) (v : Value) (hj : j < 15) (x' : S41)
    (hx : ∀ (ok : Nat → Prop) (c : List Value), k41a.M w base ok (rd_T41 L (i : Int)) c → k41a.M w base ok x' (c.take j ++ [v] ++ c.drop (j + 1))) :
    Kd.S k41a 41 (w.setCell ⟨g, i * 15 + j, none⟩ v) base ok (.slice (some ⟨g, 0, none⟩) n c) (L.set i x') := by
  have hn := (Kd.S_reads' h).1
  obtain ⟨oki, c, hcl, hM, hcc, hfr, hok, hH⟩ := Kd.S_elem h z41 (i : Int) (by omega) (by omega)
  have hs := Kd.S_seg0 hH (by omega) (by omega) (seg := [v]) (j := j) (show j + 1 ≤ 15 by omega) (hx oki c hM) (fun _ hk => hk)
  exact hs.1
theorem k41a_count {x : S41} {cs : List Value} (m : Int) (h : k41a.M w base ok x cs) : k41a.M w base ok { x with f0 := { x.f0 with f6 := m } } (cs.take 6 ++ [.int .i64 m] ++ cs.drop 7) := by
  obtain ⟨v12, v13, ok0, ok1, rfl, h0, h1, hd, g12, g13⟩ := k41a_openM h
  exact k41a_mkM w base ok { x with f0 := { x.f0 with f6 := m } } h0 h1 hd g12 g13
theorem k41a_closed {x : S41} {cs : List Value} (b : Bool) (h : k41a.M w base ok x cs) : k41a.M w base ok { x with f3 := b } (cs.take 14 ++ [.bool b] ++ cs.drop 15) := by
  obtain ⟨v12, v13, ok0, ok1, rfl, h0, h1, hd, g12, g13⟩ := k41a_openM h
  exact k41a_mkM w base ok { x with f3 := b } h0 h1 hd g12 g13
theorem k41a_nil1 {x : S41} {cs : List Value} (h : k41a.M w base ok x cs) : k41a.M w base ok { x with f1 := [] } (cs.take 12 ++ [.slice none 0 0] ++ cs.drop 13) := by
  obtain ⟨v12, v13, ok0, ok1, rfl, h0, h1, hd, g12, g13⟩ := k41a_openM h
  exact k41a_mkM w base ok { x with f1 := [] } (ok0 := fun _ => False) (fun _ h => h.elim) h1 (fun _ h _ => h) (Kd.R_nil _ _ _ _ _) g13
theorem k41a_nil2 {x : S41} {cs : List Value} (h : k41a.M w base ok x cs) : k41a.M w base ok { x with f2 := [] } (cs.take 13 ++ [.slice none 0 0] ++ cs.drop 14) := by
  obtain ⟨v12, v13, ok0, ok1, rfl, h0, h1, hd, g12, g13⟩ := k41a_openM h
  exact k41a_mkM w base ok { x with f2 := [] } (ok1 := fun _ => False) h0 (fun _ h => h.elim) (fun _ _ h => h) g12 (Kd.R_nil _ _ _ _ _)
theorem SA_row1 {g : Nat} (h : Kd.S k41a 41 w base ok (.slice (some ⟨g, 0, none⟩) n c) L) (i : Nat) (hi : i < L.length) :
    ∃ (oki : Nat → Prop) (A12 : Option Addr) (c12 : Nat), Kd.R (Kd.int .i64) 3 w base oki (.slice A12 (rd_T41 L (i : Int)).f1.length c12) (rd_T41 L (i : Int)).f1 ∧ w.cell? ⟨g, i * 15 + 12, none⟩ = some (.slice A12 (rd_T41 L (i : Int)).f1.length c12) ∧ (∀ q, oki q → ok q ∧ q ≠ g) ∧
      ∀ {w3 : World} {v' : Value} {xs' : List Int}, w.grownBy w3 (.slice A12 (rd_T41 L (i : Int)).f1.length c12 : Value).ownBlock → Kd.R (Kd.int .i64) 3 w3 base (fun q => oki q ∨ w.heap.size ≤ q) v' xs' →
        Kd.S k41a 41 (w3.setCell ⟨g, i * 15 + 12, none⟩ v') base (fun q => ok q ∨ w.heap.size ≤ q) (.slice (some ⟨g, 0, none⟩) n c) (L.set i { rd_T41 L (i : Int) with f1 := xs' }) := by
  have hn := (Kd.S_reads' h).1
  have hg0 := Kd.R_lt (Kd.S_R h) g rfl
  obtain ⟨oki, cs, _, hM, hcc, _, hok, hH⟩ := Kd.S_elem h z41 (i : Int) (by omega) (by omega)
  obtain ⟨v12, v13, ok0, ok1, rfl, s0, s1, hd, h12, h13⟩ := k41a_openM hM
  obtain ⟨A12, c12, rfl⟩ := Kd.R_slice h12
  refine ⟨ok0, A12, c12, h12, by have := hcc 12 _ rfl; rwa [Int.toNat_natCast] at this, fun q hq => ⟨(hok q (s0 q hq)).1, (hok q (s0 q hq)).2⟩, ?_⟩
  intro w3 v' xs' hg hv
  have hrow : ∀ q, (.slice A12 (rd_T41 L (i : Int)).f1.length c12 : Value).ownBlock = some q → ok0 q := fun q hq => h12.1 q hq
  have hH1 := Kd.H_grown (Kd.H_widen (Kd.H_mono hH (ok' := fun q => ok q ∨ w.heap.size ≤ q) (fun q hq => .inl hq))) hg (fun q hq => .inl (s0 q (hrow q hq)))
  have g13 := Kd.R_grown (Kd.R_bound h13) hg (fun q hq e => hd q (hrow q e.symm) hq.1)
  exact (Kd.S_seg0 (x' := { rd_T41 L (i : Int) with f1 := xs' }) hH1 (by omega) (by omega) (seg := [v']) (j := 12) (show 12 + 1 ≤ 15 by omega) (k41a_mkM w3 base _ { rd_T41 L (i : Int) with f1 := xs' } (ok0 := fun q => ok0 q ∨ w.heap.size ≤ q) (ok1 := fun q => ok1 q ∧ q < w.heap.size) (fun q hq => hq.elim (fun q' => .inl (s0 q q')) (fun q' => .inr ⟨.inr q', q'⟩)) (fun q hq => .inl (s1 q hq.1)) (fun q hq hr => hq.elim (fun q' => hd q q' hr.1) (fun q' => by have := hr.2; omega)) hv (Kd.R_mono g13 (fun q hq => ⟨hq.1, hq.2.2.1⟩)))
    (fun _ hq => hq)).1
theorem SA_row2 {g : Nat} (h : Kd.S k41a 41 w base ok (.slice (some ⟨g, 0, none⟩) n c) L) (i : Nat) (hi : i < L.length) :
    ∃ (oki : Nat → Prop) (A13 : Option Addr) (c13 : Nat), Kd.R (Kd.int .i64) 3 w base oki (.slice A13 (rd_T41 L (i : Int)).f2.length c13) (rd_T41 L (i : Int)).f2 ∧ w.cell? ⟨g, i * 15 + 13, none⟩ = some (.slice A13 (rd_T41 L (i : Int)).f2.length c13) ∧ (∀ q, oki q → ok q ∧ q ≠ g) ∧
      ∀ {w3 : World} {v' : Value} {xs' : List Int}, w.grownBy w3 (.slice A13 (rd_T41 L (i : Int)).f2.length c13 : Value).ownBlock → Kd.R (Kd.int .i64) 3 w3 base (fun q => oki q ∨ w.heap.size ≤ q) v' xs' →
        Kd.S k41a 41 (w3.setCell ⟨g, i * 15 + 13, none⟩ v') base (fun q => ok q ∨ w.heap.size ≤ q) (.slice (some ⟨g, 0, none⟩) n c) (L.set i { rd_T41 L (i : Int) with f2 := xs' }) := by
  have hn := (Kd.S_reads' h).1
  have hg0 := Kd.R_lt (Kd.S_R h) g rfl
  obtain ⟨oki, cs, _, hM, hcc, _, hok, hH⟩ := Kd.S_elem h z41 (i : Int) (by omega) (by omega)
  obtain ⟨v12, v13, ok0, ok1, rfl, s0, s1, hd, h12, h13⟩ := k41a_openM hM
  obtain ⟨A13, c13, rfl⟩ := Kd.R_slice h13
  refine ⟨ok1, A13, c13, h13, by have := hcc 13 _ rfl; rwa [Int.toNat_natCast] at this, fun q hq => ⟨(hok q (s1 q hq)).1, (hok q (s1 q hq)).2⟩, ?_⟩
  intro w3 v' xs' hg hv
  have hrow : ∀ q, (.slice A13 (rd_T41 L (i : Int)).f2.length c13 : Value).ownBlock = some q → ok1 q := fun q hq => h13.1 q hq
  have hH1 := Kd.H_grown (Kd.H_widen (Kd.H_mono hH (ok' := fun q => ok q ∨ w.heap.size ≤ q) (fun q hq => .inl hq))) hg (fun q hq => .inl (s1 q (hrow q hq)))
  have g12 := Kd.R_grown (Kd.R_bound h12) hg (fun q hq e => hd q hq.1 (hrow q e.symm))
  exact (Kd.S_seg0 (x' := { rd_T41 L (i : Int) with f2 := xs' }) hH1 (by omega) (by omega) (seg := [v']) (j := 13) (show 13 + 1 ≤ 15 by omega) (k41a_mkM w3 base _ { rd_T41 L (i : Int) with f2 := xs' } (ok0 := fun q => ok0 q ∧ q < w.heap.size) (ok1 := fun q => ok1 q ∨ w.heap.size ≤ q) (fun q hq => .inl (s0 q hq.1)) (fun q hq => hq.elim (fun q' => .inl (s1 q q')) (fun q' => .inr ⟨.inr q', q'⟩)) (fun q hr hq => hq.elim (fun q' => hd q hr.1 q') (fun q' => by have := hr.2; omega)) (Kd.R_mono g12 (fun q hq => ⟨hq.1, hq.2.2.1⟩)) hv)
    (fun _ hq => hq)).1
end
end Go.Proofs.Ythmhehfbepijgaa.Q
