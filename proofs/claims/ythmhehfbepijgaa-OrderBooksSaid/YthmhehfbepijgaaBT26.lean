import Derived.Test.YthmhehfbepijgaaBQ0
import Derived.Test.YthmhehfbepijgaaBQ2
import Derived.Test.YthmhehfbepijgaaBR12
import Derived.Test.YthmhehfbepijgaaBQ5
import Derived.Test.YthmhehfbepijgaaBQ6
import Derived.Test.YthmhehfbepijgaaBQ7
import Derived.Test.YthmhehfbepijgaaBQ8
import Derived.Test.YthmhehfbepijgaaBQ9
import Derived.Test.YthmhehfbepijgaaBQ11
import Derived.Test.YthmhehfbepijgaaBQ12
namespace Go.Proofs.Ythmhehfbepijgaa.Q
open Go.RowKit Go.Proofs.YthmhehfbepijgaaW.PrintWords Go.Proofs.YthmhehfbepijgaaW.PrintLast Go.Proofs.YthmhehfbepijgaaW.PrintMore
attribute [local go_sem] max2_int min2_int max_two min_two max_three min_three max_four min_four
set_option linter.unusedVariables false
set_option linter.unusedSimpArgs false
set_option maxHeartbeats 16000000 in
theorem wrapN {i n : Nat} (h : i < n) (hb : n ≤ 1000000) : wrap64 ((i : Int) + 1) = ((i + 1 : Nat) : Int) := by unfold wrap64; omega
theorem rd41_is {L : List S41} {i : Nat} (h : i < L.length) : rd_T41 L (i : Int) = L[i] := by
  unfold rd_T41
  rw [Int.toNat_natCast, List.getD_eq_getElem?_getD, List.getElem?_eq_getElem h]
  rfl
theorem getD41 {L : List S41} {i : Nat} (h : i < L.length) : L.getD i z41 = L[i] := by
  rw [List.getD_eq_getElem?_getD, List.getElem?_eq_getElem h]
  rfl
theorem place_l0 (L : List S41) (id : Int) (hb : L.length ≤ 1000000) : ∀ (m k i : Nat), i + m = L.length → m < k → (∀ j, j < i → (fun y : S41 => y.f0.f0 == id) (L.getD j z41) = false) → papermillref51_place.l0 k id (i : Int) L = some (idxI (fun y : S41 => y.f0.f0 == id) L)
  | m, 0, i, _, h, _ => absurd h (Nat.not_lt_zero _)
  | 0, k + 1, i, h, _, hp => by
    unfold papermillref51_place.l0
    rw [if_neg (by omega), idxI_miss _ _ z41 (fun j hj => hp j (by omega))]
  | m + 1, k + 1, i, h, hk, hp => by
    unfold papermillref51_place.l0
    have h0 : i < L.length := by omega
    rw [if_pos (by omega), if_pos (by omega), rd41_is h0]
    by_cases e : L[i].f0.f0 = id
    · rw [if_pos e, idxI_hit _ L z41 i h0 hp (by rw [getD41 h0]; exact beq_iff_eq.2 e)]
    · rw [if_neg e, wrapN h0 hb]
      refine place_l0 L id hb m k (i + 1) (by omega) (by omega) (fun j hj => ?_)
      by_cases hji : j = i
      · subst hji
        rw [getD41 h0]
        exact beq_eq_false_iff_ne.2 e
      · exact hp j (by omega)
theorem place_f (L : List S41) (id : Int) (hb : L.length ≤ 1000000) (k : Nat) (hk : L.length < k) : papermillref51_place.f k L id = some (idxI (fun y : S41 => y.f0.f0 == id) L) :=
  place_l0 L id hb L.length k 0 (by omega) hk (fun j hj => absurd hj (Nat.not_lt_zero _))
theorem has_l0 (l : List Int) (n : Int) (hb : l.length ≤ 1000000) : ∀ (m k i : Nat), i + m = l.length → m < k → papermillref51_has.l0 k l n (i : Int) = some (decide (n ∈ l.drop i))
  | m, 0, i, _, h => absurd h (Nat.not_lt_zero _)
  | 0, k + 1, i, h, _ => by
    unfold papermillref51_has.l0
    rw [if_neg (by omega), List.drop_eq_nil_of_le (by omega), decide_eq_false (by simp)]
  | m + 1, k + 1, i, h, hk => by
    unfold papermillref51_has.l0
    have h0 : i < l.length := by omega
    have r0 : rd l (i : Int) = l[i] := by unfold rd; rw [Int.toNat_natCast, List.getD_eq_getElem?_getD, List.getElem?_eq_getElem h0]; rfl
    rw [if_pos (by omega), if_pos (by omega), r0, List.drop_eq_getElem_cons h0]
    by_cases e : l[i] = n
    · rw [if_pos e, decide_eq_true (by rw [e]; exact List.mem_cons_self)]
    · rw [if_neg e, wrapN h0 hb, has_l0 l n hb m k (i + 1) (by omega) (by omega)]
      exact congrArg some (decide_eq_decide.2 ⟨fun h => List.mem_cons_of_mem _ h, fun h => (List.mem_cons.1 h).elim (fun q => absurd q.symm e) id⟩)
theorem has_f (l : List Int) (n : Int) (hb : l.length ≤ 1000000) (k : Nat) (hk : l.length < k) : papermillref51_has.f k l n = some (decide (n ∈ l)) :=
  has_l0 l n hb l.length k 0 (by omega) hk
theorem of_l0 (L : List S41) (n : Int) (hb : L.length ≤ 1000000) (K : Nat) (hf : ∀ x ∈ L, x.f1.length < 1000) (hK : 1000 ≤ K) : ∀ (m k i : Nat), i + m = L.length → m < k → (∀ j, j < i → (fun y : S41 => decide (n ∈ y.f1)) (L.getD j z41) = false) → papermillref51_of.l0 (k + K) n (i : Int) L = some (idxI (fun y : S41 => decide (n ∈ y.f1)) L)
  | m, 0, i, _, h, _ => absurd h (Nat.not_lt_zero _)
  | 0, k + 1, i, h, _, hp => by
    rw [show k + 1 + K = (k + K) + 1 by omega]
    unfold papermillref51_of.l0
    rw [if_neg (by omega), idxI_miss _ _ z41 (fun j hj => hp j (by omega))]
  | m + 1, k + 1, i, h, hk, hp => by
    rw [show k + 1 + K = (k + K) + 1 by omega]
    unfold papermillref51_of.l0
    have h0 : i < L.length := by omega
    have hr := hf L[i] (List.getElem_mem h0)
    rw [if_pos (by omega), if_pos (by omega), rd41_is h0, has_f _ _ (by omega) _ (by omega)]
    simp only [Option.bind_some]
    by_cases e : n ∈ L[i].f1
    · rw [if_pos (decide_eq_true e), idxI_hit _ L z41 i h0 hp (by rw [getD41 h0]; exact decide_eq_true e)]
    · rw [if_neg (by rw [decide_eq_false e]; simp), wrapN h0 hb]
      refine of_l0 L n hb K hf hK m k (i + 1) (by omega) (by omega) (fun j hj => ?_)
      by_cases hji : j = i
      · subst hji
        rw [getD41 h0]
        exact decide_eq_false e
      · exact hp j (by omega)
theorem of_f (L : List S41) (n : Int) (hb : L.length ≤ 1000) (hf : ∀ x ∈ L, x.f1.length < 1000) : papermillref51_of.f 3000 L n = some (idxI (fun y : S41 => decide (n ∈ y.f1)) L) :=
  of_l0 L n (by omega) 1999 hf (by omega) L.length 1001 0 (by omega) (by omega) (fun j hj => absurd hj (Nat.not_lt_zero _))
theorem copied_f (y : S41) (h1 : y.f1.length < 1000) (h2 : y.f2.length < 1000) : papermillref51_copied.f y.f0.f0 y.f0.f1 y.f0.f2 y.f0.f3 y.f0.f4 y.f0.f5 y.f0.f6 y.f0.f7 y.f0.f8 y.f0.f9 y.f0.f10 y.f0.f11 y.f1 y.f2 y.f3 = some (y.f0.f0, y.f0.f1, y.f0.f2, y.f0.f3, y.f0.f4, y.f0.f5, y.f0.f6, y.f0.f7, y.f0.f8, y.f0.f9, y.f0.f10, y.f0.f11, y.f1, y.f2, y.f3) := by
  unfold papermillref51_copied.f
  simp only [Option.bind_some, List.length_nil, List.nil_append]
  rw [if_pos (by omega), if_pos (by omega)]
theorem whole_l0 (L : List S41) (hb : L.length ≤ 1000) (hf : ∀ x ∈ L, x.f1.length < 1000 ∧ x.f2.length < 1000) : ∀ (m k i : Nat) (acc : List S41), i + m = L.length → m < k → acc.length ≤ i → papermillref51_whole.l0 k (i : Int) L acc = some (acc ++ L.drop i)
  | m, 0, i, _, _, h, _ => absurd h (Nat.not_lt_zero _)
  | 0, k + 1, i, acc, h, _, _ => by
    unfold papermillref51_whole.l0
    rw [if_neg (by omega), List.drop_eq_nil_of_le (by omega), List.append_nil]
  | m + 1, k + 1, i, acc, h, hk, ha => by
    unfold papermillref51_whole.l0
    have h0 : i < L.length := by omega
    obtain ⟨q1, q2⟩ := hf L[i] (List.getElem_mem h0)
    rw [if_pos (by omega), if_pos (by omega), rd41_is h0, copied_f _ q1 q2]
    simp only [Option.bind_some]
    rw [if_pos (by omega), wrapN h0 (by omega), whole_l0 L hb hf m k (i + 1) _ (by omega) (by omega) (by simp; omega), List.append_assoc, List.drop_eq_getElem_cons h0]
    rfl
theorem whole_f (L : List S41) (hb : L.length ≤ 1000) (hf : ∀ x ∈ L, x.f1.length < 1000 ∧ x.f2.length < 1000) (k : Nat) (hk : L.length < k) : papermillref51_whole.f k L = some L := by
  have := whole_l0 L hb hf L.length k 0 [] (by omega) hk (Nat.le_refl _)
  exact this
theorem idxI_map {α β : Type} (p : β → Bool) (f : α → β) (l : List α) : idxI p (l.map f) = idxI (p ∘ f) l := by
  unfold idxI
  rw [List.findIdx?_map]
theorem place_all (B : Bk) (id : Int) : idxI (fun y : S41 => y.f0.f0 == id) B.all = B.find id := by
  unfold Bk.all Bk.find
  rw [idxI_map]
  rfl
theorem all_atR {B : Bk} {i : Nat} {x : S68} (hx : B.es[i]? = some x) : rd_T41 B.all (i : Int) = B.stat x := by
  unfold rd_T41 Bk.all
  rw [Int.toNat_natCast, List.getD_eq_getElem?_getD, List.getElem?_map, hx]
  rfl
def Bk.of (B : Bk) (n : Int) : Int := match B.asg n with
  | some p => p.1
  | none => -1
theorem of_all {B : Bk} {T : Nat} (hi : B.Inv T) (n : Int) : idxI (fun y : S41 => decide (n ∈ y.f1)) B.all = B.of n := by
  unfold Bk.all
  rw [idxI_map]
  unfold Bk.of
  cases ha : B.asg n with
  | none =>
    refine idxI_miss _ _ z68 (fun j hj => ?_)
    rw [List.getD_eq_getElem?_getD, List.getElem?_eq_getElem hj]
    refine decide_eq_false (fun hm => ?_)
    obtain ⟨s, hs⟩ := (hi.ent j _ (List.getElem?_eq_getElem hj)).fwd n hm
    rw [ha] at hs
    cases hs
  | some p =>
    obtain ⟨k, s⟩ := p
    obtain ⟨i, x, rfl, hx, hm⟩ := hi.bwd n k s ha
    have hlt := (List.getElem?_eq_some_iff.1 hx).1
    refine idxI_hit _ _ z68 i hlt (fun j hj => ?_) ?_
    · rw [List.getD_eq_getElem?_getD, List.getElem?_eq_getElem (by omega)]
      refine decide_eq_false (fun hm' => ?_)
      obtain ⟨s', hs⟩ := (hi.ent j _ (List.getElem?_eq_getElem (by omega))).fwd n hm'
      rw [ha] at hs
      injection hs with hs
      injection hs with hs _
      omega
    · rw [List.getD_eq_getElem?_getD, hx]
      exact decide_eq_true hm
theorem refChk (K : Nat) (a0 a1 a2 a3 a4 a5 a6 a7 a8 a9 a10 a11 : Int) : papermillref51_Check.f (K + 6) a0 a1 a2 a3 a4 a5 a6 a7 a8 a9 a10 a11 = some (chkO ⟨a0, a1, a2, a3, a4, a5, a6, a7, a8, a9, a10, a11⟩) := rfl
section
variable {B : Bk} {T : Nat}
theorem Bk.Inv.allFew (hi : B.Inv T) (hT : T ≤ 900) : B.all.length ≤ 1000 ∧ ∀ x ∈ B.all, x.f1.length < 1000 ∧ x.f2.length < 1000 := ⟨by have := hi.allLen; omega, fun x hx => hi.few hT x hx⟩
theorem add_f (hi : B.Inv T) (hT : T ≤ 900) (o : S23) : papermillref51_add.f 3000 B.all o.f0 o.f1 o.f2 o.f3 o.f4 o.f5 o.f6 o.f7 o.f8 o.f9 o.f10 o.f11 = some ((B.Add o).1.all, (B.Add o).2) := by
  obtain ⟨h1, h2⟩ := hi.allFew hT
  unfold papermillref51_add.f Bk.Add
  rw [refChk 2994, place_f B.all o.f0 (by omega) 3000 (by omega), whole_f B.all h1 h2 3000 (by omega), place_all, all_len]
  simp only [Option.bind_some]
  have hl : B.es.length ≤ 64 := hi.es
  by_cases c0 : chkO o = 0
  · rw [if_pos c0, if_pos c0]
    by_cases c1 : B.find o.f0 ≥ 0
    · rw [if_pos c1, if_pos c1]
    · rw [if_neg c1, if_neg c1]
      by_cases c2 : (B.es.length : Int) ≥ 64
      · rw [if_pos c2, if_pos c2]
      · rw [if_neg c2, if_neg c2, if_pos (by omega)]
        rw [show ({ B with es := B.es ++ [⟨o, [], false⟩] } : Bk).all = B.all ++ [⟨o, [], [], false⟩] from all_add B o B.n]
  · rw [if_neg c0, if_neg c0]
theorem all_set (i : Nat) (x' : S68) : ({ B with es := B.es.set i x' } : Bk).all = B.all.set i (B.stat x') := by
  unfold Bk.all
  rw [List.map_set]
  rfl
theorem find_f (hi : B.Inv T) (hT : T ≤ 900) (n : Int) : papermillref51_find.f 3000 B.all n = B.Find n := by
  obtain ⟨h1, h2⟩ := hi.allFew hT
  unfold papermillref51_find.f Bk.Find
  rw [of_f B.all n h1 (fun x hx => (h2 x hx).1), of_all hi]
  simp only [Option.bind_some]
  unfold Bk.of
  cases ha : B.asg n with
  | none => rfl
  | some p =>
    obtain ⟨k, s⟩ := p
    obtain ⟨i, x, rfl, hx, hm⟩ := hi.bwd n k s ha
    have hlt := (List.getElem?_eq_some_iff.1 hx).1
    simp only
    rw [if_neg (by omega), if_pos (by omega), if_pos (by rw [all_len]; omega), all_atR hx, if_pos (by omega), rd68_of hx]
    rfl
end
end Go.Proofs.Ythmhehfbepijgaa.Q
