import Derived.Test.YthmhehfbepijgaaBQ0
import Derived.Test.YthmhehfbepijgaaBQ5
import Derived.Test.YthmhehfbepijgaaBQ7
import Derived.Test.YthmhehfbepijgaaBQ11
import Derived.Test.YthmhehfbepijgaaBT26
import Derived.Test.YthmhehfbepijgaaBT29
namespace Go.Proofs.Ythmhehfbepijgaa.Q
open Go.RowKit Go.Proofs.YthmhehfbepijgaaW.PrintWords Go.Proofs.YthmhehfbepijgaaW.PrintLast Go.Proofs.YthmhehfbepijgaaW.PrintMore
attribute [local go_sem] max2_int min2_int max_two min_two max_three min_three max_four min_four
set_option linter.unusedVariables false
set_option linter.unusedSimpArgs false
set_option maxHeartbeats 16000000 in
theorem all_one {B B' : Bk} {i : Nat} {x x' : S68} {y' : S41} (hx : B.es[i]? = some x) (he : B'.es = B.es.set i x') (hy : B'.stat x' = y') (hf : ∀ j z, j ≠ i → B.es[j]? = some z → B'.stat z = B.stat z) : B'.all = B.all.set i y' := by
  have hlt := (List.getElem?_eq_some_iff.1 hx).1
  apply List.ext_getElem?
  intro j
  unfold Bk.all
  rw [he, List.getElem?_map, List.getElem?_set]
  by_cases e : i = j
  · subst e
    rw [if_pos rfl, if_pos hlt, List.getElem?_set, if_pos rfl, if_pos (by rw [List.length_map]; exact hlt)]
    exact congrArg some hy
  · rw [if_neg e, List.getElem?_set, if_neg e, List.getElem?_map]
    cases h : B.es[j]? with
    | none => rfl
    | some z => exact congrArg some (hf j z (fun q => e q.symm) h)
theorem amend_ways (B : Bk) (id c : Int) : (B.find id < 0 ∧ B.Amend id c = (B, 7)) ∨ ∃ (i : Nat) (x : S68), B.find id = (i : Int) ∧ B.es[i]? = some x ∧
    ((x.f2 = true ∧ B.Amend id c = (B, 33)) ∨ (x.f2 = false ∧ ((c < 1 ∧ B.Amend id c = (B, 1)) ∨ (¬ c < 1 ∧ ((c > 1000 ∧ B.Amend id c = (B, 1)) ∨ (¬ c > 1000 ∧
      (((x.f1.length : Int) > wrap64 (c + x.f0.f7) ∧ B.Amend id c = (B, 32)) ∨ (¬ (x.f1.length : Int) > wrap64 (c + x.f0.f7) ∧ (B.Amend id c).2 = 0 ∧ (B.Amend id c).1.all = B.all.set i { B.stat x with f0 := { x.f0 with f6 := c } })))))))) := by
  by_cases c0 : B.find id < 0
  · refine .inl ⟨c0, ?_⟩
    unfold Bk.Amend Bk.open_
    rw [if_pos c0, if_neg (by decide)]
  refine .inr ?_
  obtain ⟨i, x, e, hx, _⟩ := find_is c0
  refine ⟨i, x, e, hx, ?_⟩
  have hr := rd68_of hx
  have ho : B.open_ id = if x.f2 = true then (0, 33) else ((i : Int), 0) := by
    unfold Bk.open_
    rw [if_neg c0, e, hr]
  by_cases c1 : x.f2 = true
  · rw [if_pos c1] at ho
    exact .inl ⟨c1, by unfold Bk.Amend; rw [ho, if_neg (by decide)]⟩
  rw [if_neg c1] at ho
  refine .inr ⟨by simpa using c1, ?_⟩
  by_cases c2 : c < 1
  · exact .inl ⟨c2, by unfold Bk.Amend; rw [ho, if_pos rfl, if_pos c2]⟩
  refine .inr ⟨c2, ?_⟩
  by_cases c3 : c > 1000
  · exact .inl ⟨c3, by unfold Bk.Amend; rw [ho, if_pos rfl, if_neg c2, if_pos c3]⟩
  refine .inr ⟨c3, ?_⟩
  by_cases c4 : (x.f1.length : Int) > wrap64 (c + x.f0.f7)
  · exact .inl ⟨c4, by unfold Bk.Amend; rw [ho, if_pos rfl, if_neg c2, if_neg c3, hr, if_pos c4]⟩
  refine .inr ⟨c4, ?_⟩
  have h : B.Amend id c = ({ B with es := B.es.set i { x with f0 := { x.f0 with f6 := c } } }, 0) := by
    unfold Bk.Amend
    rw [ho, if_pos rfl, if_neg c2, if_neg c3, hr, if_neg c4]
    rfl
  rw [h]
  exact ⟨rfl, all_set i _⟩
theorem shut_ways (B : Bk) (id : Int) : (B.find id < 0 ∧ B.Close id = (B, 7)) ∨ ∃ (i : Nat) (x : S68), B.find id = (i : Int) ∧ B.es[i]? = some x ∧
    ((x.f2 = true ∧ B.Close id = (B, 33)) ∨ (x.f2 = false ∧ (((B.stat x).f2.length < x.f1.length ∧ B.Close id = (B, 13)) ∨ (¬ (B.stat x).f2.length < x.f1.length ∧
      ((((B.stat x).f2.length : Int) < wrap64 (x.f0.f6 - x.f0.f8) ∧ B.Close id = (B, 29)) ∨ (¬ ((B.stat x).f2.length : Int) < wrap64 (x.f0.f6 - x.f0.f8) ∧ (B.Close id).2 = 0 ∧ (B.Close id).1.all = B.all.set i { B.stat x with f3 := true })))))) := by
  by_cases c0 : B.find id < 0
  · refine .inl ⟨c0, ?_⟩
    unfold Bk.Close Bk.open_
    rw [if_pos c0, if_neg (by decide)]
  refine .inr ?_
  obtain ⟨i, x, e, hx, _⟩ := find_is c0
  refine ⟨i, x, e, hx, ?_⟩
  have hr := rd68_of hx
  have ho : B.open_ id = if x.f2 = true then (0, 33) else ((i : Int), 0) := by
    unfold Bk.open_
    rw [if_neg c0, e, hr]
  by_cases c1 : x.f2 = true
  · rw [if_pos c1] at ho
    exact .inl ⟨c1, by unfold Bk.Close; rw [ho, if_neg (by decide)]⟩
  rw [if_neg c1] at ho
  refine .inr ⟨by simpa using c1, ?_⟩
  by_cases c2 : (shipL B.asg x.f1).length < x.f1.length
  · exact .inl ⟨c2, by unfold Bk.Close; rw [ho, if_pos rfl, hr, if_pos c2]⟩
  refine .inr ⟨c2, ?_⟩
  by_cases c3 : ((shipL B.asg x.f1).length : Int) < wrap64 (x.f0.f6 - x.f0.f8)
  · exact .inl ⟨c3, by unfold Bk.Close; rw [ho, if_pos rfl, hr, if_neg c2, if_pos c3]⟩
  refine .inr ⟨c3, ?_⟩
  have h : B.Close id = ({ B with es := B.es.set i { x with f2 := true } }, 0) := by
    unfold Bk.Close
    rw [ho, if_pos rfl, hr, if_neg c2, if_neg c3]
    rfl
  rw [h]
  exact ⟨rfl, all_set i _⟩
theorem assign_ways {B : Bk} {T : Nat} (hi : B.Inv T) (id n : Int) : (B.find id < 0 ∧ B.Assign id n = (B, 7)) ∨ ∃ (i : Nat) (x : S68), B.find id = (i : Int) ∧ B.es[i]? = some x ∧
    ((x.f2 = true ∧ B.Assign id n = (B, 33)) ∨ (x.f2 = false ∧ ((n < 1 ∧ B.Assign id n = (B, 1)) ∨ (¬ n < 1 ∧ ((n > 1000000 ∧ B.Assign id n = (B, 1)) ∨ (¬ n > 1000000 ∧
      ((B.of n ≥ 0 ∧ B.Assign id n = (B, 6)) ∨ (¬ B.of n ≥ 0 ∧
        (((x.f1.length : Int) ≥ wrap64 (x.f0.f6 + x.f0.f7) ∧ B.Assign id n = (B, 32)) ∨ (¬ (x.f1.length : Int) ≥ wrap64 (x.f0.f6 + x.f0.f7) ∧ (B.Assign id n).2 = 0 ∧ (B.Assign id n).1.all = B.all.set i { B.stat x with f1 := x.f1 ++ [n] })))))))))) := by
  by_cases c0 : B.find id < 0
  · refine .inl ⟨c0, ?_⟩
    unfold Bk.Assign Bk.open_
    rw [if_pos c0, if_neg (by decide)]
  refine .inr ?_
  obtain ⟨i, x, e, hx, _⟩ := find_is c0
  refine ⟨i, x, e, hx, ?_⟩
  have hr := rd68_of hx
  have ho : B.open_ id = if x.f2 = true then (0, 33) else ((i : Int), 0) := by
    unfold Bk.open_
    rw [if_neg c0, e, hr]
  by_cases c1 : x.f2 = true
  · rw [if_pos c1] at ho
    exact .inl ⟨c1, by unfold Bk.Assign; rw [ho, if_neg (by decide)]⟩
  rw [if_neg c1] at ho
  refine .inr ⟨by simpa using c1, ?_⟩
  by_cases c2 : n < 1
  · exact .inl ⟨c2, by unfold Bk.Assign; rw [ho, if_pos rfl, if_pos c2]⟩
  refine .inr ⟨c2, ?_⟩
  by_cases c3 : n > 1000000
  · exact .inl ⟨c3, by unfold Bk.Assign; rw [ho, if_pos rfl, if_neg c2, if_pos c3]⟩
  refine .inr ⟨c3, ?_⟩
  rcases of_find hi (n := n) with ⟨f1, _, f2⟩ | ⟨j, z, s, f1, _, _, f2⟩
  · refine .inr ⟨by omega, ?_⟩
    by_cases c4 : (x.f1.length : Int) ≥ wrap64 (x.f0.f6 + x.f0.f7)
    · exact .inl ⟨c4, by unfold Bk.Assign; rw [ho, if_pos rfl, if_neg c2, if_neg c3, f2, if_neg (by simp), hr, if_pos c4]⟩
    refine .inr ⟨c4, ?_⟩
    have h : B.Assign id n = (⟨B.es.set i { x with f1 := x.f1 ++ [n] }, B.n + 1, Plm.plUpd B.asg n (some ((i : Int), false))⟩, 0) := by
      unfold Bk.Assign
      rw [ho, if_pos rfl, if_neg c2, if_neg c3, f2, if_neg (by simp), hr, if_neg c4]
      rfl
    have hno : ∀ (j : Nat) (z : S68), B.es[j]? = some z → n ∉ z.f1 := fun j z hz hm => by
      obtain ⟨s, hs⟩ := (hi.ent j z hz).fwd n hm
      rw [f2] at hs
      cases hs
    rw [h]
    refine ⟨rfl, all_one hx rfl ?_ (fun j z hne hz => ?_)⟩
    · unfold Bk.stat
      have : shipL (Plm.plUpd B.asg n (some ((i : Int), false))) (x.f1 ++ [n]) = shipL B.asg x.f1 := by
        have h1 : shipL (Plm.plUpd B.asg n (some ((i : Int), false))) (x.f1 ++ [n]) = shipL (Plm.plUpd B.asg n (some ((i : Int), false))) x.f1 ++ shipL (Plm.plUpd B.asg n (some ((i : Int), false))) [n] := List.filter_append _ _
        have h2 : shipL (Plm.plUpd B.asg n (some ((i : Int), false))) [n] = [] := by
          unfold shipL
          rw [List.filter_cons, if_neg (by unfold Plm.plUpd; rw [if_pos rfl]; simp)]
          rfl
        rw [h1, h2, List.append_nil, shipL_far (hno i x hx)]
      rw [this]
    · unfold Bk.stat
      rw [shipL_far (hno j z hz)]
  · exact .inl ⟨by omega, by unfold Bk.Assign; rw [ho, if_pos rfl, if_neg c2, if_neg c3, f2, if_pos (show (some ((j : Int), s)).isSome = true from rfl)]⟩
theorem ship_mem {B : Bk} {T : Nat} (hi : B.Inv T) {i : Nat} {x : S68} {n : Int} {s : Bool} (hm : n ∈ x.f1) (ha : B.asg n = some ((i : Int), s)) : n ∈ (B.stat x).f2 ↔ s = true := by
  show n ∈ shipL B.asg x.f1 ↔ _
  unfold shipL
  rw [List.mem_filter, ha]
  exact ⟨fun h => h.2, fun h => ⟨hm, h⟩⟩
theorem release_ways {B : Bk} {T : Nat} (hi : B.Inv T) (n : Int) : (B.of n < 0 ∧ B.Release n = (B, 7)) ∨ ∃ (i : Nat) (x : S68), B.of n = (i : Int) ∧ B.es[i]? = some x ∧
    ((n ∈ (B.stat x).f2 ∧ B.Release n = (B, 34)) ∨ (n ∉ (B.stat x).f2 ∧ (B.Release n).2 = 0 ∧ (B.Release n).1.all = B.all.set i { B.stat x with f1 := delR n x.f1 })) := by
  rcases of_find hi (n := n) with ⟨f1, f2, f3⟩ | ⟨i, x, s, f1, hx, hm, f2⟩
  · exact .inl ⟨f1, by unfold Bk.Release; rw [f2, if_neg (by decide)]⟩
  refine .inr ⟨i, x, f1, hx, ?_⟩
  have hs := ship_mem hi hm f2
  cases s with
  | true => exact .inl ⟨hs.2 rfl, by unfold Bk.Release; rw [held_of f2, if_pos rfl, if_neg (by decide)]⟩
  | false =>
    refine .inr ⟨fun h => (by cases hs.1 h), ?_⟩
    have h : B.Release n = (⟨B.es.set i { x with f1 := delR n x.f1 }, B.n, Plm.plUpd B.asg n none⟩, 0) := by
      have hh : B.held n = ((i : Int), 0) := by rw [held_of f2]; rfl
      unfold Bk.Release
      rw [hh, if_pos rfl]
      simp only
      rw [rd68_of hx]
      rfl
    rw [h]
    refine ⟨rfl, all_one hx rfl ?_ (fun j z hne hz => ?_)⟩
    · unfold Bk.stat
      have : shipL (Plm.plUpd B.asg n none) (delR n x.f1) = shipL B.asg x.f1 := by
        rw [shipL_far (fun hq => (mem_delR.1 hq).2 rfl)]
        unfold shipL delR isR
        rw [List.filter_filter]
        refine List.filter_congr fun q hq => ?_
        by_cases e : q = n
        · subst e
          rw [f2]
          rfl
        · have : (q == n) = false := beq_eq_false_iff_ne.2 e
          rw [this]
          simp
      rw [this]
    · unfold Bk.stat
      rw [shipL_far (stat_far hi f2 hne hz)]
theorem ship_ways {B : Bk} {T : Nat} (hi : B.Inv T) (n : Int) : (B.of n < 0 ∧ B.Ship n = (B, 7)) ∨ ∃ (i : Nat) (x : S68), B.of n = (i : Int) ∧ B.es[i]? = some x ∧
    ((n ∈ (B.stat x).f2 ∧ B.Ship n = (B, 34)) ∨ (n ∉ (B.stat x).f2 ∧ (B.Ship n).2 = 0 ∧ (B.Ship n).1.all = B.all.set i { B.stat x with f2 := x.f1.filter fun q => q == n || decide (q ∈ (B.stat x).f2) })) := by
  rcases of_find hi (n := n) with ⟨f1, f2, f3⟩ | ⟨i, x, s, f1, hx, hm, f2⟩
  · exact .inl ⟨f1, by unfold Bk.Ship; rw [f2, if_neg (by decide)]⟩
  refine .inr ⟨i, x, f1, hx, ?_⟩
  have hs := ship_mem hi hm f2
  cases s with
  | true => exact .inl ⟨hs.2 rfl, (ship_no f2).1⟩
  | false =>
    refine .inr ⟨fun h => (by cases hs.1 h), ?_⟩
    have h := ship_of f2
    rw [h]
    have hset : B.es.set i x = B.es := by
      apply List.ext_getElem?
      intro j
      by_cases e : i = j
      · subst e
        rw [set_self hx, hx]
      · rw [set_other e]
    refine ⟨rfl, all_one hx hset.symm ?_ (fun j z hne hz => ?_)⟩
    · unfold Bk.stat
      have : shipL (Plm.plUpd B.asg n (some ((i : Int), true))) x.f1 = x.f1.filter fun q => q == n || decide (q ∈ shipL B.asg x.f1) := by
        unfold shipL
        refine List.filter_congr fun q hq => ?_
        unfold Plm.plUpd
        by_cases e : q = n
        · rw [if_pos e]
          simp [e]
        · have h1 : (q == n) = false := beq_eq_false_iff_ne.2 e
          have hd : decide (q ∈ List.filter (fun n => ((B.asg n).getD (0, false)).2) x.f1) = ((B.asg q).getD (0, false)).2 := by
            cases hb : ((B.asg q).getD (0, false)).2 with
            | true => exact decide_eq_true (List.mem_filter.2 ⟨hq, hb⟩)
            | false => exact decide_eq_false (fun h => by have h2 := (List.mem_filter.1 h).2; rw [hb] at h2; cases h2)
          rw [if_neg e, h1, hd, Bool.false_or]
      rw [this]
    · unfold Bk.stat
      rw [shipL_far (stat_far hi f2 hne hz)]
end Go.Proofs.Ythmhehfbepijgaa.Q
