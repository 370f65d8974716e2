/- The plain law of ShipFinds: both searches return the same, for every list of shipments and every roll. -/
import Derived.Test.YtegilakgfoglpaaSa
import Derived.Test.YtegilakgfoglpaaStShipFinds
namespace Go.Proofs.Ytegilakgfoglpaa.Pure
open Go.RowKit Go.Proofs.Ytegilakgfoglpaa.Opn Go.Proofs.Ytegilakgfoglpaa.Q Go.Proofs.Ytegilakgfoglpaa.Gd Go.Proofs.YtegilakgfoglpaaW.PrintWords Go.Proofs.Ytegilakgfoglpaa.Pl
theorem chkE_len {l : List S44} (h : chkE l = 0) : l.length ≤ 512 ∧ onesE l = 0 := by
  unfold chkE at h
  split at h
  · omega
  · rename_i c
    split at h
    · rename_i c0; exact ⟨by omega, c0⟩
    · rename_i c0; exact absurd h c0
theorem idxI_shift {α : Type} (p : α → Bool) (x : α) (t : List α) : idxI p (x :: t) = if p x = true then 0 else (if idxI p t ≥ 0 then idxI p t + 1 else -1) := by
  unfold idxI
  rw [List.findIdx?_cons]
  cases p x with
  | true => rfl
  | false =>
    cases h : List.findIdx? p t with
    | none => rfl
    | some i => simp
theorem find_l0 (l : List S44) (a : Int) (hl : l.length ≤ 512) (ho : ∀ x ∈ l, x.f2.length ≤ 512) : ∀ (post pre : List S44), l = pre ++ post → Ev (fun k => papermillref56_Find.l0 k l a (pre.length : Int)) (if idxI (hasR a) post ≥ 0 then ((pre.length : Int) + idxI (hasR a) post, 0) else (0, 7)) := by
  intro post
  induction post with
  | nil =>
    intro pre h
    exact Ev.step (fun k => papermillref56_Find.l0.eq_2 ..) (Ev.neg (nlt_end h) (Ev.c rfl))
  | cons x post ih =>
    intro pre h
    have hx := ho x (mem_at h)
    refine Ev.step (fun k => papermillref56_Find.l0.eq_2 ..) (Ev.pos (lt_at h) (Ev.pos (by omega) ?_))
    rw [rd44_at h, wrap_next h (by omega)]
    refine Ev.bind (in_eq x.f2 a (by omega)) ?_
    rw [idxI_shift]
    have ih := ih (pre ++ [x]) (app_one h)
    by_cases c : a ∈ x.f2
    · have hh : hasR a x = true := decide_eq_true c
      rw [if_pos hh]
      exact Ev.pos (decide_eq_true c) (Ev.c (by simp))
    · have hh : ¬ hasR a x = true := by unfold hasR; simpa using c
      rw [if_neg hh]
      refine Ev.neg (by simpa using c) ?_
      by_cases d : idxI (hasR a) post ≥ 0
      · rw [if_pos d] at ih ⊢
        rw [if_pos (by omega)]
        have e : (((pre ++ [x]).length : Int) + idxI (hasR a) post) = (pre.length : Int) + (idxI (hasR a) post + 1) := by simp; omega
        rw [e] at ih
        exact ih
      · rw [if_neg d] at ih ⊢
        rw [if_neg (by decide)]
        exact ih
theorem ShipFinds : ShipFinds_Pure := by
  intro l a hg _
  refine Ev.rounds ?_
  unfold papermilllaw56_ShipFinds.f
  have h63 : ∀ x ∈ l, x.f2.length ≤ 9223372036854775807 := fun x hx => (hg.2 x hx).2.2.1
  obtain ⟨b, hb⟩ := few_ev l
  refine Ev.bind hb ?_
  cases b with
  | false => exact Ev.neg (by decide) (Ev.bind awake_eq (Ev.c rfl))
  | true =>
    refine Ev.pos rfl ?_
    have key : ∃ r, Ev (fun k => ship_Find.f k l a) r ∧ Ev (fun k => papermillref56_Find.f k l a) r := by
      by_cases c : chkE l = 0
      · have hc := chkE_len c
        refine ⟨if idxI (hasR a) l ≥ 0 then (idxI (hasR a) l, 0) else (0, 7), ?_, ?_⟩
        · unfold ship_Find.f
          refine Ev.bind (check_eq l h63) (Ev.pos c ?_)
          exact Ev.iteE (fun _ => Ev.c rfl) fun _ => Ev.c rfl
        · unfold papermillref56_Find.f
          have := find_l0 l a hc.1 (fun x hx => oneE_len (onesE_each hc.2 x hx)) l [] rfl
          simp only [List.length_nil, Int.natCast_zero, Int.zero_add] at this
          exact Ev.bind (rcheck_eq l h63) (Ev.pos c this)
      · refine ⟨(0, chkE l), ?_, ?_⟩
        · unfold ship_Find.f
          exact Ev.bind (check_eq l h63) (Ev.neg c (Ev.c rfl))
        · unfold papermillref56_Find.f
          exact Ev.bind (rcheck_eq l h63) (Ev.neg c (Ev.c rfl))
    obtain ⟨r, h1, h2⟩ := key
    exact Ev.bind h1 (Ev.bind h2 (Ev.pos rfl (Ev.pos rfl (Ev.bind awake_eq (Ev.c rfl)))))
end Go.Proofs.Ytegilakgfoglpaa.Pure
