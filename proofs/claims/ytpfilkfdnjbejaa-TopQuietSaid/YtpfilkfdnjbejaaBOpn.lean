import Derived.Deep.Slices
import Derived.ChangeArms
import Derived.ChangeOld
import Derived.WideShapes
import Derived.Carry
import Derived.Below
import Derived.OpenShut
import Derived.Test.YtpfilkfdnjbejaaBWWords
import Derived.Test.YtpfilkfdnjbejaaBWLast
import Derived.Test.YtpfilkfdnjbejaaBWApart
import Derived.Test.YtpfilkfdnjbejaaBWFoot
import Derived.Test.YtpfilkfdnjbejaaBWShare
import Derived.Test.YtpfilkfdnjbejaaBWRepsOne
set_option linter.unusedVariables false
namespace Go.Proofs.Ytpfilkfdnjbejaa.Opn
open Go.ChangeShapes Go.WideShapes Go.RowKit Go.Proofs.YtpfilkfdnjbejaaW.PrintWords
structure Opens {α : Type} (P : Program) (d : Kd α) (t : TypeId) (good : α → Prop) : Prop where
  sz : P.cellsOf t = d.sz
  op : ∀ {H : Type} {enc : TypeId × Value → H} {W : World} {spare : Nat → Bool} {held : Bool} {fuel : Nat} {cs : List Value} {x : DataW H × List MemPlace},
    DataW.trod enc P W 0 spare held fuel t cs = some x → ∃ a, d.K W a cs ∧ good a
theorem Opens.imp {α : Type} {P : Program} {d : Kd α} {t : TypeId} {good good' : α → Prop} (h : Opens P d t good) (hg : ∀ a, good a → good' a) : Opens P d t good' :=
  ⟨h.sz, fun hx => let ⟨a, hk, ha⟩ := h.op hx; ⟨a, hk, hg a ha⟩⟩
theorem Opens.int {P : Program} {t : TypeId} (k : IntKind) (ht : P.underlying t = some (.int k)) (hc : P.cellsOf t = 1) : Opens P (Kd.int k) t (fun n => (Lit.int k n).wf = true) :=
  ⟨hc, fun h => by
    obtain ⟨n, rfl, _, hw⟩ := DataW.trod_int ht h
    exact ⟨n, rfl, hw⟩⟩
def In64 (n : Int) : Prop := -9223372036854775808 ≤ n ∧ n ≤ 9223372036854775807
def In16 (n : Int) : Prop := -32768 ≤ n ∧ n ≤ 32767
theorem in64_of {n : Int} (h : (Lit.int .i64 n).wf = true) : In64 n := bounds_i64 h
theorem in16_of {n : Int} (h : (Lit.int .i16 n).wf = true) : In16 n := by
  simp only [Lit.wf, Bool.and_eq_true, decide_eq_true_eq] at h
  exact h
theorem Opens.int64 {P : Program} {t : TypeId} (ht : P.underlying t = some (.int .i64)) (hc : P.cellsOf t = 1) : Opens P (Kd.int .i64) t In64 := (Opens.int .i64 ht hc).imp fun _ h => in64_of h
theorem Opens.int16 {P : Program} {t : TypeId} (ht : P.underlying t = some (.int .i16)) (hc : P.cellsOf t = 1) : Opens P (Kd.int .i16) t In16 := (Opens.int .i16 ht hc).imp fun _ h => in16_of h
theorem Opens.bool {P : Program} {t : TypeId} (ht : P.underlying t = some .bool) (hc : P.cellsOf t = 1) : Opens P Kd.bool t (fun _ => True) :=
  ⟨hc, fun h => by
    obtain ⟨b, rfl, _⟩ := DataW.trod_bool ht h
    exact ⟨b, rfl, trivial⟩⟩
structure OpensFs {β : Type} (P : Program) (d : Kd β) (fs : List Field) (off : Nat) (good : β → Prop) : Prop where
  op : ∀ {H : Type} {enc : TypeId × Value → H} {W : World} {spare : Nat → Bool} {held : Bool} {fuel : Nat} {cs : List Value} {xs : List (DataW H × List MemPlace)},
    xs.length = fs.length → (∀ (i : Nat) (f : Field), fs[i]? = some f → DataW.trod enc P W 0 spare held fuel f.type ((cs.drop f.offset).take (P.cellsOf f.type)) = xs[i]?) →
    ∃ a, d.K W a ((cs.drop off).take d.sz) ∧ good a
theorem OpensFs.one {α : Type} {P : Program} {d : Kd α} {f : Field} {good : α → Prop} (h : Opens P d f.type good) : OpensFs P d [f] f.offset good :=
  ⟨fun {H enc W spare held fuel cs xs} hl hx => by
    have h0 := hx 0 f rfl
    match xs, hl with
    | [x], _ =>
      obtain ⟨a, hk, hg⟩ := h.op (by simpa using h0)
      rw [h.sz] at hk
      exact ⟨a, hk, hg⟩⟩
theorem OpensFs.cons {α β : Type} {P : Program} {d : Kd α} {e : Kd β} {f : Field} {fs : List Field} {off : Nat} {good : α → Prop} {good' : β → Prop} (h : Opens P d f.type good) (hs : OpensFs P e fs off good') (ho : f.offset + d.sz = off) :
    OpensFs P (Kd.pair d e) (f :: fs) f.offset (fun x => good x.1 ∧ good' x.2) :=
  ⟨fun {H enc W spare held fuel cs xs} hl hx => by
    match xs, hl with
    | x :: xs, hl =>
      have h0 := hx 0 f rfl
      obtain ⟨a, hk, hg⟩ := h.op (by simpa using h0)
      rw [h.sz] at hk
      obtain ⟨b, hk', hg'⟩ := hs.op (enc := enc) (W := W) (spare := spare) (held := held) (fuel := fuel) (cs := cs) (xs := xs) (by simpa using hl) (fun i g hi => by simpa using hx (i + 1) g (by simpa using hi))
      refine ⟨(a, b), ⟨_, _, ?_, hk, hk'⟩, hg, hg'⟩
      show (cs.drop f.offset).take (d.sz + e.sz) = _
      rw [List.take_add, List.drop_drop, ← ho]⟩
theorem Opens.struct {α β : Type} {P : Program} {d : Kd β} {t : TypeId} {fs : Array Field} {good : β → Prop} (f : α → β) (g : β → α) (hfg : ∀ y, f (g y) = y) (ht : P.underlying t = some (.struct fs)) (hc : P.cellsOf t = d.sz)
    (h : OpensFs P d fs.toList 0 good) : Opens P (Kd.iso d f) t (fun x => good (f x)) :=
  ⟨hc, fun {H enc W spare held fuel cs x} hx => by
    obtain ⟨xs, n, _, _, hlen, hxs, hf⟩ := DataW.trod_struct ht hx
    obtain ⟨b, hk, hg⟩ := h.op (enc := enc) (W := W) (spare := spare) (held := held) (fuel := n) (cs := cs) (xs := xs) (by simpa using hxs) (fun i f' hi => hf i f' (by simpa using hi))
    rw [List.drop_zero, List.take_of_length_le (by omega)] at hk
    refine ⟨g b, ?_, by show good (f (g b)); rw [hfg]; exact hg⟩
    show d.K W (f (g b)) cs
    rw [hfg]
    exact hk⟩
def GoodL {α : Type} (good : α → Prop) (xs : List α) : Prop := xs.length ≤ 9223372036854775807 ∧ ∀ x ∈ xs, good x
theorem Opens.slice {α : Type} {P : Program} {d : Kd α} {t e : TypeId} {good : α → Prop} (h : Opens P d e good) (ht : P.underlying t = some (.slice e)) (hc : P.cellsOf t = 1) : Opens P (Kd.slice e d) t (GoodL good) :=
  ⟨hc, fun {H enc W spare held fuel cs x} hx => by
    rcases Go.Deep.open_slice ht hx with ⟨rfl, _⟩ | ⟨a, len, cap, m, n, D, Pl, rfl, _, hl, hm, hmm, _, hel⟩
    · exact ⟨[], ⟨none, 0, rfl, Nat.le_refl _, Kd.C_nil d W⟩, by simp, fun x hx => by cases hx⟩
    · have hle : len ≤ m := by rw [hmm]; split <;> omega
      have hmax : len ≤ 9223372036854775807 := by unfold maxLen at hm; omega
      have hex : ∀ i, i < len → ∃ y : α, ∃ cs', W.cells? 0 (a.add (i * P.cellsOf e)) (P.cellsOf e) = some cs' ∧ d.K W y cs' ∧ good y := fun i hi => by
        obtain ⟨cs', h1, h2⟩ := hel i (by omega)
        obtain ⟨y, hk, hg⟩ := h.op h2
        exact ⟨y, cs', h1, hk, hg⟩
      have hall : ∀ k, k ≤ len → ∃ xs : List α, xs.length = k ∧ ∀ i y, xs[i]? = some y → ∃ cs', W.cells? 0 (a.add (i * P.cellsOf e)) (P.cellsOf e) = some cs' ∧ d.K W y cs' ∧ good y := by
        intro k
        induction k with
        | zero => exact fun _ => ⟨[], rfl, fun i y hi => by simp at hi⟩
        | succ k ih =>
          intro hk
          obtain ⟨xs, hxs, hi⟩ := ih (by omega)
          obtain ⟨y, hy⟩ := hex k (by omega)
          refine ⟨xs ++ [y], by simp [hxs], fun i z hz => ?_⟩
          by_cases hik : i < xs.length
          · rw [List.getElem?_append_left hik] at hz
            exact hi i z hz
          · rw [List.getElem?_append_right (by omega)] at hz
            have : i - xs.length = 0 := by
              rcases Nat.eq_zero_or_pos (i - xs.length) with h0 | h0
              · exact h0
              · rw [List.getElem?_eq_none (by simp; omega)] at hz; cases hz
            rw [this] at hz
            simp at hz
            subst hz
            have : i = k := by omega
            subst this
            exact hy
      obtain ⟨xs, hxs, hi⟩ := hall len (Nat.le_refl _)
      subst hxs
      refine ⟨xs, ⟨some a, cap, rfl, hl, rfl, hmax, fun _ => ⟨a, rfl, fun j p hp => ?_⟩⟩, hmax, fun x hx => ?_⟩
      · obtain ⟨cs', h1, h2, _⟩ := hi j p hp
        obtain ⟨_, hlen, hcell⟩ := World.cells?_some h1
        refine ⟨cs', d.K_len h2, h2, fun i u hu => ?_⟩
        have hil : i < P.cellsOf e := by
          rcases Nat.lt_or_ge i (P.cellsOf e) with h' | h'
          · exact h'
          · rw [List.getElem?_eq_none (by omega)] at hu; cases hu
        have h3 := hcell i hil
        rw [hu, Go.Deep.add_add, h.sz] at h3
        exact h3
      · obtain ⟨i, hi', rfl⟩ := List.mem_iff_getElem.1 hx
        obtain ⟨_, _, _, hg⟩ := hi i _ (List.getElem?_eq_getElem hi')
        exact hg⟩
section
variable {α : Type} {H : Type} {enc : TypeId × Value → H} {P : Program} {W : World} {r : Reach} {base : Nat} {spare : Nat → Bool} {held : Bool} {t : TypeId} {v : Value} {x : DataW H} {ps : List MemPlace} {d : Kd α} {good : α → Prop}
theorem Opens.argS {e : TypeId} (h : Opens P d e good) (ht : P.underlying t = some (.slice e)) (hc : P.cellsOf t = 1) (hval : Value.okWide P W r base t v) (hd : DataW.Trod enc P W 0 spare held t v x ps) :
    ∃ A c l, v = .slice A l.length c ∧ l.length ≤ c ∧ d.C W A l.length l ∧ GoodL good l := by
  obtain ⟨a0, len, cap, rfl⟩ := okWide_slice ht hval
  obtain ⟨fuel, hf⟩ := hd
  obtain ⟨l, ⟨A, c, he, hl, hC⟩, hg⟩ := (Opens.slice h ht hc).op hf
  have he' : [Value.slice a0 len cap] = [.slice A l.length c] := he
  simp only [List.cons.injEq, and_true] at he'
  exact ⟨A, c, l, he', hl, hC, hg⟩
theorem Opens.argT {fs : Array Field} (h : Opens P d t good) (ht : P.underlying t = some (.struct fs)) (hval : Value.okWide P W r base t v) (hd : DataW.Trod enc P W 0 spare held t v x ps) :
    ∃ cs a, v = .agg (List.toArray cs) ∧ d.K W a cs ∧ good a := by
  obtain ⟨cs, rfl, _⟩ := okWide_struct ht hval
  obtain ⟨fuel, hf⟩ := hd
  obtain ⟨a, hK, hg⟩ := h.op hf
  exact ⟨cs.toList, a, by simp, hK, hg⟩
end
end Go.Proofs.Ytpfilkfdnjbejaa.Opn
