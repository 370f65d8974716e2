/-
  No cell of these rows narrows 'for every input' (looked for: loops, veiled, ifaces, maps, wideKeys, modest, calm, conditions, laid).
  DERIVED. THE GIVEN ROWS OF THIS SEAT. 9 by the template 'for every input the law returns true; each argument reads behind the call as it read before'; 0 by the template 'total and deterministic' (their statements: YtaldnhlojllanaaTotals.lean).
  GIVEN WITH THE SEED: the statements are not yours to turn. If you find one false, say at which input.
  Laid BY PROGRAM, IN A SANDBOX (cutbox-rows.mjs): the forced cells as the released guide's own fill.sh prints them over the translation b268edc6197cb53c… (all of the seat's roots in one cut). By AI agents, Wed Nov 11 2026. No macro, syntax, notation, axiom, sorry.
-/
import Derived.Test.YtaldnhlojllanaaChecked
import GoSem.Claim
import GoSem.ClaimJoined
import GoSem.ClaimMapViews
import Derived.JoinedTies
import Derived.KernelRfl
namespace Go.Proofs.Ytaldnhlojllanaa
/- THE CELL 'sum', in the pinned program and in every row, IS THE sha256 OF THE DUMP (.gsa) THAT YtaldnhlojllanaaProg.lean LOADS. Nothing in Lean hashes anything: it is a label: what it is worth is what the hold of that sum in a sandbox is worth. -/
noncomputable def Try.pinned : Pinned := { name := "ytaldnhlojllanaa", sum := "b268edc6197cb53cc1bda258d937bbbe190f0f0af8318d19e965a33c6ba2e9c1", checked := Try.checked }
namespace Rows
def none {H : Type} : Left H := { results := [], args := [] }

/-- 'papermilllaw10.GraphChecks': WHATEVER THE INPUT: true; the input reads as it did. -/
def graphChecksSpec : ChangeSpec := { name := "graphChecks", fn := fun _ => fun
  | [d] => { results := [.lit (.bool true)], args := [d] }
  | _ => none }
def graphChecksRow : OpenClaim := { program := "ytaldnhlojllanaa", sum := "b268edc6197cb53cc1bda258d937bbbe190f0f0af8318d19e965a33c6ba2e9c1", func := "papermill/papermilllaw10.GraphChecks", spec := "graphChecks", unfollowed := true, recurses := true, apart := false }
def GraphChecksSaid : Prop := graphChecksRow.holds Try.pinned (OpenSpec.ofChange graphChecksSpec)

/-- ITS FALSE NEIGHBOUR: 'it returns false'. Refute it at one input. -/
def graphChecksWrong : ChangeSpec := { name := "graphChecks", fn := fun _ => fun
  | [d] => { results := [.lit (.bool false)], args := [d] }
  | _ => none }
def GraphChecksWrongFalsely : Prop := graphChecksRow.holds Try.pinned (OpenSpec.ofChange graphChecksWrong)

/-- 'papermilllaw10.GraphOrders': WHATEVER THE INPUT: true; the input reads as it did. -/
def graphOrdersSpec : ChangeSpec := { name := "graphOrders", fn := fun _ => fun
  | [d] => { results := [.lit (.bool true)], args := [d] }
  | _ => none }
def graphOrdersRow : OpenClaim := { program := "ytaldnhlojllanaa", sum := "b268edc6197cb53cc1bda258d937bbbe190f0f0af8318d19e965a33c6ba2e9c1", func := "papermill/papermilllaw10.GraphOrders", spec := "graphOrders", unfollowed := true, recurses := true, apart := false }
def GraphOrdersSaid : Prop := graphOrdersRow.holds Try.pinned (OpenSpec.ofChange graphOrdersSpec)

/-- ITS FALSE NEIGHBOUR: 'it returns false'. Refute it at one input. -/
def graphOrdersWrong : ChangeSpec := { name := "graphOrders", fn := fun _ => fun
  | [d] => { results := [.lit (.bool false)], args := [d] }
  | _ => none }
def GraphOrdersWrongFalsely : Prop := graphOrdersRow.holds Try.pinned (OpenSpec.ofChange graphOrdersWrong)

/-- 'papermilllaw10.GraphCycles': WHATEVER THE INPUT: true; the input reads as it did. -/
def graphCyclesSpec : ChangeSpec := { name := "graphCycles", fn := fun _ => fun
  | [d] => { results := [.lit (.bool true)], args := [d] }
  | _ => none }
def graphCyclesRow : OpenClaim := { program := "ytaldnhlojllanaa", sum := "b268edc6197cb53cc1bda258d937bbbe190f0f0af8318d19e965a33c6ba2e9c1", func := "papermill/papermilllaw10.GraphCycles", spec := "graphCycles", unfollowed := true, recurses := true, apart := false }
def GraphCyclesSaid : Prop := graphCyclesRow.holds Try.pinned (OpenSpec.ofChange graphCyclesSpec)

/-- ITS FALSE NEIGHBOUR: 'it returns false'. Refute it at one input. -/
def graphCyclesWrong : ChangeSpec := { name := "graphCycles", fn := fun _ => fun
  | [d] => { results := [.lit (.bool false)], args := [d] }
  | _ => none }
def GraphCyclesWrongFalsely : Prop := graphCyclesRow.holds Try.pinned (OpenSpec.ofChange graphCyclesWrong)

/-- 'papermilllaw10.GraphReaches': WHATEVER THE INPUT: true; the input reads as it did. -/
def graphReachesSpec : ChangeSpec := { name := "graphReaches", fn := fun _ => fun
  | [d1, d2] => { results := [.lit (.bool true)], args := [d1, d2] }
  | _ => none }
def graphReachesRow : OpenClaim := { program := "ytaldnhlojllanaa", sum := "b268edc6197cb53cc1bda258d937bbbe190f0f0af8318d19e965a33c6ba2e9c1", func := "papermill/papermilllaw10.GraphReaches", spec := "graphReaches", unfollowed := true, recurses := true, apart := false }
def GraphReachesSaid : Prop := graphReachesRow.holds Try.pinned (OpenSpec.ofChange graphReachesSpec)

/-- ITS FALSE NEIGHBOUR: 'it returns false'. Refute it at one input. -/
def graphReachesWrong : ChangeSpec := { name := "graphReaches", fn := fun _ => fun
  | [d1, d2] => { results := [.lit (.bool false)], args := [d1, d2] }
  | _ => none }
def GraphReachesWrongFalsely : Prop := graphReachesRow.holds Try.pinned (OpenSpec.ofChange graphReachesWrong)

/-- 'papermilllaw10.GraphLevels': WHATEVER THE INPUT: true; the input reads as it did. -/
def graphLevelsSpec : ChangeSpec := { name := "graphLevels", fn := fun _ => fun
  | [d] => { results := [.lit (.bool true)], args := [d] }
  | _ => none }
def graphLevelsRow : OpenClaim := { program := "ytaldnhlojllanaa", sum := "b268edc6197cb53cc1bda258d937bbbe190f0f0af8318d19e965a33c6ba2e9c1", func := "papermill/papermilllaw10.GraphLevels", spec := "graphLevels", unfollowed := true, recurses := true, apart := false }
def GraphLevelsSaid : Prop := graphLevelsRow.holds Try.pinned (OpenSpec.ofChange graphLevelsSpec)

/-- ITS FALSE NEIGHBOUR: 'it returns false'. Refute it at one input. -/
def graphLevelsWrong : ChangeSpec := { name := "graphLevels", fn := fun _ => fun
  | [d] => { results := [.lit (.bool false)], args := [d] }
  | _ => none }
def GraphLevelsWrongFalsely : Prop := graphLevelsRow.holds Try.pinned (OpenSpec.ofChange graphLevelsWrong)

/-- 'papermilllaw10.GraphOrder': WHATEVER THE INPUT: true; the input reads as it did. -/
def graphOrderSpec : ChangeSpec := { name := "graphOrder", fn := fun _ => fun
  | [d] => { results := [.lit (.bool true)], args := [d] }
  | _ => none }
def graphOrderRow : OpenClaim := { program := "ytaldnhlojllanaa", sum := "b268edc6197cb53cc1bda258d937bbbe190f0f0af8318d19e965a33c6ba2e9c1", func := "papermill/papermilllaw10.GraphOrder", spec := "graphOrder", unfollowed := true, recurses := true, apart := false }
def GraphOrderSaid : Prop := graphOrderRow.holds Try.pinned (OpenSpec.ofChange graphOrderSpec)

/-- ITS FALSE NEIGHBOUR: 'it returns false'. Refute it at one input. -/
def graphOrderWrong : ChangeSpec := { name := "graphOrder", fn := fun _ => fun
  | [d] => { results := [.lit (.bool false)], args := [d] }
  | _ => none }
def GraphOrderWrongFalsely : Prop := graphOrderRow.holds Try.pinned (OpenSpec.ofChange graphOrderWrong)

/-- 'papermilllaw10.GraphHeights': WHATEVER THE INPUT: true; the input reads as it did. -/
def graphHeightsSpec : ChangeSpec := { name := "graphHeights", fn := fun _ => fun
  | [d] => { results := [.lit (.bool true)], args := [d] }
  | _ => none }
def graphHeightsRow : OpenClaim := { program := "ytaldnhlojllanaa", sum := "b268edc6197cb53cc1bda258d937bbbe190f0f0af8318d19e965a33c6ba2e9c1", func := "papermill/papermilllaw10.GraphHeights", spec := "graphHeights", unfollowed := true, recurses := true, apart := false }
def GraphHeightsSaid : Prop := graphHeightsRow.holds Try.pinned (OpenSpec.ofChange graphHeightsSpec)

/-- ITS FALSE NEIGHBOUR: 'it returns false'. Refute it at one input. -/
def graphHeightsWrong : ChangeSpec := { name := "graphHeights", fn := fun _ => fun
  | [d] => { results := [.lit (.bool false)], args := [d] }
  | _ => none }
def GraphHeightsWrongFalsely : Prop := graphHeightsRow.holds Try.pinned (OpenSpec.ofChange graphHeightsWrong)

/-- 'papermilllaw10.GraphReversed': WHATEVER THE INPUT: true; the input reads as it did. -/
def graphReversedSpec : ChangeSpec := { name := "graphReversed", fn := fun _ => fun
  | [d1, d2, d3] => { results := [.lit (.bool true)], args := [d1, d2, d3] }
  | _ => none }
def graphReversedRow : OpenClaim := { program := "ytaldnhlojllanaa", sum := "b268edc6197cb53cc1bda258d937bbbe190f0f0af8318d19e965a33c6ba2e9c1", func := "papermill/papermilllaw10.GraphReversed", spec := "graphReversed", unfollowed := true, recurses := true, apart := false }
def GraphReversedSaid : Prop := graphReversedRow.holds Try.pinned (OpenSpec.ofChange graphReversedSpec)

/-- ITS FALSE NEIGHBOUR: 'it returns false'. Refute it at one input. -/
def graphReversedWrong : ChangeSpec := { name := "graphReversed", fn := fun _ => fun
  | [d1, d2, d3] => { results := [.lit (.bool false)], args := [d1, d2, d3] }
  | _ => none }
def GraphReversedWrongFalsely : Prop := graphReversedRow.holds Try.pinned (OpenSpec.ofChange graphReversedWrong)

/-- 'papermilllaw10.GraphMore': WHATEVER THE INPUT: true; the input reads as it did. -/
def graphMoreSpec : ChangeSpec := { name := "graphMore", fn := fun _ => fun
  | [d1, d2, d3] => { results := [.lit (.bool true)], args := [d1, d2, d3] }
  | _ => none }
def graphMoreRow : OpenClaim := { program := "ytaldnhlojllanaa", sum := "b268edc6197cb53cc1bda258d937bbbe190f0f0af8318d19e965a33c6ba2e9c1", func := "papermill/papermilllaw10.GraphMore", spec := "graphMore", unfollowed := true, recurses := true, apart := false }
def GraphMoreSaid : Prop := graphMoreRow.holds Try.pinned (OpenSpec.ofChange graphMoreSpec)

/-- ITS FALSE NEIGHBOUR: 'it returns false'. Refute it at one input. -/
def graphMoreWrong : ChangeSpec := { name := "graphMore", fn := fun _ => fun
  | [d1, d2, d3] => { results := [.lit (.bool false)], args := [d1, d2, d3] }
  | _ => none }
def GraphMoreWrongFalsely : Prop := graphMoreRow.holds Try.pinned (OpenSpec.ofChange graphMoreWrong)

/- THE SECOND FORM. 'bulk': how many values and letters a reading holds, each counted each time it is reached (what is shared counts as often as it is met; a slice's spare places count too). A statement '..UptoSaid' is the law's where the arguments, and the package variables that the reading takes, are together of bulk at most 1048576: NARROWER than '..Said'. Prove '..Said' where nothing that the law and all that it calls make is longer than what came in: it says more and counts as full. Else prove '..UptoSaid'. A law counts once. -/
mutual
def uptoBulk {H : Type} : DataW H → Nat
  | .lit (.string bytes) => bytes.length + 1
  | .lit _ => 1
  | .nil => 1
  | .ptr d => uptoBulk d + 1
  | .slice elems spare => uptoBulkAll elems + uptoBulkAll spare + 1
  | .agg parts => uptoBulkAll parts + 1
  | .iface _ d => uptoBulk d + 1
  | .map entries => uptoBulkEntries entries + 1
  | .held _ => 1
def uptoBulkAll {H : Type} : List (DataW H) → Nat
  | [] => 0
  | d :: r => uptoBulk d + uptoBulkAll r
def uptoBulkEntries {H : Type} : List (Lit × DataW H) → Nat
  | [] => 0
  | x :: r => uptoBulkEntry x + uptoBulkEntries r
def uptoBulkEntry {H : Type} : Lit × DataW H → Nat
  | (.string bytes, d) => bytes.length + uptoBulk d + 1
  | (_, d) => uptoBulk d + 1
 end
def uptoSmall : (H : Type) → List (DataW H) → Bool := fun _ ds => decide (uptoBulkAll ds ≤ 1048576)
def OpenSpec.upto (s : _root_.Go.ChangeSpec) : _root_.Go.OpenSpec := { _root_.Go.OpenSpec.ofChange s with cond := some uptoSmall }

/-- 'papermilllaw10.GraphChecks', WHERE WHAT IT READS IS OF BULK AT MOST 1048576: true; the input reads as it did. -/
def graphChecksUptoRow : OpenClaim := { program := "ytaldnhlojllanaa", sum := "b268edc6197cb53cc1bda258d937bbbe190f0f0af8318d19e965a33c6ba2e9c1", func := "papermill/papermilllaw10.GraphChecks", spec := "graphChecks", unfollowed := true, recurses := true, apart := false, narrowed := true }
def GraphChecksUptoSaid : Prop := graphChecksUptoRow.holds Try.pinned (OpenSpec.upto graphChecksSpec)

/-- 'papermilllaw10.GraphOrders', WHERE WHAT IT READS IS OF BULK AT MOST 1048576: true; the input reads as it did. -/
def graphOrdersUptoRow : OpenClaim := { program := "ytaldnhlojllanaa", sum := "b268edc6197cb53cc1bda258d937bbbe190f0f0af8318d19e965a33c6ba2e9c1", func := "papermill/papermilllaw10.GraphOrders", spec := "graphOrders", unfollowed := true, recurses := true, apart := false, narrowed := true }
def GraphOrdersUptoSaid : Prop := graphOrdersUptoRow.holds Try.pinned (OpenSpec.upto graphOrdersSpec)

/-- 'papermilllaw10.GraphCycles', WHERE WHAT IT READS IS OF BULK AT MOST 1048576: true; the input reads as it did. -/
def graphCyclesUptoRow : OpenClaim := { program := "ytaldnhlojllanaa", sum := "b268edc6197cb53cc1bda258d937bbbe190f0f0af8318d19e965a33c6ba2e9c1", func := "papermill/papermilllaw10.GraphCycles", spec := "graphCycles", unfollowed := true, recurses := true, apart := false, narrowed := true }
def GraphCyclesUptoSaid : Prop := graphCyclesUptoRow.holds Try.pinned (OpenSpec.upto graphCyclesSpec)

/-- 'papermilllaw10.GraphReaches', WHERE WHAT IT READS IS OF BULK AT MOST 1048576: true; the input reads as it did. -/
def graphReachesUptoRow : OpenClaim := { program := "ytaldnhlojllanaa", sum := "b268edc6197cb53cc1bda258d937bbbe190f0f0af8318d19e965a33c6ba2e9c1", func := "papermill/papermilllaw10.GraphReaches", spec := "graphReaches", unfollowed := true, recurses := true, apart := false, narrowed := true }
def GraphReachesUptoSaid : Prop := graphReachesUptoRow.holds Try.pinned (OpenSpec.upto graphReachesSpec)

/-- 'papermilllaw10.GraphLevels', WHERE WHAT IT READS IS OF BULK AT MOST 1048576: true; the input reads as it did. -/
def graphLevelsUptoRow : OpenClaim := { program := "ytaldnhlojllanaa", sum := "b268edc6197cb53cc1bda258d937bbbe190f0f0af8318d19e965a33c6ba2e9c1", func := "papermill/papermilllaw10.GraphLevels", spec := "graphLevels", unfollowed := true, recurses := true, apart := false, narrowed := true }
def GraphLevelsUptoSaid : Prop := graphLevelsUptoRow.holds Try.pinned (OpenSpec.upto graphLevelsSpec)

/-- 'papermilllaw10.GraphOrder', WHERE WHAT IT READS IS OF BULK AT MOST 1048576: true; the input reads as it did. -/
def graphOrderUptoRow : OpenClaim := { program := "ytaldnhlojllanaa", sum := "b268edc6197cb53cc1bda258d937bbbe190f0f0af8318d19e965a33c6ba2e9c1", func := "papermill/papermilllaw10.GraphOrder", spec := "graphOrder", unfollowed := true, recurses := true, apart := false, narrowed := true }
def GraphOrderUptoSaid : Prop := graphOrderUptoRow.holds Try.pinned (OpenSpec.upto graphOrderSpec)

/-- 'papermilllaw10.GraphHeights', WHERE WHAT IT READS IS OF BULK AT MOST 1048576: true; the input reads as it did. -/
def graphHeightsUptoRow : OpenClaim := { program := "ytaldnhlojllanaa", sum := "b268edc6197cb53cc1bda258d937bbbe190f0f0af8318d19e965a33c6ba2e9c1", func := "papermill/papermilllaw10.GraphHeights", spec := "graphHeights", unfollowed := true, recurses := true, apart := false, narrowed := true }
def GraphHeightsUptoSaid : Prop := graphHeightsUptoRow.holds Try.pinned (OpenSpec.upto graphHeightsSpec)

/-- 'papermilllaw10.GraphReversed', WHERE WHAT IT READS IS OF BULK AT MOST 1048576: true; the input reads as it did. -/
def graphReversedUptoRow : OpenClaim := { program := "ytaldnhlojllanaa", sum := "b268edc6197cb53cc1bda258d937bbbe190f0f0af8318d19e965a33c6ba2e9c1", func := "papermill/papermilllaw10.GraphReversed", spec := "graphReversed", unfollowed := true, recurses := true, apart := false, narrowed := true }
def GraphReversedUptoSaid : Prop := graphReversedUptoRow.holds Try.pinned (OpenSpec.upto graphReversedSpec)

/-- 'papermilllaw10.GraphMore', WHERE WHAT IT READS IS OF BULK AT MOST 1048576: true; the input reads as it did. -/
def graphMoreUptoRow : OpenClaim := { program := "ytaldnhlojllanaa", sum := "b268edc6197cb53cc1bda258d937bbbe190f0f0af8318d19e965a33c6ba2e9c1", func := "papermill/papermilllaw10.GraphMore", spec := "graphMore", unfollowed := true, recurses := true, apart := false, narrowed := true }
def GraphMoreUptoSaid : Prop := graphMoreUptoRow.holds Try.pinned (OpenSpec.upto graphMoreSpec)

end Rows
end Go.Proofs.Ytaldnhlojllanaa
