/-
  No cell of these rows narrows 'for every input' (looked for: loops, veiled, ifaces, maps, wideKeys, modest, calm, conditions, laid).
  DERIVED. THE GIVEN ROWS OF THIS SEAT. 7 by the template 'for every input the law returns true; each argument reads behind the call as it read before'; 0 by the template 'total and deterministic' (their statements: YtegilakgfoglpaaTotals.lean).
  GIVEN WITH THE SEED: the statements are not yours to turn. If you find one false, say at which input.
  Laid BY PROGRAM, IN A SANDBOX (cutbox-rows.mjs): the forced cells as the released guide's own fill.sh prints them over the translation ee5fa3177c726e06… (all of the seat's roots in one cut). By AI agents, Wed Nov 11 2026. No macro, syntax, notation, axiom, sorry.
-/
import Derived.Test.YtegilakgfoglpaaChecked
import GoSem.Claim
import GoSem.ClaimJoined
import GoSem.ClaimMapViews
import Derived.JoinedTies
import Derived.KernelRfl
namespace Go.Proofs.Ytegilakgfoglpaa
/- THE CELL 'sum', in the pinned program and in every row, IS THE sha256 OF THE DUMP (.gsa) THAT YtegilakgfoglpaaProg.lean LOADS. Nothing in Lean hashes anything: it is a label: what it is worth is what the hold of that sum in a sandbox is worth. -/
noncomputable def Try.pinned : Pinned := { name := "ytegilakgfoglpaa", sum := "ee5fa3177c726e06c1269730a47d4aa29412cedbd33a6ca5791127ce7e024f02", checked := Try.checked }
namespace Rows
def none {H : Type} : Left H := { results := [], args := [] }

/-- 'papermilllaw56.ShipChecks': WHATEVER THE INPUT: true; the input reads as it did. -/
def shipChecksSpec : ChangeSpec := { name := "shipChecks", fn := fun _ => fun
  | [d] => { results := [.lit (.bool true)], args := [d] }
  | _ => none }
def shipChecksRow : OpenClaim := { program := "ytegilakgfoglpaa", sum := "ee5fa3177c726e06c1269730a47d4aa29412cedbd33a6ca5791127ce7e024f02", func := "papermill/papermilllaw56.ShipChecks", spec := "shipChecks", unfollowed := true, recurses := true, apart := false }
def ShipChecksSaid : Prop := shipChecksRow.holds Try.pinned (OpenSpec.ofChange shipChecksSpec)

/-- ITS FALSE NEIGHBOUR: 'it returns false'. Refute it at one input. -/
def shipChecksWrong : ChangeSpec := { name := "shipChecks", fn := fun _ => fun
  | [d] => { results := [.lit (.bool false)], args := [d] }
  | _ => none }
def ShipChecksWrongFalsely : Prop := shipChecksRow.holds Try.pinned (OpenSpec.ofChange shipChecksWrong)

/-- 'papermilllaw56.ShipFinds': WHATEVER THE INPUT: true; the input reads as it did. -/
def shipFindsSpec : ChangeSpec := { name := "shipFinds", fn := fun _ => fun
  | [d1, d2] => { results := [.lit (.bool true)], args := [d1, d2] }
  | _ => none }
def shipFindsRow : OpenClaim := { program := "ytegilakgfoglpaa", sum := "ee5fa3177c726e06c1269730a47d4aa29412cedbd33a6ca5791127ce7e024f02", func := "papermill/papermilllaw56.ShipFinds", spec := "shipFinds", unfollowed := true, recurses := true, apart := false }
def ShipFindsSaid : Prop := shipFindsRow.holds Try.pinned (OpenSpec.ofChange shipFindsSpec)

/-- ITS FALSE NEIGHBOUR: 'it returns false'. Refute it at one input. -/
def shipFindsWrong : ChangeSpec := { name := "shipFinds", fn := fun _ => fun
  | [d1, d2] => { results := [.lit (.bool false)], args := [d1, d2] }
  | _ => none }
def ShipFindsWrongFalsely : Prop := shipFindsRow.holds Try.pinned (OpenSpec.ofChange shipFindsWrong)

/-- 'papermilllaw56.ShipLoads': WHATEVER THE INPUT: true; the input reads as it did. -/
def shipLoadsSpec : ChangeSpec := { name := "shipLoads", fn := fun _ => fun
  | [d1, d2] => { results := [.lit (.bool true)], args := [d1, d2] }
  | _ => none }
def shipLoadsRow : OpenClaim := { program := "ytegilakgfoglpaa", sum := "ee5fa3177c726e06c1269730a47d4aa29412cedbd33a6ca5791127ce7e024f02", func := "papermill/papermilllaw56.ShipLoads", spec := "shipLoads", unfollowed := true, recurses := true, apart := false }
def ShipLoadsSaid : Prop := shipLoadsRow.holds Try.pinned (OpenSpec.ofChange shipLoadsSpec)

/-- ITS FALSE NEIGHBOUR: 'it returns false'. Refute it at one input. -/
def shipLoadsWrong : ChangeSpec := { name := "shipLoads", fn := fun _ => fun
  | [d1, d2] => { results := [.lit (.bool false)], args := [d1, d2] }
  | _ => none }
def ShipLoadsWrongFalsely : Prop := shipLoadsRow.holds Try.pinned (OpenSpec.ofChange shipLoadsWrong)

/-- 'papermilllaw56.ShipGreedies': WHATEVER THE INPUT: true; the input reads as it did. -/
def shipGreediesSpec : ChangeSpec := { name := "shipGreedies", fn := fun _ => fun
  | [d1, d2] => { results := [.lit (.bool true)], args := [d1, d2] }
  | _ => none }
def shipGreediesRow : OpenClaim := { program := "ytegilakgfoglpaa", sum := "ee5fa3177c726e06c1269730a47d4aa29412cedbd33a6ca5791127ce7e024f02", func := "papermill/papermilllaw56.ShipGreedies", spec := "shipGreedies", unfollowed := true, recurses := true, apart := false }
def ShipGreediesSaid : Prop := shipGreediesRow.holds Try.pinned (OpenSpec.ofChange shipGreediesSpec)

/-- ITS FALSE NEIGHBOUR: 'it returns false'. Refute it at one input. -/
def shipGreediesWrong : ChangeSpec := { name := "shipGreedies", fn := fun _ => fun
  | [d1, d2] => { results := [.lit (.bool false)], args := [d1, d2] }
  | _ => none }
def ShipGreediesWrongFalsely : Prop := shipGreediesRow.holds Try.pinned (OpenSpec.ofChange shipGreediesWrong)

/-- 'papermilllaw56.ShipOnce': WHATEVER THE INPUT: true; the input reads as it did. -/
def shipOnceSpec : ChangeSpec := { name := "shipOnce", fn := fun _ => fun
  | [d1, d2] => { results := [.lit (.bool true)], args := [d1, d2] }
  | _ => none }
def shipOnceRow : OpenClaim := { program := "ytegilakgfoglpaa", sum := "ee5fa3177c726e06c1269730a47d4aa29412cedbd33a6ca5791127ce7e024f02", func := "papermill/papermilllaw56.ShipOnce", spec := "shipOnce", unfollowed := true, recurses := true, apart := false }
def ShipOnceSaid : Prop := shipOnceRow.holds Try.pinned (OpenSpec.ofChange shipOnceSpec)

/-- ITS FALSE NEIGHBOUR: 'it returns false'. Refute it at one input. -/
def shipOnceWrong : ChangeSpec := { name := "shipOnce", fn := fun _ => fun
  | [d1, d2] => { results := [.lit (.bool false)], args := [d1, d2] }
  | _ => none }
def ShipOnceWrongFalsely : Prop := shipOnceRow.holds Try.pinned (OpenSpec.ofChange shipOnceWrong)

/-- 'papermilllaw56.ShipLeast': WHATEVER THE INPUT: true; the input reads as it did. -/
def shipLeastSpec : ChangeSpec := { name := "shipLeast", fn := fun _ => fun
  | [d1, d2, d3] => { results := [.lit (.bool true)], args := [d1, d2, d3] }
  | _ => none }
def shipLeastRow : OpenClaim := { program := "ytegilakgfoglpaa", sum := "ee5fa3177c726e06c1269730a47d4aa29412cedbd33a6ca5791127ce7e024f02", func := "papermill/papermilllaw56.ShipLeast", spec := "shipLeast", unfollowed := true, recurses := true, apart := false }
def ShipLeastSaid : Prop := shipLeastRow.holds Try.pinned (OpenSpec.ofChange shipLeastSpec)

/-- ITS FALSE NEIGHBOUR: 'it returns false'. Refute it at one input. -/
def shipLeastWrong : ChangeSpec := { name := "shipLeast", fn := fun _ => fun
  | [d1, d2, d3] => { results := [.lit (.bool false)], args := [d1, d2, d3] }
  | _ => none }
def ShipLeastWrongFalsely : Prop := shipLeastRow.holds Try.pinned (OpenSpec.ofChange shipLeastWrong)

/-- 'papermilllaw56.ShipPairs': WHATEVER THE INPUT: true; the input reads as it did. -/
def shipPairsSpec : ChangeSpec := { name := "shipPairs", fn := fun _ => fun
  | [d1, d2, d3, d4] => { results := [.lit (.bool true)], args := [d1, d2, d3, d4] }
  | _ => none }
def shipPairsRow : OpenClaim := { program := "ytegilakgfoglpaa", sum := "ee5fa3177c726e06c1269730a47d4aa29412cedbd33a6ca5791127ce7e024f02", func := "papermill/papermilllaw56.ShipPairs", spec := "shipPairs", unfollowed := true, recurses := true, apart := false }
def ShipPairsSaid : Prop := shipPairsRow.holds Try.pinned (OpenSpec.ofChange shipPairsSpec)

/-- ITS FALSE NEIGHBOUR: 'it returns false'. Refute it at one input. -/
def shipPairsWrong : ChangeSpec := { name := "shipPairs", fn := fun _ => fun
  | [d1, d2, d3, d4] => { results := [.lit (.bool false)], args := [d1, d2, d3, d4] }
  | _ => none }
def ShipPairsWrongFalsely : Prop := shipPairsRow.holds Try.pinned (OpenSpec.ofChange shipPairsWrong)

/- THE SECOND FORM. 'bulk': how many values and letters a reading holds, each counted each time it is reached (what is shared counts as often as it is met; a slice's spare places count too). A statement '..UptoSaid' is the law's where the arguments, and the package variables that the reading takes, are together of bulk at most 1048576: NARROWER than '..Said'. Prove '..Said' where nothing that the law and all that it calls make is longer than what came in: it says more and counts as full. Else prove '..UptoSaid'. A law counts once. -/
mutual
def uptoBulk {H : Type} : DataW H → Nat
  | .lit (.string bytes) => bytes.length + 1
  | .lit _ => 1
  | .nil => 1
  | .ptr d => uptoBulk d + 1
  | .slice elems spare => uptoBulkAll elems + uptoBulkAll spare + 1
  | .agg parts => uptoBulkAll parts + 1
  | .iface _ d => uptoBulk d + 1
  | .map entries => uptoBulkEntries entries + 1
  | .held _ => 1
def uptoBulkAll {H : Type} : List (DataW H) → Nat
  | [] => 0
  | d :: r => uptoBulk d + uptoBulkAll r
def uptoBulkEntries {H : Type} : List (Lit × DataW H) → Nat
  | [] => 0
  | x :: r => uptoBulkEntry x + uptoBulkEntries r
def uptoBulkEntry {H : Type} : Lit × DataW H → Nat
  | (.string bytes, d) => bytes.length + uptoBulk d + 1
  | (_, d) => uptoBulk d + 1
 end
def uptoSmall : (H : Type) → List (DataW H) → Bool := fun _ ds => decide (uptoBulkAll ds ≤ 1048576)
def OpenSpec.upto (s : _root_.Go.ChangeSpec) : _root_.Go.OpenSpec := { _root_.Go.OpenSpec.ofChange s with cond := some uptoSmall }

/-- 'papermilllaw56.ShipChecks', WHERE WHAT IT READS IS OF BULK AT MOST 1048576: true; the input reads as it did. -/
def shipChecksUptoRow : OpenClaim := { program := "ytegilakgfoglpaa", sum := "ee5fa3177c726e06c1269730a47d4aa29412cedbd33a6ca5791127ce7e024f02", func := "papermill/papermilllaw56.ShipChecks", spec := "shipChecks", unfollowed := true, recurses := true, apart := false, narrowed := true }
def ShipChecksUptoSaid : Prop := shipChecksUptoRow.holds Try.pinned (OpenSpec.upto shipChecksSpec)

/-- 'papermilllaw56.ShipFinds', WHERE WHAT IT READS IS OF BULK AT MOST 1048576: true; the input reads as it did. -/
def shipFindsUptoRow : OpenClaim := { program := "ytegilakgfoglpaa", sum := "ee5fa3177c726e06c1269730a47d4aa29412cedbd33a6ca5791127ce7e024f02", func := "papermill/papermilllaw56.ShipFinds", spec := "shipFinds", unfollowed := true, recurses := true, apart := false, narrowed := true }
def ShipFindsUptoSaid : Prop := shipFindsUptoRow.holds Try.pinned (OpenSpec.upto shipFindsSpec)

/-- 'papermilllaw56.ShipLoads', WHERE WHAT IT READS IS OF BULK AT MOST 1048576: true; the input reads as it did. -/
def shipLoadsUptoRow : OpenClaim := { program := "ytegilakgfoglpaa", sum := "ee5fa3177c726e06c1269730a47d4aa29412cedbd33a6ca5791127ce7e024f02", func := "papermill/papermilllaw56.ShipLoads", spec := "shipLoads", unfollowed := true, recurses := true, apart := false, narrowed := true }
def ShipLoadsUptoSaid : Prop := shipLoadsUptoRow.holds Try.pinned (OpenSpec.upto shipLoadsSpec)

/-- 'papermilllaw56.ShipGreedies', WHERE WHAT IT READS IS OF BULK AT MOST 1048576: true; the input reads as it did. -/
def shipGreediesUptoRow : OpenClaim := { program := "ytegilakgfoglpaa", sum := "ee5fa3177c726e06c1269730a47d4aa29412cedbd33a6ca5791127ce7e024f02", func := "papermill/papermilllaw56.ShipGreedies", spec := "shipGreedies", unfollowed := true, recurses := true, apart := false, narrowed := true }
def ShipGreediesUptoSaid : Prop := shipGreediesUptoRow.holds Try.pinned (OpenSpec.upto shipGreediesSpec)

/-- 'papermilllaw56.ShipOnce', WHERE WHAT IT READS IS OF BULK AT MOST 1048576: true; the input reads as it did. -/
def shipOnceUptoRow : OpenClaim := { program := "ytegilakgfoglpaa", sum := "ee5fa3177c726e06c1269730a47d4aa29412cedbd33a6ca5791127ce7e024f02", func := "papermill/papermilllaw56.ShipOnce", spec := "shipOnce", unfollowed := true, recurses := true, apart := false, narrowed := true }
def ShipOnceUptoSaid : Prop := shipOnceUptoRow.holds Try.pinned (OpenSpec.upto shipOnceSpec)

/-- 'papermilllaw56.ShipLeast', WHERE WHAT IT READS IS OF BULK AT MOST 1048576: true; the input reads as it did. -/
def shipLeastUptoRow : OpenClaim := { program := "ytegilakgfoglpaa", sum := "ee5fa3177c726e06c1269730a47d4aa29412cedbd33a6ca5791127ce7e024f02", func := "papermill/papermilllaw56.ShipLeast", spec := "shipLeast", unfollowed := true, recurses := true, apart := false, narrowed := true }
def ShipLeastUptoSaid : Prop := shipLeastUptoRow.holds Try.pinned (OpenSpec.upto shipLeastSpec)

/-- 'papermilllaw56.ShipPairs', WHERE WHAT IT READS IS OF BULK AT MOST 1048576: true; the input reads as it did. -/
def shipPairsUptoRow : OpenClaim := { program := "ytegilakgfoglpaa", sum := "ee5fa3177c726e06c1269730a47d4aa29412cedbd33a6ca5791127ce7e024f02", func := "papermill/papermilllaw56.ShipPairs", spec := "shipPairs", unfollowed := true, recurses := true, apart := false, narrowed := true }
def ShipPairsUptoSaid : Prop := shipPairsUptoRow.holds Try.pinned (OpenSpec.upto shipPairsSpec)

end Rows
end Go.Proofs.Ytegilakgfoglpaa
