/-
  No cell of these rows narrows 'for every input' (looked for: loops, veiled, ifaces, maps, wideKeys, modest, calm, conditions, laid).
  DERIVED. THE GIVEN ROWS OF THIS SEAT. 7 by the template 'for every input the law returns true; each argument reads behind the call as it read before'; 0 by the template 'total and deterministic' (their statements: YtakoklgmhglpbaaTotals.lean).
  GIVEN WITH THE SEED: the statements are not yours to turn. If you find one false, say at which input.
  Laid BY PROGRAM, IN A SANDBOX (cutbox-rows.mjs): the forced cells as the released guide's own fill.sh prints them over the translation 8df7a4b09468221a… (all of the seat's roots in one cut). By AI agents, Wed Nov 11 2026. No macro, syntax, notation, axiom, sorry.
-/
import Derived.Test.YtakoklgmhglpbaaChecked
import GoSem.Claim
import GoSem.ClaimJoined
import GoSem.ClaimMapViews
import Derived.JoinedTies
import Derived.KernelRfl
namespace Go.Proofs.Ytakoklgmhglpbaa
/- THE CELL 'sum', in the pinned program and in every row, IS THE sha256 OF THE DUMP (.gsa) THAT YtakoklgmhglpbaaProg.lean LOADS. Nothing in Lean hashes anything: it is a label: what it is worth is what the hold of that sum in a sandbox is worth. -/
noncomputable def Try.pinned : Pinned := { name := "ytakoklgmhglpbaa", sum := "8df7a4b09468221a6eb65637ad9d9bc6a17bc74c249dca9553a3c770ff69b70a", checked := Try.checked }
namespace Rows
def none {H : Type} : Left H := { results := [], args := [] }

/-- 'papermilllaw53.PackReams': WHATEVER THE INPUT: true; the input reads as it did. -/
def packReamsSpec : ChangeSpec := { name := "packReams", fn := fun _ => fun
  | [d1, d2] => { results := [.lit (.bool true)], args := [d1, d2] }
  | _ => none }
def packReamsRow : OpenClaim := { program := "ytakoklgmhglpbaa", sum := "8df7a4b09468221a6eb65637ad9d9bc6a17bc74c249dca9553a3c770ff69b70a", func := "papermill/papermilllaw53.PackReams", spec := "packReams", unfollowed := true, recurses := true, apart := false }
def PackReamsSaid : Prop := packReamsRow.holds Try.pinned (OpenSpec.ofChange packReamsSpec)

/-- ITS FALSE NEIGHBOUR: 'it returns false'. Refute it at one input. -/
def packReamsWrong : ChangeSpec := { name := "packReams", fn := fun _ => fun
  | [d1, d2] => { results := [.lit (.bool false)], args := [d1, d2] }
  | _ => none }
def PackReamsWrongFalsely : Prop := packReamsRow.holds Try.pinned (OpenSpec.ofChange packReamsWrong)

/-- 'papermilllaw53.PackWheres': WHATEVER THE INPUT: true; the input reads as it did. -/
def packWheresSpec : ChangeSpec := { name := "packWheres", fn := fun _ => fun
  | [d1, d2, d3] => { results := [.lit (.bool true)], args := [d1, d2, d3] }
  | _ => none }
def packWheresRow : OpenClaim := { program := "ytakoklgmhglpbaa", sum := "8df7a4b09468221a6eb65637ad9d9bc6a17bc74c249dca9553a3c770ff69b70a", func := "papermill/papermilllaw53.PackWheres", spec := "packWheres", unfollowed := true, recurses := true, apart := false }
def PackWheresSaid : Prop := packWheresRow.holds Try.pinned (OpenSpec.ofChange packWheresSpec)

/-- ITS FALSE NEIGHBOUR: 'it returns false'. Refute it at one input. -/
def packWheresWrong : ChangeSpec := { name := "packWheres", fn := fun _ => fun
  | [d1, d2, d3] => { results := [.lit (.bool false)], args := [d1, d2, d3] }
  | _ => none }
def PackWheresWrongFalsely : Prop := packWheresRow.holds Try.pinned (OpenSpec.ofChange packWheresWrong)

/-- 'papermilllaw53.PackOnce': WHATEVER THE INPUT: true; the input reads as it did. -/
def packOnceSpec : ChangeSpec := { name := "packOnce", fn := fun _ => fun
  | [d1, d2, d3] => { results := [.lit (.bool true)], args := [d1, d2, d3] }
  | _ => none }
def packOnceRow : OpenClaim := { program := "ytakoklgmhglpbaa", sum := "8df7a4b09468221a6eb65637ad9d9bc6a17bc74c249dca9553a3c770ff69b70a", func := "papermill/papermilllaw53.PackOnce", spec := "packOnce", unfollowed := true, recurses := true, apart := false }
def PackOnceSaid : Prop := packOnceRow.holds Try.pinned (OpenSpec.ofChange packOnceSpec)

/-- ITS FALSE NEIGHBOUR: 'it returns false'. Refute it at one input. -/
def packOnceWrong : ChangeSpec := { name := "packOnce", fn := fun _ => fun
  | [d1, d2, d3] => { results := [.lit (.bool false)], args := [d1, d2, d3] }
  | _ => none }
def PackOnceWrongFalsely : Prop := packOnceRow.holds Try.pinned (OpenSpec.ofChange packOnceWrong)

/-- 'papermilllaw53.PackWhere': WHATEVER THE INPUT: true; the input reads as it did. -/
def packWhereSpec : ChangeSpec := { name := "packWhere", fn := fun _ => fun
  | [d1, d2, d3] => { results := [.lit (.bool true)], args := [d1, d2, d3] }
  | _ => none }
def packWhereRow : OpenClaim := { program := "ytakoklgmhglpbaa", sum := "8df7a4b09468221a6eb65637ad9d9bc6a17bc74c249dca9553a3c770ff69b70a", func := "papermill/papermilllaw53.PackWhere", spec := "packWhere", unfollowed := true, recurses := true, apart := false }
def PackWhereSaid : Prop := packWhereRow.holds Try.pinned (OpenSpec.ofChange packWhereSpec)

/-- ITS FALSE NEIGHBOUR: 'it returns false'. Refute it at one input. -/
def packWhereWrong : ChangeSpec := { name := "packWhere", fn := fun _ => fun
  | [d1, d2, d3] => { results := [.lit (.bool false)], args := [d1, d2, d3] }
  | _ => none }
def PackWhereWrongFalsely : Prop := packWhereRow.holds Try.pinned (OpenSpec.ofChange packWhereWrong)

/-- 'papermilllaw53.PackPallets': WHATEVER THE INPUT: true; the input reads as it did. -/
def packPalletsSpec : ChangeSpec := { name := "packPallets", fn := fun _ => fun
  | [d1, d2] => { results := [.lit (.bool true)], args := [d1, d2] }
  | _ => none }
def packPalletsRow : OpenClaim := { program := "ytakoklgmhglpbaa", sum := "8df7a4b09468221a6eb65637ad9d9bc6a17bc74c249dca9553a3c770ff69b70a", func := "papermill/papermilllaw53.PackPallets", spec := "packPallets", unfollowed := true, recurses := true, apart := false }
def PackPalletsSaid : Prop := packPalletsRow.holds Try.pinned (OpenSpec.ofChange packPalletsSpec)

/-- ITS FALSE NEIGHBOUR: 'it returns false'. Refute it at one input. -/
def packPalletsWrong : ChangeSpec := { name := "packPallets", fn := fun _ => fun
  | [d1, d2] => { results := [.lit (.bool false)], args := [d1, d2] }
  | _ => none }
def PackPalletsWrongFalsely : Prop := packPalletsRow.holds Try.pinned (OpenSpec.ofChange packPalletsWrong)

/-- 'papermilllaw53.PackCounts': WHATEVER THE INPUT: true; the input reads as it did. -/
def packCountsSpec : ChangeSpec := { name := "packCounts", fn := fun _ => fun
  | [d1, d2] => { results := [.lit (.bool true)], args := [d1, d2] }
  | _ => none }
def packCountsRow : OpenClaim := { program := "ytakoklgmhglpbaa", sum := "8df7a4b09468221a6eb65637ad9d9bc6a17bc74c249dca9553a3c770ff69b70a", func := "papermill/papermilllaw53.PackCounts", spec := "packCounts", unfollowed := true, recurses := true, apart := false }
def PackCountsSaid : Prop := packCountsRow.holds Try.pinned (OpenSpec.ofChange packCountsSpec)

/-- ITS FALSE NEIGHBOUR: 'it returns false'. Refute it at one input. -/
def packCountsWrong : ChangeSpec := { name := "packCounts", fn := fun _ => fun
  | [d1, d2] => { results := [.lit (.bool false)], args := [d1, d2] }
  | _ => none }
def PackCountsWrongFalsely : Prop := packCountsRow.holds Try.pinned (OpenSpec.ofChange packCountsWrong)

/-- 'papermilllaw53.PackOrder': WHATEVER THE INPUT: true; the input reads as it did. -/
def packOrderSpec : ChangeSpec := { name := "packOrder", fn := fun _ => fun
  | [d1, d2] => { results := [.lit (.bool true)], args := [d1, d2] }
  | _ => none }
def packOrderRow : OpenClaim := { program := "ytakoklgmhglpbaa", sum := "8df7a4b09468221a6eb65637ad9d9bc6a17bc74c249dca9553a3c770ff69b70a", func := "papermill/papermilllaw53.PackOrder", spec := "packOrder", unfollowed := true, recurses := true, apart := false }
def PackOrderSaid : Prop := packOrderRow.holds Try.pinned (OpenSpec.ofChange packOrderSpec)

/-- ITS FALSE NEIGHBOUR: 'it returns false'. Refute it at one input. -/
def packOrderWrong : ChangeSpec := { name := "packOrder", fn := fun _ => fun
  | [d1, d2] => { results := [.lit (.bool false)], args := [d1, d2] }
  | _ => none }
def PackOrderWrongFalsely : Prop := packOrderRow.holds Try.pinned (OpenSpec.ofChange packOrderWrong)

/- THE SECOND FORM. 'bulk': how many values and letters a reading holds, each counted each time it is reached (what is shared counts as often as it is met; a slice's spare places count too). A statement '..UptoSaid' is the law's where the arguments, and the package variables that the reading takes, are together of bulk at most 1048576: NARROWER than '..Said'. Prove '..Said' where nothing that the law and all that it calls make is longer than what came in: it says more and counts as full. Else prove '..UptoSaid'. A law counts once. -/
mutual
def uptoBulk {H : Type} : DataW H → Nat
  | .lit (.string bytes) => bytes.length + 1
  | .lit _ => 1
  | .nil => 1
  | .ptr d => uptoBulk d + 1
  | .slice elems spare => uptoBulkAll elems + uptoBulkAll spare + 1
  | .agg parts => uptoBulkAll parts + 1
  | .iface _ d => uptoBulk d + 1
  | .map entries => uptoBulkEntries entries + 1
  | .held _ => 1
def uptoBulkAll {H : Type} : List (DataW H) → Nat
  | [] => 0
  | d :: r => uptoBulk d + uptoBulkAll r
def uptoBulkEntries {H : Type} : List (Lit × DataW H) → Nat
  | [] => 0
  | x :: r => uptoBulkEntry x + uptoBulkEntries r
def uptoBulkEntry {H : Type} : Lit × DataW H → Nat
  | (.string bytes, d) => bytes.length + uptoBulk d + 1
  | (_, d) => uptoBulk d + 1
 end
def uptoSmall : (H : Type) → List (DataW H) → Bool := fun _ ds => decide (uptoBulkAll ds ≤ 1048576)
def OpenSpec.upto (s : _root_.Go.ChangeSpec) : _root_.Go.OpenSpec := { _root_.Go.OpenSpec.ofChange s with cond := some uptoSmall }

/-- 'papermilllaw53.PackReams', WHERE WHAT IT READS IS OF BULK AT MOST 1048576: true; the input reads as it did. -/
def packReamsUptoRow : OpenClaim := { program := "ytakoklgmhglpbaa", sum := "8df7a4b09468221a6eb65637ad9d9bc6a17bc74c249dca9553a3c770ff69b70a", func := "papermill/papermilllaw53.PackReams", spec := "packReams", unfollowed := true, recurses := true, apart := false, narrowed := true }
def PackReamsUptoSaid : Prop := packReamsUptoRow.holds Try.pinned (OpenSpec.upto packReamsSpec)

/-- 'papermilllaw53.PackWheres', WHERE WHAT IT READS IS OF BULK AT MOST 1048576: true; the input reads as it did. -/
def packWheresUptoRow : OpenClaim := { program := "ytakoklgmhglpbaa", sum := "8df7a4b09468221a6eb65637ad9d9bc6a17bc74c249dca9553a3c770ff69b70a", func := "papermill/papermilllaw53.PackWheres", spec := "packWheres", unfollowed := true, recurses := true, apart := false, narrowed := true }
def PackWheresUptoSaid : Prop := packWheresUptoRow.holds Try.pinned (OpenSpec.upto packWheresSpec)

/-- 'papermilllaw53.PackOnce', WHERE WHAT IT READS IS OF BULK AT MOST 1048576: true; the input reads as it did. -/
def packOnceUptoRow : OpenClaim := { program := "ytakoklgmhglpbaa", sum := "8df7a4b09468221a6eb65637ad9d9bc6a17bc74c249dca9553a3c770ff69b70a", func := "papermill/papermilllaw53.PackOnce", spec := "packOnce", unfollowed := true, recurses := true, apart := false, narrowed := true }
def PackOnceUptoSaid : Prop := packOnceUptoRow.holds Try.pinned (OpenSpec.upto packOnceSpec)

/-- 'papermilllaw53.PackWhere', WHERE WHAT IT READS IS OF BULK AT MOST 1048576: true; the input reads as it did. -/
def packWhereUptoRow : OpenClaim := { program := "ytakoklgmhglpbaa", sum := "8df7a4b09468221a6eb65637ad9d9bc6a17bc74c249dca9553a3c770ff69b70a", func := "papermill/papermilllaw53.PackWhere", spec := "packWhere", unfollowed := true, recurses := true, apart := false, narrowed := true }
def PackWhereUptoSaid : Prop := packWhereUptoRow.holds Try.pinned (OpenSpec.upto packWhereSpec)

/-- 'papermilllaw53.PackPallets', WHERE WHAT IT READS IS OF BULK AT MOST 1048576: true; the input reads as it did. -/
def packPalletsUptoRow : OpenClaim := { program := "ytakoklgmhglpbaa", sum := "8df7a4b09468221a6eb65637ad9d9bc6a17bc74c249dca9553a3c770ff69b70a", func := "papermill/papermilllaw53.PackPallets", spec := "packPallets", unfollowed := true, recurses := true, apart := false, narrowed := true }
def PackPalletsUptoSaid : Prop := packPalletsUptoRow.holds Try.pinned (OpenSpec.upto packPalletsSpec)

/-- 'papermilllaw53.PackCounts', WHERE WHAT IT READS IS OF BULK AT MOST 1048576: true; the input reads as it did. -/
def packCountsUptoRow : OpenClaim := { program := "ytakoklgmhglpbaa", sum := "8df7a4b09468221a6eb65637ad9d9bc6a17bc74c249dca9553a3c770ff69b70a", func := "papermill/papermilllaw53.PackCounts", spec := "packCounts", unfollowed := true, recurses := true, apart := false, narrowed := true }
def PackCountsUptoSaid : Prop := packCountsUptoRow.holds Try.pinned (OpenSpec.upto packCountsSpec)

/-- 'papermilllaw53.PackOrder', WHERE WHAT IT READS IS OF BULK AT MOST 1048576: true; the input reads as it did. -/
def packOrderUptoRow : OpenClaim := { program := "ytakoklgmhglpbaa", sum := "8df7a4b09468221a6eb65637ad9d9bc6a17bc74c249dca9553a3c770ff69b70a", func := "papermill/papermilllaw53.PackOrder", spec := "packOrder", unfollowed := true, recurses := true, apart := false, narrowed := true }
def PackOrderUptoSaid : Prop := packOrderUptoRow.holds Try.pinned (OpenSpec.upto packOrderSpec)

end Rows
end Go.Proofs.Ytakoklgmhglpbaa
