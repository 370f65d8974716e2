/-
  No cell of these rows narrows 'for every input' (looked for: loops, veiled, ifaces, maps, wideKeys, modest, calm, conditions, laid).
  DERIVED. THE GIVEN ROWS OF THIS SEAT. 8 by the template 'for every input the law returns true; each argument reads behind the call as it read before'; 0 by the template 'total and deterministic' (their statements: YthmhehfbepijgaaTotals.lean).
  GIVEN WITH THE SEED: the statements are not yours to turn. If you find one false, say at which input.
  Laid BY PROGRAM, IN A SANDBOX (cutbox-rows.mjs): the forced cells as the released guide's own fill.sh prints them over the translation 8ceb47d09d025039… (all of the seat's roots in one cut). By AI agents, Wed Nov 11 2026. No macro, syntax, notation, axiom, sorry.
-/
import Derived.Test.YthmhehfbepijgaaChecked
import GoSem.Claim
import GoSem.ClaimJoined
import GoSem.ClaimMapViews
import Derived.JoinedTies
import Derived.KernelRfl
namespace Go.Proofs.Ythmhehfbepijgaa
/- THE CELL 'sum', in the pinned program and in every row, IS THE sha256 OF THE DUMP (.gsa) THAT YthmhehfbepijgaaProg.lean LOADS. Nothing in Lean hashes anything: it is a label: what it is worth is what the hold of that sum in a sandbox is worth. -/
noncomputable def Try.pinned : Pinned := { name := "ythmhehfbepijgaa", sum := "8ceb47d09d025039dc4e6d0b3e9e151bccd81bd8c9e076733ffcd031eff0a0e5", checked := Try.checked }
namespace Rows
def none {H : Type} : Left H := { results := [], args := [] }

/-- 'papermilllaw51.OrderChecks': WHATEVER THE INPUT: true; the input reads as it did. -/
def orderChecksSpec : ChangeSpec := { name := "orderChecks", fn := fun _ => fun
  | [d] => { results := [.lit (.bool true)], args := [d] }
  | _ => none }
def orderChecksRow : OpenClaim := { program := "ythmhehfbepijgaa", sum := "8ceb47d09d025039dc4e6d0b3e9e151bccd81bd8c9e076733ffcd031eff0a0e5", func := "papermill/papermilllaw51.OrderChecks", spec := "orderChecks", unfollowed := true, recurses := true, apart := false }
def OrderChecksSaid : Prop := orderChecksRow.holds Try.pinned (OpenSpec.ofChange orderChecksSpec)

/-- ITS FALSE NEIGHBOUR: 'it returns false'. Refute it at one input. -/
def orderChecksWrong : ChangeSpec := { name := "orderChecks", fn := fun _ => fun
  | [d] => { results := [.lit (.bool false)], args := [d] }
  | _ => none }
def OrderChecksWrongFalsely : Prop := orderChecksRow.holds Try.pinned (OpenSpec.ofChange orderChecksWrong)

/-- 'papermilllaw51.OrderFinds': WHATEVER THE INPUT: true; the input reads as it did. -/
def orderFindsSpec : ChangeSpec := { name := "orderFinds", fn := fun _ => fun
  | [d1, d2, d3] => { results := [.lit (.bool true)], args := [d1, d2, d3] }
  | _ => none }
def orderFindsRow : OpenClaim := { program := "ythmhehfbepijgaa", sum := "8ceb47d09d025039dc4e6d0b3e9e151bccd81bd8c9e076733ffcd031eff0a0e5", func := "papermill/papermilllaw51.OrderFinds", spec := "orderFinds", unfollowed := true, recurses := true, apart := false }
def OrderFindsSaid : Prop := orderFindsRow.holds Try.pinned (OpenSpec.ofChange orderFindsSpec)

/-- ITS FALSE NEIGHBOUR: 'it returns false'. Refute it at one input. -/
def orderFindsWrong : ChangeSpec := { name := "orderFinds", fn := fun _ => fun
  | [d1, d2, d3] => { results := [.lit (.bool false)], args := [d1, d2, d3] }
  | _ => none }
def OrderFindsWrongFalsely : Prop := orderFindsRow.holds Try.pinned (OpenSpec.ofChange orderFindsWrong)

/-- 'papermilllaw51.OrderReturns': WHATEVER THE INPUT: true; the input reads as it did. -/
def orderReturnsSpec : ChangeSpec := { name := "orderReturns", fn := fun _ => fun
  | [d1, d2, d3] => { results := [.lit (.bool true)], args := [d1, d2, d3] }
  | _ => none }
def orderReturnsRow : OpenClaim := { program := "ythmhehfbepijgaa", sum := "8ceb47d09d025039dc4e6d0b3e9e151bccd81bd8c9e076733ffcd031eff0a0e5", func := "papermill/papermilllaw51.OrderReturns", spec := "orderReturns", unfollowed := true, recurses := true, apart := false }
def OrderReturnsSaid : Prop := orderReturnsRow.holds Try.pinned (OpenSpec.ofChange orderReturnsSpec)

/-- ITS FALSE NEIGHBOUR: 'it returns false'. Refute it at one input. -/
def orderReturnsWrong : ChangeSpec := { name := "orderReturns", fn := fun _ => fun
  | [d1, d2, d3] => { results := [.lit (.bool false)], args := [d1, d2, d3] }
  | _ => none }
def OrderReturnsWrongFalsely : Prop := orderReturnsRow.holds Try.pinned (OpenSpec.ofChange orderReturnsWrong)

/-- 'papermilllaw51.OrderBooks': WHATEVER THE INPUT: true; the input reads as it did. -/
def orderBooksSpec : ChangeSpec := { name := "orderBooks", fn := fun _ => fun
  | [d] => { results := [.lit (.bool true)], args := [d] }
  | _ => none }
def orderBooksRow : OpenClaim := { program := "ythmhehfbepijgaa", sum := "8ceb47d09d025039dc4e6d0b3e9e151bccd81bd8c9e076733ffcd031eff0a0e5", func := "papermill/papermilllaw51.OrderBooks", spec := "orderBooks", unfollowed := true, recurses := true, apart := false }
def OrderBooksSaid : Prop := orderBooksRow.holds Try.pinned (OpenSpec.ofChange orderBooksSpec)

/-- ITS FALSE NEIGHBOUR: 'it returns false'. Refute it at one input. -/
def orderBooksWrong : ChangeSpec := { name := "orderBooks", fn := fun _ => fun
  | [d] => { results := [.lit (.bool false)], args := [d] }
  | _ => none }
def OrderBooksWrongFalsely : Prop := orderBooksRow.holds Try.pinned (OpenSpec.ofChange orderBooksWrong)

/-- 'papermilllaw51.OrderLimits': WHATEVER THE INPUT: true; the input reads as it did. -/
def orderLimitsSpec : ChangeSpec := { name := "orderLimits", fn := fun _ => fun
  | [d] => { results := [.lit (.bool true)], args := [d] }
  | _ => none }
def orderLimitsRow : OpenClaim := { program := "ythmhehfbepijgaa", sum := "8ceb47d09d025039dc4e6d0b3e9e151bccd81bd8c9e076733ffcd031eff0a0e5", func := "papermill/papermilllaw51.OrderLimits", spec := "orderLimits", unfollowed := true, recurses := true, apart := false }
def OrderLimitsSaid : Prop := orderLimitsRow.holds Try.pinned (OpenSpec.ofChange orderLimitsSpec)

/-- ITS FALSE NEIGHBOUR: 'it returns false'. Refute it at one input. -/
def orderLimitsWrong : ChangeSpec := { name := "orderLimits", fn := fun _ => fun
  | [d] => { results := [.lit (.bool false)], args := [d] }
  | _ => none }
def OrderLimitsWrongFalsely : Prop := orderLimitsRow.holds Try.pinned (OpenSpec.ofChange orderLimitsWrong)

/-- 'papermilllaw51.OrderRefused': WHATEVER THE INPUT: true; the input reads as it did. -/
def orderRefusedSpec : ChangeSpec := { name := "orderRefused", fn := fun _ => fun
  | [d1, d2] => { results := [.lit (.bool true)], args := [d1, d2] }
  | _ => none }
def orderRefusedRow : OpenClaim := { program := "ythmhehfbepijgaa", sum := "8ceb47d09d025039dc4e6d0b3e9e151bccd81bd8c9e076733ffcd031eff0a0e5", func := "papermill/papermilllaw51.OrderRefused", spec := "orderRefused", unfollowed := true, recurses := true, apart := false }
def OrderRefusedSaid : Prop := orderRefusedRow.holds Try.pinned (OpenSpec.ofChange orderRefusedSpec)

/-- ITS FALSE NEIGHBOUR: 'it returns false'. Refute it at one input. -/
def orderRefusedWrong : ChangeSpec := { name := "orderRefused", fn := fun _ => fun
  | [d1, d2] => { results := [.lit (.bool false)], args := [d1, d2] }
  | _ => none }
def OrderRefusedWrongFalsely : Prop := orderRefusedRow.holds Try.pinned (OpenSpec.ofChange orderRefusedWrong)

/-- 'papermilllaw51.OrderCopies': WHATEVER THE INPUT: true; the input reads as it did. -/
def orderCopiesSpec : ChangeSpec := { name := "orderCopies", fn := fun _ => fun
  | [d1, d2] => { results := [.lit (.bool true)], args := [d1, d2] }
  | _ => none }
def orderCopiesRow : OpenClaim := { program := "ythmhehfbepijgaa", sum := "8ceb47d09d025039dc4e6d0b3e9e151bccd81bd8c9e076733ffcd031eff0a0e5", func := "papermill/papermilllaw51.OrderCopies", spec := "orderCopies", unfollowed := true, recurses := true, apart := false }
def OrderCopiesSaid : Prop := orderCopiesRow.holds Try.pinned (OpenSpec.ofChange orderCopiesSpec)

/-- ITS FALSE NEIGHBOUR: 'it returns false'. Refute it at one input. -/
def orderCopiesWrong : ChangeSpec := { name := "orderCopies", fn := fun _ => fun
  | [d1, d2] => { results := [.lit (.bool false)], args := [d1, d2] }
  | _ => none }
def OrderCopiesWrongFalsely : Prop := orderCopiesRow.holds Try.pinned (OpenSpec.ofChange orderCopiesWrong)

/-- 'papermilllaw51.OrderNil': WHATEVER THE INPUT: true; the input reads as it did. -/
def orderNilSpec : ChangeSpec := { name := "orderNil", fn := fun _ => fun
  | [d] => { results := [.lit (.bool true)], args := [d] }
  | _ => none }
def orderNilRow : OpenClaim := { program := "ythmhehfbepijgaa", sum := "8ceb47d09d025039dc4e6d0b3e9e151bccd81bd8c9e076733ffcd031eff0a0e5", func := "papermill/papermilllaw51.OrderNil", spec := "orderNil", unfollowed := true, recurses := true, apart := false }
def OrderNilSaid : Prop := orderNilRow.holds Try.pinned (OpenSpec.ofChange orderNilSpec)

/-- ITS FALSE NEIGHBOUR: 'it returns false'. Refute it at one input. -/
def orderNilWrong : ChangeSpec := { name := "orderNil", fn := fun _ => fun
  | [d] => { results := [.lit (.bool false)], args := [d] }
  | _ => none }
def OrderNilWrongFalsely : Prop := orderNilRow.holds Try.pinned (OpenSpec.ofChange orderNilWrong)

/- THE SECOND FORM. 'bulk': how many values and letters a reading holds, each counted each time it is reached (what is shared counts as often as it is met; a slice's spare places count too). A statement '..UptoSaid' is the law's where the arguments, and the package variables that the reading takes, are together of bulk at most 1048576: NARROWER than '..Said'. Prove '..Said' where nothing that the law and all that it calls make is longer than what came in: it says more and counts as full. Else prove '..UptoSaid'. A law counts once. -/
mutual
def uptoBulk {H : Type} : DataW H → Nat
  | .lit (.string bytes) => bytes.length + 1
  | .lit _ => 1
  | .nil => 1
  | .ptr d => uptoBulk d + 1
  | .slice elems spare => uptoBulkAll elems + uptoBulkAll spare + 1
  | .agg parts => uptoBulkAll parts + 1
  | .iface _ d => uptoBulk d + 1
  | .map entries => uptoBulkEntries entries + 1
  | .held _ => 1
def uptoBulkAll {H : Type} : List (DataW H) → Nat
  | [] => 0
  | d :: r => uptoBulk d + uptoBulkAll r
def uptoBulkEntries {H : Type} : List (Lit × DataW H) → Nat
  | [] => 0
  | x :: r => uptoBulkEntry x + uptoBulkEntries r
def uptoBulkEntry {H : Type} : Lit × DataW H → Nat
  | (.string bytes, d) => bytes.length + uptoBulk d + 1
  | (_, d) => uptoBulk d + 1
 end
def uptoSmall : (H : Type) → List (DataW H) → Bool := fun _ ds => decide (uptoBulkAll ds ≤ 1048576)
def OpenSpec.upto (s : _root_.Go.ChangeSpec) : _root_.Go.OpenSpec := { _root_.Go.OpenSpec.ofChange s with cond := some uptoSmall }

/-- 'papermilllaw51.OrderChecks', WHERE WHAT IT READS IS OF BULK AT MOST 1048576: true; the input reads as it did. -/
def orderChecksUptoRow : OpenClaim := { program := "ythmhehfbepijgaa", sum := "8ceb47d09d025039dc4e6d0b3e9e151bccd81bd8c9e076733ffcd031eff0a0e5", func := "papermill/papermilllaw51.OrderChecks", spec := "orderChecks", unfollowed := true, recurses := true, apart := false, narrowed := true }
def OrderChecksUptoSaid : Prop := orderChecksUptoRow.holds Try.pinned (OpenSpec.upto orderChecksSpec)

/-- 'papermilllaw51.OrderFinds', WHERE WHAT IT READS IS OF BULK AT MOST 1048576: true; the input reads as it did. -/
def orderFindsUptoRow : OpenClaim := { program := "ythmhehfbepijgaa", sum := "8ceb47d09d025039dc4e6d0b3e9e151bccd81bd8c9e076733ffcd031eff0a0e5", func := "papermill/papermilllaw51.OrderFinds", spec := "orderFinds", unfollowed := true, recurses := true, apart := false, narrowed := true }
def OrderFindsUptoSaid : Prop := orderFindsUptoRow.holds Try.pinned (OpenSpec.upto orderFindsSpec)

/-- 'papermilllaw51.OrderReturns', WHERE WHAT IT READS IS OF BULK AT MOST 1048576: true; the input reads as it did. -/
def orderReturnsUptoRow : OpenClaim := { program := "ythmhehfbepijgaa", sum := "8ceb47d09d025039dc4e6d0b3e9e151bccd81bd8c9e076733ffcd031eff0a0e5", func := "papermill/papermilllaw51.OrderReturns", spec := "orderReturns", unfollowed := true, recurses := true, apart := false, narrowed := true }
def OrderReturnsUptoSaid : Prop := orderReturnsUptoRow.holds Try.pinned (OpenSpec.upto orderReturnsSpec)

/-- 'papermilllaw51.OrderBooks', WHERE WHAT IT READS IS OF BULK AT MOST 1048576: true; the input reads as it did. -/
def orderBooksUptoRow : OpenClaim := { program := "ythmhehfbepijgaa", sum := "8ceb47d09d025039dc4e6d0b3e9e151bccd81bd8c9e076733ffcd031eff0a0e5", func := "papermill/papermilllaw51.OrderBooks", spec := "orderBooks", unfollowed := true, recurses := true, apart := false, narrowed := true }
def OrderBooksUptoSaid : Prop := orderBooksUptoRow.holds Try.pinned (OpenSpec.upto orderBooksSpec)

/-- 'papermilllaw51.OrderLimits', WHERE WHAT IT READS IS OF BULK AT MOST 1048576: true; the input reads as it did. -/
def orderLimitsUptoRow : OpenClaim := { program := "ythmhehfbepijgaa", sum := "8ceb47d09d025039dc4e6d0b3e9e151bccd81bd8c9e076733ffcd031eff0a0e5", func := "papermill/papermilllaw51.OrderLimits", spec := "orderLimits", unfollowed := true, recurses := true, apart := false, narrowed := true }
def OrderLimitsUptoSaid : Prop := orderLimitsUptoRow.holds Try.pinned (OpenSpec.upto orderLimitsSpec)

/-- 'papermilllaw51.OrderRefused', WHERE WHAT IT READS IS OF BULK AT MOST 1048576: true; the input reads as it did. -/
def orderRefusedUptoRow : OpenClaim := { program := "ythmhehfbepijgaa", sum := "8ceb47d09d025039dc4e6d0b3e9e151bccd81bd8c9e076733ffcd031eff0a0e5", func := "papermill/papermilllaw51.OrderRefused", spec := "orderRefused", unfollowed := true, recurses := true, apart := false, narrowed := true }
def OrderRefusedUptoSaid : Prop := orderRefusedUptoRow.holds Try.pinned (OpenSpec.upto orderRefusedSpec)

/-- 'papermilllaw51.OrderCopies', WHERE WHAT IT READS IS OF BULK AT MOST 1048576: true; the input reads as it did. -/
def orderCopiesUptoRow : OpenClaim := { program := "ythmhehfbepijgaa", sum := "8ceb47d09d025039dc4e6d0b3e9e151bccd81bd8c9e076733ffcd031eff0a0e5", func := "papermill/papermilllaw51.OrderCopies", spec := "orderCopies", unfollowed := true, recurses := true, apart := false, narrowed := true }
def OrderCopiesUptoSaid : Prop := orderCopiesUptoRow.holds Try.pinned (OpenSpec.upto orderCopiesSpec)

/-- 'papermilllaw51.OrderNil', WHERE WHAT IT READS IS OF BULK AT MOST 1048576: true; the input reads as it did. -/
def orderNilUptoRow : OpenClaim := { program := "ythmhehfbepijgaa", sum := "8ceb47d09d025039dc4e6d0b3e9e151bccd81bd8c9e076733ffcd031eff0a0e5", func := "papermill/papermilllaw51.OrderNil", spec := "orderNil", unfollowed := true, recurses := true, apart := false, narrowed := true }
def OrderNilUptoSaid : Prop := orderNilUptoRow.holds Try.pinned (OpenSpec.upto orderNilSpec)

end Rows
end Go.Proofs.Ythmhehfbepijgaa
