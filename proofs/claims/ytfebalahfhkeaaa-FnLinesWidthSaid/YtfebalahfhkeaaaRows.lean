/-
  No cell of these rows narrows 'for every input' (looked for: loops, veiled, ifaces, maps, wideKeys, modest, calm, conditions, laid).
  DERIVED. THE GIVEN ROWS OF THIS SEAT. 10 by the template 'for every input the law returns true; each argument reads behind the call as it read before'; 0 by the template 'total and deterministic' (their statements: YtfebalahfhkeaaaTotals.lean).
  GIVEN WITH THE SEED: the statements are not yours to turn. If you find one false, say at which input.
  Laid BY PROGRAM, IN A SANDBOX (cutbox-rows.mjs): the forced cells as the released guide's own fill.sh prints them over the translation 344181840bf7359a… (all of the seat's roots in one cut). By AI agents, Wed Nov 11 2026. No macro, syntax, notation, axiom, sorry.
-/
import Derived.Test.YtfebalahfhkeaaaChecked
import GoSem.Claim
import GoSem.ClaimJoined
import GoSem.ClaimMapViews
import Derived.JoinedTies
import Derived.KernelRfl
namespace Go.Proofs.Ytfebalahfhkeaaa
/- THE CELL 'sum', in the pinned program and in every row, IS THE sha256 OF THE DUMP (.gsa) THAT YtfebalahfhkeaaaProg.lean LOADS. Nothing in Lean hashes anything: it is a label: what it is worth is what the hold of that sum in a sandbox is worth. -/
noncomputable def Try.pinned : Pinned := { name := "ytfebalahfhkeaaa", sum := "344181840bf7359a75c19f78e0e696a514b7b019daaf4ff6beca0de7bd7eb1ba", checked := Try.checked }
namespace Rows
def none {H : Type} : Left H := { results := [], args := [] }

/-- 'laws.FnExactLineLength': WHATEVER THE INPUT: true; the input reads as it did. -/
def fnExactLineLengthSpec : ChangeSpec := { name := "fnExactLineLength", fn := fun _ => fun
  | [d] => { results := [.lit (.bool true)], args := [d] }
  | _ => none }
def fnExactLineLengthRow : OpenClaim := { program := "ytfebalahfhkeaaa", sum := "344181840bf7359a75c19f78e0e696a514b7b019daaf4ff6beca0de7bd7eb1ba", func := "loop.example/g00882/laws.FnExactLineLength", spec := "fnExactLineLength", inPlace := ["internal/bytealg.IndexByteString", "internal/bytealg.IndexString", "internal/abi.NoEscape", "internal/bytealg.MakeNoZero"], unfollowed := true, recurses := true, named := ["internal/bytealg.MaxLen"], apart := false }
def FnExactLineLengthSaid : Prop := fnExactLineLengthRow.holds Try.pinned (OpenSpec.ofChange fnExactLineLengthSpec)

/-- ITS FALSE NEIGHBOUR: 'it returns false'. Refute it at one input. -/
def fnExactLineLengthWrong : ChangeSpec := { name := "fnExactLineLength", fn := fun _ => fun
  | [d] => { results := [.lit (.bool false)], args := [d] }
  | _ => none }
def FnExactLineLengthWrongFalsely : Prop := fnExactLineLengthRow.holds Try.pinned (OpenSpec.ofChange fnExactLineLengthWrong)

/-- 'laws.FnExactMinWidth': WHATEVER THE INPUT: true; the input reads as it did. -/
def fnExactMinWidthSpec : ChangeSpec := { name := "fnExactMinWidth", fn := fun _ => fun
  | [d1, d2] => { results := [.lit (.bool true)], args := [d1, d2] }
  | _ => none }
def fnExactMinWidthRow : OpenClaim := { program := "ytfebalahfhkeaaa", sum := "344181840bf7359a75c19f78e0e696a514b7b019daaf4ff6beca0de7bd7eb1ba", func := "loop.example/g00882/laws.FnExactMinWidth", spec := "fnExactMinWidth", inPlace := ["internal/bytealg.IndexByteString", "internal/bytealg.IndexString", "internal/abi.NoEscape", "internal/bytealg.MakeNoZero"], unfollowed := true, recurses := true, named := ["internal/bytealg.MaxLen"], apart := false }
def FnExactMinWidthSaid : Prop := fnExactMinWidthRow.holds Try.pinned (OpenSpec.ofChange fnExactMinWidthSpec)

/-- ITS FALSE NEIGHBOUR: 'it returns false'. Refute it at one input. -/
def fnExactMinWidthWrong : ChangeSpec := { name := "fnExactMinWidth", fn := fun _ => fun
  | [d1, d2] => { results := [.lit (.bool false)], args := [d1, d2] }
  | _ => none }
def FnExactMinWidthWrongFalsely : Prop := fnExactMinWidthRow.holds Try.pinned (OpenSpec.ofChange fnExactMinWidthWrong)

/-- 'laws.FnExactGreedyBreak': WHATEVER THE INPUT: true; the input reads as it did. -/
def fnExactGreedyBreakSpec : ChangeSpec := { name := "fnExactGreedyBreak", fn := fun _ => fun
  | [d1, d2] => { results := [.lit (.bool true)], args := [d1, d2] }
  | _ => none }
def fnExactGreedyBreakRow : OpenClaim := { program := "ytfebalahfhkeaaa", sum := "344181840bf7359a75c19f78e0e696a514b7b019daaf4ff6beca0de7bd7eb1ba", func := "loop.example/g00882/laws.FnExactGreedyBreak", spec := "fnExactGreedyBreak", inPlace := ["internal/bytealg.IndexByteString", "internal/bytealg.IndexString", "internal/abi.NoEscape", "internal/bytealg.MakeNoZero"], unfollowed := true, recurses := true, named := ["internal/bytealg.MaxLen"], apart := false }
def FnExactGreedyBreakSaid : Prop := fnExactGreedyBreakRow.holds Try.pinned (OpenSpec.ofChange fnExactGreedyBreakSpec)

/-- ITS FALSE NEIGHBOUR: 'it returns false'. Refute it at one input. -/
def fnExactGreedyBreakWrong : ChangeSpec := { name := "fnExactGreedyBreak", fn := fun _ => fun
  | [d1, d2] => { results := [.lit (.bool false)], args := [d1, d2] }
  | _ => none }
def FnExactGreedyBreakWrongFalsely : Prop := fnExactGreedyBreakRow.holds Try.pinned (OpenSpec.ofChange fnExactGreedyBreakWrong)

/-- 'laws.FnExactLinesAt': WHATEVER THE INPUT: true; the input reads as it did. -/
def fnExactLinesAtSpec : ChangeSpec := { name := "fnExactLinesAt", fn := fun _ => fun
  | [d1, d2] => { results := [.lit (.bool true)], args := [d1, d2] }
  | _ => none }
def fnExactLinesAtRow : OpenClaim := { program := "ytfebalahfhkeaaa", sum := "344181840bf7359a75c19f78e0e696a514b7b019daaf4ff6beca0de7bd7eb1ba", func := "loop.example/g00882/laws.FnExactLinesAt", spec := "fnExactLinesAt", inPlace := ["internal/bytealg.IndexByteString", "internal/bytealg.IndexString", "internal/abi.NoEscape", "internal/bytealg.MakeNoZero"], unfollowed := true, recurses := true, named := ["internal/bytealg.MaxLen"], apart := false }
def FnExactLinesAtSaid : Prop := fnExactLinesAtRow.holds Try.pinned (OpenSpec.ofChange fnExactLinesAtSpec)

/-- ITS FALSE NEIGHBOUR: 'it returns false'. Refute it at one input. -/
def fnExactLinesAtWrong : ChangeSpec := { name := "fnExactLinesAt", fn := fun _ => fun
  | [d1, d2] => { results := [.lit (.bool false)], args := [d1, d2] }
  | _ => none }
def FnExactLinesAtWrongFalsely : Prop := fnExactLinesAtRow.holds Try.pinned (OpenSpec.ofChange fnExactLinesAtWrong)

/-- 'laws.FnExactBalanceLines': WHATEVER THE INPUT: true; the input reads as it did. -/
def fnExactBalanceLinesSpec : ChangeSpec := { name := "fnExactBalanceLines", fn := fun _ => fun
  | [d1, d2] => { results := [.lit (.bool true)], args := [d1, d2] }
  | _ => none }
def fnExactBalanceLinesRow : OpenClaim := { program := "ytfebalahfhkeaaa", sum := "344181840bf7359a75c19f78e0e696a514b7b019daaf4ff6beca0de7bd7eb1ba", func := "loop.example/g00882/laws.FnExactBalanceLines", spec := "fnExactBalanceLines", inPlace := ["internal/bytealg.IndexByteString", "internal/bytealg.IndexString", "internal/abi.NoEscape", "internal/bytealg.MakeNoZero"], unfollowed := true, recurses := true, named := ["internal/bytealg.MaxLen"], apart := false }
def FnExactBalanceLinesSaid : Prop := fnExactBalanceLinesRow.holds Try.pinned (OpenSpec.ofChange fnExactBalanceLinesSpec)

/-- ITS FALSE NEIGHBOUR: 'it returns false'. Refute it at one input. -/
def fnExactBalanceLinesWrong : ChangeSpec := { name := "fnExactBalanceLines", fn := fun _ => fun
  | [d1, d2] => { results := [.lit (.bool false)], args := [d1, d2] }
  | _ => none }
def FnExactBalanceLinesWrongFalsely : Prop := fnExactBalanceLinesRow.holds Try.pinned (OpenSpec.ofChange fnExactBalanceLinesWrong)

/-- 'laws.FnExactBreakCost': WHATEVER THE INPUT: true; the input reads as it did. -/
def fnExactBreakCostSpec : ChangeSpec := { name := "fnExactBreakCost", fn := fun _ => fun
  | [d1, d2, d3] => { results := [.lit (.bool true)], args := [d1, d2, d3] }
  | _ => none }
def fnExactBreakCostRow : OpenClaim := { program := "ytfebalahfhkeaaa", sum := "344181840bf7359a75c19f78e0e696a514b7b019daaf4ff6beca0de7bd7eb1ba", func := "loop.example/g00882/laws.FnExactBreakCost", spec := "fnExactBreakCost", inPlace := ["internal/bytealg.IndexByteString", "internal/bytealg.IndexString", "internal/abi.NoEscape", "internal/bytealg.MakeNoZero"], unfollowed := true, recurses := true, named := ["internal/bytealg.MaxLen"], apart := false }
def FnExactBreakCostSaid : Prop := fnExactBreakCostRow.holds Try.pinned (OpenSpec.ofChange fnExactBreakCostSpec)

/-- ITS FALSE NEIGHBOUR: 'it returns false'. Refute it at one input. -/
def fnExactBreakCostWrong : ChangeSpec := { name := "fnExactBreakCost", fn := fun _ => fun
  | [d1, d2, d3] => { results := [.lit (.bool false)], args := [d1, d2, d3] }
  | _ => none }
def FnExactBreakCostWrongFalsely : Prop := fnExactBreakCostRow.holds Try.pinned (OpenSpec.ofChange fnExactBreakCostWrong)

/-- 'laws.FnLinesWidth': WHATEVER THE INPUT: true; the input reads as it did. -/
def fnLinesWidthSpec : ChangeSpec := { name := "fnLinesWidth", fn := fun _ => fun
  | [d] => { results := [.lit (.bool true)], args := [d] }
  | _ => none }
def fnLinesWidthRow : OpenClaim := { program := "ytfebalahfhkeaaa", sum := "344181840bf7359a75c19f78e0e696a514b7b019daaf4ff6beca0de7bd7eb1ba", func := "loop.example/g00882/laws.FnLinesWidth", spec := "fnLinesWidth", inPlace := ["internal/bytealg.IndexByteString", "internal/bytealg.IndexString", "internal/abi.NoEscape", "internal/bytealg.MakeNoZero"], unfollowed := true, recurses := true, named := ["internal/bytealg.MaxLen"], apart := false }
def FnLinesWidthSaid : Prop := fnLinesWidthRow.holds Try.pinned (OpenSpec.ofChange fnLinesWidthSpec)

/-- ITS FALSE NEIGHBOUR: 'it returns false'. Refute it at one input. -/
def fnLinesWidthWrong : ChangeSpec := { name := "fnLinesWidth", fn := fun _ => fun
  | [d] => { results := [.lit (.bool false)], args := [d] }
  | _ => none }
def FnLinesWidthWrongFalsely : Prop := fnLinesWidthRow.holds Try.pinned (OpenSpec.ofChange fnLinesWidthWrong)

/-- 'laws.FnExactBreakLines': WHATEVER THE INPUT: true; the input reads as it did. -/
def fnExactBreakLinesSpec : ChangeSpec := { name := "fnExactBreakLines", fn := fun _ => fun
  | [d1, d2] => { results := [.lit (.bool true)], args := [d1, d2] }
  | _ => none }
def fnExactBreakLinesRow : OpenClaim := { program := "ytfebalahfhkeaaa", sum := "344181840bf7359a75c19f78e0e696a514b7b019daaf4ff6beca0de7bd7eb1ba", func := "loop.example/g00882/laws.FnExactBreakLines", spec := "fnExactBreakLines", inPlace := ["internal/bytealg.IndexByteString", "internal/bytealg.IndexString", "internal/abi.NoEscape", "internal/bytealg.MakeNoZero"], unfollowed := true, recurses := true, named := ["internal/bytealg.MaxLen"], apart := false }
def FnExactBreakLinesSaid : Prop := fnExactBreakLinesRow.holds Try.pinned (OpenSpec.ofChange fnExactBreakLinesSpec)

/-- ITS FALSE NEIGHBOUR: 'it returns false'. Refute it at one input. -/
def fnExactBreakLinesWrong : ChangeSpec := { name := "fnExactBreakLines", fn := fun _ => fun
  | [d1, d2] => { results := [.lit (.bool false)], args := [d1, d2] }
  | _ => none }
def FnExactBreakLinesWrongFalsely : Prop := fnExactBreakLinesRow.holds Try.pinned (OpenSpec.ofChange fnExactBreakLinesWrong)

/-- 'laws.FnLinesGreedy': WHATEVER THE INPUT: true; the input reads as it did. -/
def fnLinesGreedySpec : ChangeSpec := { name := "fnLinesGreedy", fn := fun _ => fun
  | [d] => { results := [.lit (.bool true)], args := [d] }
  | _ => none }
def fnLinesGreedyRow : OpenClaim := { program := "ytfebalahfhkeaaa", sum := "344181840bf7359a75c19f78e0e696a514b7b019daaf4ff6beca0de7bd7eb1ba", func := "loop.example/g00882/laws.FnLinesGreedy", spec := "fnLinesGreedy", inPlace := ["internal/bytealg.IndexByteString", "internal/bytealg.IndexString", "internal/abi.NoEscape", "internal/bytealg.MakeNoZero"], unfollowed := true, recurses := true, named := ["internal/bytealg.MaxLen"], apart := false }
def FnLinesGreedySaid : Prop := fnLinesGreedyRow.holds Try.pinned (OpenSpec.ofChange fnLinesGreedySpec)

/-- ITS FALSE NEIGHBOUR: 'it returns false'. Refute it at one input. -/
def fnLinesGreedyWrong : ChangeSpec := { name := "fnLinesGreedy", fn := fun _ => fun
  | [d] => { results := [.lit (.bool false)], args := [d] }
  | _ => none }
def FnLinesGreedyWrongFalsely : Prop := fnLinesGreedyRow.holds Try.pinned (OpenSpec.ofChange fnLinesGreedyWrong)

/-- 'laws.FnLinesOptimal': WHATEVER THE INPUT: true; the input reads as it did. -/
def fnLinesOptimalSpec : ChangeSpec := { name := "fnLinesOptimal", fn := fun _ => fun
  | [d] => { results := [.lit (.bool true)], args := [d] }
  | _ => none }
def fnLinesOptimalRow : OpenClaim := { program := "ytfebalahfhkeaaa", sum := "344181840bf7359a75c19f78e0e696a514b7b019daaf4ff6beca0de7bd7eb1ba", func := "loop.example/g00882/laws.FnLinesOptimal", spec := "fnLinesOptimal", inPlace := ["internal/bytealg.IndexByteString", "internal/bytealg.IndexString", "internal/abi.NoEscape", "internal/bytealg.MakeNoZero"], unfollowed := true, recurses := true, named := ["internal/bytealg.MaxLen"], apart := false }
def FnLinesOptimalSaid : Prop := fnLinesOptimalRow.holds Try.pinned (OpenSpec.ofChange fnLinesOptimalSpec)

/-- ITS FALSE NEIGHBOUR: 'it returns false'. Refute it at one input. -/
def fnLinesOptimalWrong : ChangeSpec := { name := "fnLinesOptimal", fn := fun _ => fun
  | [d] => { results := [.lit (.bool false)], args := [d] }
  | _ => none }
def FnLinesOptimalWrongFalsely : Prop := fnLinesOptimalRow.holds Try.pinned (OpenSpec.ofChange fnLinesOptimalWrong)

/- THE SECOND FORM. 'bulk': how many values and letters a reading holds, each counted each time it is reached (what is shared counts as often as it is met; a slice's spare places count too). A statement '..UptoSaid' is the law's where the arguments, and the package variables that the reading takes, are together of bulk at most 1048576: NARROWER than '..Said'. Prove '..Said' where nothing that the law and all that it calls make is longer than what came in: it says more and counts as full. Else prove '..UptoSaid'. A law counts once. -/
mutual
def uptoBulk {H : Type} : DataW H → Nat
  | .lit (.string bytes) => bytes.length + 1
  | .lit _ => 1
  | .nil => 1
  | .ptr d => uptoBulk d + 1
  | .slice elems spare => uptoBulkAll elems + uptoBulkAll spare + 1
  | .agg parts => uptoBulkAll parts + 1
  | .iface _ d => uptoBulk d + 1
  | .map entries => uptoBulkEntries entries + 1
  | .held _ => 1
def uptoBulkAll {H : Type} : List (DataW H) → Nat
  | [] => 0
  | d :: r => uptoBulk d + uptoBulkAll r
def uptoBulkEntries {H : Type} : List (Lit × DataW H) → Nat
  | [] => 0
  | x :: r => uptoBulkEntry x + uptoBulkEntries r
def uptoBulkEntry {H : Type} : Lit × DataW H → Nat
  | (.string bytes, d) => bytes.length + uptoBulk d + 1
  | (_, d) => uptoBulk d + 1
 end
def uptoSmall : (H : Type) → List (DataW H) → Bool := fun _ ds => decide (uptoBulkAll ds ≤ 1048576)
def OpenSpec.upto (s : _root_.Go.ChangeSpec) : _root_.Go.OpenSpec := { _root_.Go.OpenSpec.ofChange s with cond := some uptoSmall }

/-- 'laws.FnExactLineLength', WHERE WHAT IT READS IS OF BULK AT MOST 1048576: true; the input reads as it did. -/
def fnExactLineLengthUptoRow : OpenClaim := { program := "ytfebalahfhkeaaa", sum := "344181840bf7359a75c19f78e0e696a514b7b019daaf4ff6beca0de7bd7eb1ba", func := "loop.example/g00882/laws.FnExactLineLength", spec := "fnExactLineLength", inPlace := ["internal/bytealg.IndexByteString", "internal/bytealg.IndexString", "internal/abi.NoEscape", "internal/bytealg.MakeNoZero"], unfollowed := true, recurses := true, named := ["internal/bytealg.MaxLen"], apart := false, narrowed := true }
def FnExactLineLengthUptoSaid : Prop := fnExactLineLengthUptoRow.holds Try.pinned (OpenSpec.upto fnExactLineLengthSpec)

/-- 'laws.FnExactMinWidth', WHERE WHAT IT READS IS OF BULK AT MOST 1048576: true; the input reads as it did. -/
def fnExactMinWidthUptoRow : OpenClaim := { program := "ytfebalahfhkeaaa", sum := "344181840bf7359a75c19f78e0e696a514b7b019daaf4ff6beca0de7bd7eb1ba", func := "loop.example/g00882/laws.FnExactMinWidth", spec := "fnExactMinWidth", inPlace := ["internal/bytealg.IndexByteString", "internal/bytealg.IndexString", "internal/abi.NoEscape", "internal/bytealg.MakeNoZero"], unfollowed := true, recurses := true, named := ["internal/bytealg.MaxLen"], apart := false, narrowed := true }
def FnExactMinWidthUptoSaid : Prop := fnExactMinWidthUptoRow.holds Try.pinned (OpenSpec.upto fnExactMinWidthSpec)

/-- 'laws.FnExactGreedyBreak', WHERE WHAT IT READS IS OF BULK AT MOST 1048576: true; the input reads as it did. -/
def fnExactGreedyBreakUptoRow : OpenClaim := { program := "ytfebalahfhkeaaa", sum := "344181840bf7359a75c19f78e0e696a514b7b019daaf4ff6beca0de7bd7eb1ba", func := "loop.example/g00882/laws.FnExactGreedyBreak", spec := "fnExactGreedyBreak", inPlace := ["internal/bytealg.IndexByteString", "internal/bytealg.IndexString", "internal/abi.NoEscape", "internal/bytealg.MakeNoZero"], unfollowed := true, recurses := true, named := ["internal/bytealg.MaxLen"], apart := false, narrowed := true }
def FnExactGreedyBreakUptoSaid : Prop := fnExactGreedyBreakUptoRow.holds Try.pinned (OpenSpec.upto fnExactGreedyBreakSpec)

/-- 'laws.FnExactLinesAt', WHERE WHAT IT READS IS OF BULK AT MOST 1048576: true; the input reads as it did. -/
def fnExactLinesAtUptoRow : OpenClaim := { program := "ytfebalahfhkeaaa", sum := "344181840bf7359a75c19f78e0e696a514b7b019daaf4ff6beca0de7bd7eb1ba", func := "loop.example/g00882/laws.FnExactLinesAt", spec := "fnExactLinesAt", inPlace := ["internal/bytealg.IndexByteString", "internal/bytealg.IndexString", "internal/abi.NoEscape", "internal/bytealg.MakeNoZero"], unfollowed := true, recurses := true, named := ["internal/bytealg.MaxLen"], apart := false, narrowed := true }
def FnExactLinesAtUptoSaid : Prop := fnExactLinesAtUptoRow.holds Try.pinned (OpenSpec.upto fnExactLinesAtSpec)

/-- 'laws.FnExactBalanceLines', WHERE WHAT IT READS IS OF BULK AT MOST 1048576: true; the input reads as it did. -/
def fnExactBalanceLinesUptoRow : OpenClaim := { program := "ytfebalahfhkeaaa", sum := "344181840bf7359a75c19f78e0e696a514b7b019daaf4ff6beca0de7bd7eb1ba", func := "loop.example/g00882/laws.FnExactBalanceLines", spec := "fnExactBalanceLines", inPlace := ["internal/bytealg.IndexByteString", "internal/bytealg.IndexString", "internal/abi.NoEscape", "internal/bytealg.MakeNoZero"], unfollowed := true, recurses := true, named := ["internal/bytealg.MaxLen"], apart := false, narrowed := true }
def FnExactBalanceLinesUptoSaid : Prop := fnExactBalanceLinesUptoRow.holds Try.pinned (OpenSpec.upto fnExactBalanceLinesSpec)

/-- 'laws.FnExactBreakCost', WHERE WHAT IT READS IS OF BULK AT MOST 1048576: true; the input reads as it did. -/
def fnExactBreakCostUptoRow : OpenClaim := { program := "ytfebalahfhkeaaa", sum := "344181840bf7359a75c19f78e0e696a514b7b019daaf4ff6beca0de7bd7eb1ba", func := "loop.example/g00882/laws.FnExactBreakCost", spec := "fnExactBreakCost", inPlace := ["internal/bytealg.IndexByteString", "internal/bytealg.IndexString", "internal/abi.NoEscape", "internal/bytealg.MakeNoZero"], unfollowed := true, recurses := true, named := ["internal/bytealg.MaxLen"], apart := false, narrowed := true }
def FnExactBreakCostUptoSaid : Prop := fnExactBreakCostUptoRow.holds Try.pinned (OpenSpec.upto fnExactBreakCostSpec)

/-- 'laws.FnLinesWidth', WHERE WHAT IT READS IS OF BULK AT MOST 1048576: true; the input reads as it did. -/
def fnLinesWidthUptoRow : OpenClaim := { program := "ytfebalahfhkeaaa", sum := "344181840bf7359a75c19f78e0e696a514b7b019daaf4ff6beca0de7bd7eb1ba", func := "loop.example/g00882/laws.FnLinesWidth", spec := "fnLinesWidth", inPlace := ["internal/bytealg.IndexByteString", "internal/bytealg.IndexString", "internal/abi.NoEscape", "internal/bytealg.MakeNoZero"], unfollowed := true, recurses := true, named := ["internal/bytealg.MaxLen"], apart := false, narrowed := true }
def FnLinesWidthUptoSaid : Prop := fnLinesWidthUptoRow.holds Try.pinned (OpenSpec.upto fnLinesWidthSpec)

/-- 'laws.FnExactBreakLines', WHERE WHAT IT READS IS OF BULK AT MOST 1048576: true; the input reads as it did. -/
def fnExactBreakLinesUptoRow : OpenClaim := { program := "ytfebalahfhkeaaa", sum := "344181840bf7359a75c19f78e0e696a514b7b019daaf4ff6beca0de7bd7eb1ba", func := "loop.example/g00882/laws.FnExactBreakLines", spec := "fnExactBreakLines", inPlace := ["internal/bytealg.IndexByteString", "internal/bytealg.IndexString", "internal/abi.NoEscape", "internal/bytealg.MakeNoZero"], unfollowed := true, recurses := true, named := ["internal/bytealg.MaxLen"], apart := false, narrowed := true }
def FnExactBreakLinesUptoSaid : Prop := fnExactBreakLinesUptoRow.holds Try.pinned (OpenSpec.upto fnExactBreakLinesSpec)

/-- 'laws.FnLinesGreedy', WHERE WHAT IT READS IS OF BULK AT MOST 1048576: true; the input reads as it did. -/
def fnLinesGreedyUptoRow : OpenClaim := { program := "ytfebalahfhkeaaa", sum := "344181840bf7359a75c19f78e0e696a514b7b019daaf4ff6beca0de7bd7eb1ba", func := "loop.example/g00882/laws.FnLinesGreedy", spec := "fnLinesGreedy", inPlace := ["internal/bytealg.IndexByteString", "internal/bytealg.IndexString", "internal/abi.NoEscape", "internal/bytealg.MakeNoZero"], unfollowed := true, recurses := true, named := ["internal/bytealg.MaxLen"], apart := false, narrowed := true }
def FnLinesGreedyUptoSaid : Prop := fnLinesGreedyUptoRow.holds Try.pinned (OpenSpec.upto fnLinesGreedySpec)

/-- 'laws.FnLinesOptimal', WHERE WHAT IT READS IS OF BULK AT MOST 1048576: true; the input reads as it did. -/
def fnLinesOptimalUptoRow : OpenClaim := { program := "ytfebalahfhkeaaa", sum := "344181840bf7359a75c19f78e0e696a514b7b019daaf4ff6beca0de7bd7eb1ba", func := "loop.example/g00882/laws.FnLinesOptimal", spec := "fnLinesOptimal", inPlace := ["internal/bytealg.IndexByteString", "internal/bytealg.IndexString", "internal/abi.NoEscape", "internal/bytealg.MakeNoZero"], unfollowed := true, recurses := true, named := ["internal/bytealg.MaxLen"], apart := false, narrowed := true }
def FnLinesOptimalUptoSaid : Prop := fnLinesOptimalUptoRow.holds Try.pinned (OpenSpec.upto fnLinesOptimalSpec)

end Rows
end Go.Proofs.Ytfebalahfhkeaaa
