/-
  No cell of these rows narrows 'for every input' (looked for: loops, veiled, ifaces, maps, wideKeys, modest, calm, conditions, laid).
  DERIVED. THE GIVEN ROWS OF THIS SEAT. 9 by the template 'for every input the law returns true; each argument reads behind the call as it read before'; 0 by the template 'total and deterministic' (their statements: YtbboadheacmddaaTotals.lean).
  GIVEN WITH THE SEED: the statements are not yours to turn. If you find one false, say at which input.
  Laid BY PROGRAM, IN A SANDBOX (cutbox-rows.mjs): the forced cells as the released guide's own fill.sh prints them over the translation 608cae5b01e38164… (all of the seat's roots in one cut). By AI agents, Wed Nov 11 2026. No macro, syntax, notation, axiom, sorry.
-/
import Derived.Test.YtbboadheacmddaaChecked
import GoSem.Claim
import GoSem.ClaimJoined
import GoSem.ClaimMapViews
import Derived.JoinedTies
import Derived.KernelRfl
namespace Go.Proofs.Ytbboadheacmddaa
/- THE CELL 'sum', in the pinned program and in every row, IS THE sha256 OF THE DUMP (.gsa) THAT YtbboadheacmddaaProg.lean LOADS. Nothing in Lean hashes anything: it is a label: what it is worth is what the hold of that sum in a sandbox is worth. -/
noncomputable def Try.pinned : Pinned := { name := "ytbboadheacmddaa", sum := "608cae5b01e381648a4714baa6f121ad56d444550c8eb250f3383604f42c65e8", checked := Try.checked }
namespace Rows
def none {H : Type} : Left H := { results := [], args := [] }

/-- 'laws.FnExactIsValidDeck': WHATEVER THE INPUT: true; the input reads as it did. -/
def fnExactIsValidDeckSpec : ChangeSpec := { name := "fnExactIsValidDeck", fn := fun _ => fun
  | [d] => { results := [.lit (.bool true)], args := [d] }
  | _ => none }
def fnExactIsValidDeckRow : OpenClaim := { program := "ytbboadheacmddaa", sum := "608cae5b01e381648a4714baa6f121ad56d444550c8eb250f3383604f42c65e8", func := "loop.example/g00882/laws.FnExactIsValidDeck", spec := "fnExactIsValidDeck", inPlace := ["internal/bytealg.IndexByteString", "internal/bytealg.IndexString"], unfollowed := true, recurses := true, named := ["internal/bytealg.MaxLen"], apart := false }
def FnExactIsValidDeckSaid : Prop := fnExactIsValidDeckRow.holds Try.pinned (OpenSpec.ofChange fnExactIsValidDeckSpec)

/-- ITS FALSE NEIGHBOUR: 'it returns false'. Refute it at one input. -/
def fnExactIsValidDeckWrong : ChangeSpec := { name := "fnExactIsValidDeck", fn := fun _ => fun
  | [d] => { results := [.lit (.bool false)], args := [d] }
  | _ => none }
def FnExactIsValidDeckWrongFalsely : Prop := fnExactIsValidDeckRow.holds Try.pinned (OpenSpec.ofChange fnExactIsValidDeckWrong)

/-- 'laws.FnDrillReview': WHATEVER THE INPUT: true; the input reads as it did. -/
def fnDrillReviewSpec : ChangeSpec := { name := "fnDrillReview", fn := fun _ => fun
  | [d] => { results := [.lit (.bool true)], args := [d] }
  | _ => none }
def fnDrillReviewRow : OpenClaim := { program := "ytbboadheacmddaa", sum := "608cae5b01e381648a4714baa6f121ad56d444550c8eb250f3383604f42c65e8", func := "loop.example/g00882/laws.FnDrillReview", spec := "fnDrillReview", inPlace := ["internal/bytealg.IndexByteString", "internal/bytealg.IndexString"], unfollowed := true, recurses := true, named := ["internal/bytealg.MaxLen"], apart := false }
def FnDrillReviewSaid : Prop := fnDrillReviewRow.holds Try.pinned (OpenSpec.ofChange fnDrillReviewSpec)

/-- ITS FALSE NEIGHBOUR: 'it returns false'. Refute it at one input. -/
def fnDrillReviewWrong : ChangeSpec := { name := "fnDrillReview", fn := fun _ => fun
  | [d] => { results := [.lit (.bool false)], args := [d] }
  | _ => none }
def FnDrillReviewWrongFalsely : Prop := fnDrillReviewRow.holds Try.pinned (OpenSpec.ofChange fnDrillReviewWrong)

/-- 'laws.FnExactLevelCounts': WHATEVER THE INPUT: true; the input reads as it did. -/
def fnExactLevelCountsSpec : ChangeSpec := { name := "fnExactLevelCounts", fn := fun _ => fun
  | [d] => { results := [.lit (.bool true)], args := [d] }
  | _ => none }
def fnExactLevelCountsRow : OpenClaim := { program := "ytbboadheacmddaa", sum := "608cae5b01e381648a4714baa6f121ad56d444550c8eb250f3383604f42c65e8", func := "loop.example/g00882/laws.FnExactLevelCounts", spec := "fnExactLevelCounts", inPlace := ["internal/bytealg.IndexByteString", "internal/bytealg.IndexString"], unfollowed := true, recurses := true, named := ["internal/bytealg.MaxLen"], apart := false }
def FnExactLevelCountsSaid : Prop := fnExactLevelCountsRow.holds Try.pinned (OpenSpec.ofChange fnExactLevelCountsSpec)

/-- ITS FALSE NEIGHBOUR: 'it returns false'. Refute it at one input. -/
def fnExactLevelCountsWrong : ChangeSpec := { name := "fnExactLevelCounts", fn := fun _ => fun
  | [d] => { results := [.lit (.bool false)], args := [d] }
  | _ => none }
def FnExactLevelCountsWrongFalsely : Prop := fnExactLevelCountsRow.holds Try.pinned (OpenSpec.ofChange fnExactLevelCountsWrong)

/-- 'laws.FnExactReviewCard': WHATEVER THE INPUT: true; the input reads as it did. -/
def fnExactReviewCardSpec : ChangeSpec := { name := "fnExactReviewCard", fn := fun _ => fun
  | [d1, d2, d3, d4] => { results := [.lit (.bool true)], args := [d1, d2, d3, d4] }
  | _ => none }
def fnExactReviewCardRow : OpenClaim := { program := "ytbboadheacmddaa", sum := "608cae5b01e381648a4714baa6f121ad56d444550c8eb250f3383604f42c65e8", func := "loop.example/g00882/laws.FnExactReviewCard", spec := "fnExactReviewCard", inPlace := ["internal/bytealg.IndexByteString", "internal/bytealg.IndexString"], unfollowed := true, recurses := true, named := ["internal/bytealg.MaxLen"], apart := false }
def FnExactReviewCardSaid : Prop := fnExactReviewCardRow.holds Try.pinned (OpenSpec.ofChange fnExactReviewCardSpec)

/-- ITS FALSE NEIGHBOUR: 'it returns false'. Refute it at one input. -/
def fnExactReviewCardWrong : ChangeSpec := { name := "fnExactReviewCard", fn := fun _ => fun
  | [d1, d2, d3, d4] => { results := [.lit (.bool false)], args := [d1, d2, d3, d4] }
  | _ => none }
def FnExactReviewCardWrongFalsely : Prop := fnExactReviewCardRow.holds Try.pinned (OpenSpec.ofChange fnExactReviewCardWrong)

/-- 'laws.FnExactNewDeck': WHATEVER THE INPUT: true; the input reads as it did. -/
def fnExactNewDeckSpec : ChangeSpec := { name := "fnExactNewDeck", fn := fun _ => fun
  | [d] => { results := [.lit (.bool true)], args := [d] }
  | _ => none }
def fnExactNewDeckRow : OpenClaim := { program := "ytbboadheacmddaa", sum := "608cae5b01e381648a4714baa6f121ad56d444550c8eb250f3383604f42c65e8", func := "loop.example/g00882/laws.FnExactNewDeck", spec := "fnExactNewDeck", inPlace := ["internal/bytealg.abigen_runtime_cmpstring", "internal/bytealg.IndexByteString", "internal/bytealg.IndexString"], unfollowed := true, recurses := true, named := ["internal/bytealg.MaxLen"], apart := false }
def FnExactNewDeckSaid : Prop := fnExactNewDeckRow.holds Try.pinned (OpenSpec.ofChange fnExactNewDeckSpec)

/-- ITS FALSE NEIGHBOUR: 'it returns false'. Refute it at one input. -/
def fnExactNewDeckWrong : ChangeSpec := { name := "fnExactNewDeck", fn := fun _ => fun
  | [d] => { results := [.lit (.bool false)], args := [d] }
  | _ => none }
def FnExactNewDeckWrongFalsely : Prop := fnExactNewDeckRow.holds Try.pinned (OpenSpec.ofChange fnExactNewDeckWrong)

/-- 'laws.FnExactNextCard': WHATEVER THE INPUT: true; the input reads as it did. -/
def fnExactNextCardSpec : ChangeSpec := { name := "fnExactNextCard", fn := fun _ => fun
  | [d1, d2] => { results := [.lit (.bool true)], args := [d1, d2] }
  | _ => none }
def fnExactNextCardRow : OpenClaim := { program := "ytbboadheacmddaa", sum := "608cae5b01e381648a4714baa6f121ad56d444550c8eb250f3383604f42c65e8", func := "loop.example/g00882/laws.FnExactNextCard", spec := "fnExactNextCard", inPlace := ["internal/bytealg.IndexByteString", "internal/bytealg.IndexString"], unfollowed := true, recurses := true, named := ["internal/bytealg.MaxLen"], apart := false }
def FnExactNextCardSaid : Prop := fnExactNextCardRow.holds Try.pinned (OpenSpec.ofChange fnExactNextCardSpec)

/-- ITS FALSE NEIGHBOUR: 'it returns false'. Refute it at one input. -/
def fnExactNextCardWrong : ChangeSpec := { name := "fnExactNextCard", fn := fun _ => fun
  | [d1, d2] => { results := [.lit (.bool false)], args := [d1, d2] }
  | _ => none }
def FnExactNextCardWrongFalsely : Prop := fnExactNextCardRow.holds Try.pinned (OpenSpec.ofChange fnExactNextCardWrong)

/-- 'laws.FnDrillDue': WHATEVER THE INPUT: true; the input reads as it did. -/
def fnDrillDueSpec : ChangeSpec := { name := "fnDrillDue", fn := fun _ => fun
  | [d] => { results := [.lit (.bool true)], args := [d] }
  | _ => none }
def fnDrillDueRow : OpenClaim := { program := "ytbboadheacmddaa", sum := "608cae5b01e381648a4714baa6f121ad56d444550c8eb250f3383604f42c65e8", func := "loop.example/g00882/laws.FnDrillDue", spec := "fnDrillDue", inPlace := ["internal/bytealg.IndexByteString", "internal/bytealg.IndexString"], unfollowed := true, recurses := true, named := ["internal/bytealg.MaxLen"], apart := false }
def FnDrillDueSaid : Prop := fnDrillDueRow.holds Try.pinned (OpenSpec.ofChange fnDrillDueSpec)

/-- ITS FALSE NEIGHBOUR: 'it returns false'. Refute it at one input. -/
def fnDrillDueWrong : ChangeSpec := { name := "fnDrillDue", fn := fun _ => fun
  | [d] => { results := [.lit (.bool false)], args := [d] }
  | _ => none }
def FnDrillDueWrongFalsely : Prop := fnDrillDueRow.holds Try.pinned (OpenSpec.ofChange fnDrillDueWrong)

/-- 'laws.FnExactDueCards': WHATEVER THE INPUT: true; the input reads as it did. -/
def fnExactDueCardsSpec : ChangeSpec := { name := "fnExactDueCards", fn := fun _ => fun
  | [d1, d2] => { results := [.lit (.bool true)], args := [d1, d2] }
  | _ => none }
def fnExactDueCardsRow : OpenClaim := { program := "ytbboadheacmddaa", sum := "608cae5b01e381648a4714baa6f121ad56d444550c8eb250f3383604f42c65e8", func := "loop.example/g00882/laws.FnExactDueCards", spec := "fnExactDueCards", inPlace := ["internal/bytealg.IndexByteString", "internal/bytealg.IndexString"], unfollowed := true, recurses := true, named := ["internal/bytealg.MaxLen"], apart := false }
def FnExactDueCardsSaid : Prop := fnExactDueCardsRow.holds Try.pinned (OpenSpec.ofChange fnExactDueCardsSpec)

/-- ITS FALSE NEIGHBOUR: 'it returns false'. Refute it at one input. -/
def fnExactDueCardsWrong : ChangeSpec := { name := "fnExactDueCards", fn := fun _ => fun
  | [d1, d2] => { results := [.lit (.bool false)], args := [d1, d2] }
  | _ => none }
def FnExactDueCardsWrongFalsely : Prop := fnExactDueCardsRow.holds Try.pinned (OpenSpec.ofChange fnExactDueCardsWrong)

/-- 'laws.FnExactSimulateDrill': WHATEVER THE INPUT: true; the input reads as it did. -/
def fnExactSimulateDrillSpec : ChangeSpec := { name := "fnExactSimulateDrill", fn := fun _ => fun
  | [d1, d2, d3] => { results := [.lit (.bool true)], args := [d1, d2, d3] }
  | _ => none }
def fnExactSimulateDrillRow : OpenClaim := { program := "ytbboadheacmddaa", sum := "608cae5b01e381648a4714baa6f121ad56d444550c8eb250f3383604f42c65e8", func := "loop.example/g00882/laws.FnExactSimulateDrill", spec := "fnExactSimulateDrill", inPlace := ["internal/bytealg.IndexByteString", "internal/bytealg.IndexString"], unfollowed := true, recurses := true, named := ["internal/bytealg.MaxLen"], apart := false }
def FnExactSimulateDrillSaid : Prop := fnExactSimulateDrillRow.holds Try.pinned (OpenSpec.ofChange fnExactSimulateDrillSpec)

/-- ITS FALSE NEIGHBOUR: 'it returns false'. Refute it at one input. -/
def fnExactSimulateDrillWrong : ChangeSpec := { name := "fnExactSimulateDrill", fn := fun _ => fun
  | [d1, d2, d3] => { results := [.lit (.bool false)], args := [d1, d2, d3] }
  | _ => none }
def FnExactSimulateDrillWrongFalsely : Prop := fnExactSimulateDrillRow.holds Try.pinned (OpenSpec.ofChange fnExactSimulateDrillWrong)

/- THE SECOND FORM. 'bulk': how many values and letters a reading holds, each counted each time it is reached (what is shared counts as often as it is met; a slice's spare places count too). A statement '..UptoSaid' is the law's where the arguments, and the package variables that the reading takes, are together of bulk at most 1048576: NARROWER than '..Said'. Prove '..Said' where nothing that the law and all that it calls make is longer than what came in: it says more and counts as full. Else prove '..UptoSaid'. A law counts once. -/
mutual
def uptoBulk {H : Type} : DataW H → Nat
  | .lit (.string bytes) => bytes.length + 1
  | .lit _ => 1
  | .nil => 1
  | .ptr d => uptoBulk d + 1
  | .slice elems spare => uptoBulkAll elems + uptoBulkAll spare + 1
  | .agg parts => uptoBulkAll parts + 1
  | .iface _ d => uptoBulk d + 1
  | .map entries => uptoBulkEntries entries + 1
  | .held _ => 1
def uptoBulkAll {H : Type} : List (DataW H) → Nat
  | [] => 0
  | d :: r => uptoBulk d + uptoBulkAll r
def uptoBulkEntries {H : Type} : List (Lit × DataW H) → Nat
  | [] => 0
  | x :: r => uptoBulkEntry x + uptoBulkEntries r
def uptoBulkEntry {H : Type} : Lit × DataW H → Nat
  | (.string bytes, d) => bytes.length + uptoBulk d + 1
  | (_, d) => uptoBulk d + 1
 end
def uptoSmall : (H : Type) → List (DataW H) → Bool := fun _ ds => decide (uptoBulkAll ds ≤ 1048576)
def OpenSpec.upto (s : _root_.Go.ChangeSpec) : _root_.Go.OpenSpec := { _root_.Go.OpenSpec.ofChange s with cond := some uptoSmall }

/-- 'laws.FnExactIsValidDeck', WHERE WHAT IT READS IS OF BULK AT MOST 1048576: true; the input reads as it did. -/
def fnExactIsValidDeckUptoRow : OpenClaim := { program := "ytbboadheacmddaa", sum := "608cae5b01e381648a4714baa6f121ad56d444550c8eb250f3383604f42c65e8", func := "loop.example/g00882/laws.FnExactIsValidDeck", spec := "fnExactIsValidDeck", inPlace := ["internal/bytealg.IndexByteString", "internal/bytealg.IndexString"], unfollowed := true, recurses := true, named := ["internal/bytealg.MaxLen"], apart := false, narrowed := true }
def FnExactIsValidDeckUptoSaid : Prop := fnExactIsValidDeckUptoRow.holds Try.pinned (OpenSpec.upto fnExactIsValidDeckSpec)

/-- 'laws.FnDrillReview', WHERE WHAT IT READS IS OF BULK AT MOST 1048576: true; the input reads as it did. -/
def fnDrillReviewUptoRow : OpenClaim := { program := "ytbboadheacmddaa", sum := "608cae5b01e381648a4714baa6f121ad56d444550c8eb250f3383604f42c65e8", func := "loop.example/g00882/laws.FnDrillReview", spec := "fnDrillReview", inPlace := ["internal/bytealg.IndexByteString", "internal/bytealg.IndexString"], unfollowed := true, recurses := true, named := ["internal/bytealg.MaxLen"], apart := false, narrowed := true }
def FnDrillReviewUptoSaid : Prop := fnDrillReviewUptoRow.holds Try.pinned (OpenSpec.upto fnDrillReviewSpec)

/-- 'laws.FnExactLevelCounts', WHERE WHAT IT READS IS OF BULK AT MOST 1048576: true; the input reads as it did. -/
def fnExactLevelCountsUptoRow : OpenClaim := { program := "ytbboadheacmddaa", sum := "608cae5b01e381648a4714baa6f121ad56d444550c8eb250f3383604f42c65e8", func := "loop.example/g00882/laws.FnExactLevelCounts", spec := "fnExactLevelCounts", inPlace := ["internal/bytealg.IndexByteString", "internal/bytealg.IndexString"], unfollowed := true, recurses := true, named := ["internal/bytealg.MaxLen"], apart := false, narrowed := true }
def FnExactLevelCountsUptoSaid : Prop := fnExactLevelCountsUptoRow.holds Try.pinned (OpenSpec.upto fnExactLevelCountsSpec)

/-- 'laws.FnExactReviewCard', WHERE WHAT IT READS IS OF BULK AT MOST 1048576: true; the input reads as it did. -/
def fnExactReviewCardUptoRow : OpenClaim := { program := "ytbboadheacmddaa", sum := "608cae5b01e381648a4714baa6f121ad56d444550c8eb250f3383604f42c65e8", func := "loop.example/g00882/laws.FnExactReviewCard", spec := "fnExactReviewCard", inPlace := ["internal/bytealg.IndexByteString", "internal/bytealg.IndexString"], unfollowed := true, recurses := true, named := ["internal/bytealg.MaxLen"], apart := false, narrowed := true }
def FnExactReviewCardUptoSaid : Prop := fnExactReviewCardUptoRow.holds Try.pinned (OpenSpec.upto fnExactReviewCardSpec)

/-- 'laws.FnExactNewDeck', WHERE WHAT IT READS IS OF BULK AT MOST 1048576: true; the input reads as it did. -/
def fnExactNewDeckUptoRow : OpenClaim := { program := "ytbboadheacmddaa", sum := "608cae5b01e381648a4714baa6f121ad56d444550c8eb250f3383604f42c65e8", func := "loop.example/g00882/laws.FnExactNewDeck", spec := "fnExactNewDeck", inPlace := ["internal/bytealg.abigen_runtime_cmpstring", "internal/bytealg.IndexByteString", "internal/bytealg.IndexString"], unfollowed := true, recurses := true, named := ["internal/bytealg.MaxLen"], apart := false, narrowed := true }
def FnExactNewDeckUptoSaid : Prop := fnExactNewDeckUptoRow.holds Try.pinned (OpenSpec.upto fnExactNewDeckSpec)

/-- 'laws.FnExactNextCard', WHERE WHAT IT READS IS OF BULK AT MOST 1048576: true; the input reads as it did. -/
def fnExactNextCardUptoRow : OpenClaim := { program := "ytbboadheacmddaa", sum := "608cae5b01e381648a4714baa6f121ad56d444550c8eb250f3383604f42c65e8", func := "loop.example/g00882/laws.FnExactNextCard", spec := "fnExactNextCard", inPlace := ["internal/bytealg.IndexByteString", "internal/bytealg.IndexString"], unfollowed := true, recurses := true, named := ["internal/bytealg.MaxLen"], apart := false, narrowed := true }
def FnExactNextCardUptoSaid : Prop := fnExactNextCardUptoRow.holds Try.pinned (OpenSpec.upto fnExactNextCardSpec)

/-- 'laws.FnDrillDue', WHERE WHAT IT READS IS OF BULK AT MOST 1048576: true; the input reads as it did. -/
def fnDrillDueUptoRow : OpenClaim := { program := "ytbboadheacmddaa", sum := "608cae5b01e381648a4714baa6f121ad56d444550c8eb250f3383604f42c65e8", func := "loop.example/g00882/laws.FnDrillDue", spec := "fnDrillDue", inPlace := ["internal/bytealg.IndexByteString", "internal/bytealg.IndexString"], unfollowed := true, recurses := true, named := ["internal/bytealg.MaxLen"], apart := false, narrowed := true }
def FnDrillDueUptoSaid : Prop := fnDrillDueUptoRow.holds Try.pinned (OpenSpec.upto fnDrillDueSpec)

/-- 'laws.FnExactDueCards', WHERE WHAT IT READS IS OF BULK AT MOST 1048576: true; the input reads as it did. -/
def fnExactDueCardsUptoRow : OpenClaim := { program := "ytbboadheacmddaa", sum := "608cae5b01e381648a4714baa6f121ad56d444550c8eb250f3383604f42c65e8", func := "loop.example/g00882/laws.FnExactDueCards", spec := "fnExactDueCards", inPlace := ["internal/bytealg.IndexByteString", "internal/bytealg.IndexString"], unfollowed := true, recurses := true, named := ["internal/bytealg.MaxLen"], apart := false, narrowed := true }
def FnExactDueCardsUptoSaid : Prop := fnExactDueCardsUptoRow.holds Try.pinned (OpenSpec.upto fnExactDueCardsSpec)

/-- 'laws.FnExactSimulateDrill', WHERE WHAT IT READS IS OF BULK AT MOST 1048576: true; the input reads as it did. -/
def fnExactSimulateDrillUptoRow : OpenClaim := { program := "ytbboadheacmddaa", sum := "608cae5b01e381648a4714baa6f121ad56d444550c8eb250f3383604f42c65e8", func := "loop.example/g00882/laws.FnExactSimulateDrill", spec := "fnExactSimulateDrill", inPlace := ["internal/bytealg.IndexByteString", "internal/bytealg.IndexString"], unfollowed := true, recurses := true, named := ["internal/bytealg.MaxLen"], apart := false, narrowed := true }
def FnExactSimulateDrillUptoSaid : Prop := fnExactSimulateDrillUptoRow.holds Try.pinned (OpenSpec.upto fnExactSimulateDrillSpec)

end Rows
end Go.Proofs.Ytbboadheacmddaa
