/-
  NARROWER THAN 'FOR EVERY INPUT', by the rows' own cells (each row's printed sentence says how): FnFewest: laid · FnBriefStrokes: laid · FnMacroRuns: laid · FnExactTapePieces: laid · FnSegment: laid · FnExactSuggestBriefs: laid · FnBriefFree: laid · FnScreen: laid.
  DERIVED. THE GIVEN ROWS OF THIS SEAT. 8 by the template 'for every input the law returns true; each argument reads behind the call as it read before'; 0 by the template 'total and deterministic' (their statements: YtchpdclknbmdoaaGreatDoorTotals.lean).
  GIVEN WITH THE SEED: the statements are not yours to turn. If you find one false, say at which input.
  Laid BY PROGRAM, IN A SANDBOX (cutbox-rows.mjs): the forced cells as the released guide's own fill.sh prints them over the translation f81680d81fafe995… (all of the seat's roots in one cut). By AI agents, Wed Nov 11 2026. No macro, syntax, notation, axiom, sorry.
-/
import Derived.Test.YtchpdclknbmdoaaGreatDoorChecked
import GoSem.PinnedTables
import GoSem.Claim
import GoSem.ClaimJoined
import GoSem.ClaimMapViews
import Derived.JoinedTies
import Derived.KernelRfl
namespace Go.Proofs.YtchpdclknbmdoaaGreatDoor
/- THE CELL 'sum', in the pinned program and in every row, IS THE sha256 OF THE DUMP (.gsa) THAT YtchpdclknbmdoaaGreatDoorProg.lean LOADS. Nothing in Lean hashes anything: it is a label: what it is worth is what the hold of that sum in a sandbox is worth. -/
noncomputable def Tryz.pinned : Pinned := { name := "ytchpdclknbmdoaagreatdoor", sum := "f81680d81fafe995077d6593b17f42afb5c5a1b210673ebfee47334bf3945730", checked := Tryz.checked }
namespace Rows
def none {H : Type} : Left H := { results := [], args := [] }

/- WHAT THE LISTED PACKAGE-LEVEL VARIABLES READ AS WHEN THE CALL BEGINS. Each datum BY PROGRAM (the guide's laid-datum.mjs) off the statement by which the dump's own 'gosem.cut.vars' lays the variable. In a bare row this is a premise. The card (YtchpdclknbmdoaaGreatDoorCards.lean) ties it to the program's text. -/
def laid_unicode_utf8_acceptRanges {H : Type} : DataW H := .agg [.agg [.lit (.int .u8 128), .lit (.int .u8 191)], .agg [.lit (.int .u8 160), .lit (.int .u8 191)], .agg [.lit (.int .u8 128), .lit (.int .u8 159)], .agg [.lit (.int .u8 144), .lit (.int .u8 191)], .agg [.lit (.int .u8 128), .lit (.int .u8 143)], .agg [.lit (.int .u8 0), .lit (.int .u8 0)], .agg [.lit (.int .u8 0), .lit (.int .u8 0)], .agg [.lit (.int .u8 0), .lit (.int .u8 0)], .agg [.lit (.int .u8 0), .lit (.int .u8 0)], .agg [.lit (.int .u8 0), .lit (.int .u8 0)], .agg [.lit (.int .u8 0), .lit (.int .u8 0)], .agg [.lit (.int .u8 0), .lit (.int .u8 0)], .agg [.lit (.int .u8 0), .lit (.int .u8 0)], .agg [.lit (.int .u8 0), .lit (.int .u8 0)], .agg [.lit (.int .u8 0), .lit (.int .u8 0)], .agg [.lit (.int .u8 0), .lit (.int .u8 0)]]
/-- One of Go's own tables, pinned by name: the form's constant. -/
def laid_unicode_utf8_first : DataW Unit := Go.Pinned.utf8First
def laid_math_bits_deBruijn32tab {H : Type} : DataW H := .agg [.lit (.int .u8 0), .lit (.int .u8 1), .lit (.int .u8 28), .lit (.int .u8 2), .lit (.int .u8 29), .lit (.int .u8 14), .lit (.int .u8 24), .lit (.int .u8 3), .lit (.int .u8 30), .lit (.int .u8 22), .lit (.int .u8 20), .lit (.int .u8 15), .lit (.int .u8 25), .lit (.int .u8 17), .lit (.int .u8 4), .lit (.int .u8 8), .lit (.int .u8 31), .lit (.int .u8 27), .lit (.int .u8 13), .lit (.int .u8 23), .lit (.int .u8 21), .lit (.int .u8 19), .lit (.int .u8 16), .lit (.int .u8 7), .lit (.int .u8 26), .lit (.int .u8 12), .lit (.int .u8 18), .lit (.int .u8 6), .lit (.int .u8 11), .lit (.int .u8 5), .lit (.int .u8 10), .lit (.int .u8 9)]
def laid_math_bits_deBruijn64tab {H : Type} : DataW H := .agg [.lit (.int .u8 0), .lit (.int .u8 1), .lit (.int .u8 56), .lit (.int .u8 2), .lit (.int .u8 57), .lit (.int .u8 49), .lit (.int .u8 28), .lit (.int .u8 3), .lit (.int .u8 61), .lit (.int .u8 58), .lit (.int .u8 42), .lit (.int .u8 50), .lit (.int .u8 38), .lit (.int .u8 29), .lit (.int .u8 17), .lit (.int .u8 4), .lit (.int .u8 62), .lit (.int .u8 47), .lit (.int .u8 59), .lit (.int .u8 36), .lit (.int .u8 45), .lit (.int .u8 43), .lit (.int .u8 51), .lit (.int .u8 22), .lit (.int .u8 53), .lit (.int .u8 39), .lit (.int .u8 33), .lit (.int .u8 30), .lit (.int .u8 24), .lit (.int .u8 18), .lit (.int .u8 12), .lit (.int .u8 5), .lit (.int .u8 63), .lit (.int .u8 55), .lit (.int .u8 48), .lit (.int .u8 27), .lit (.int .u8 60), .lit (.int .u8 41), .lit (.int .u8 37), .lit (.int .u8 16), .lit (.int .u8 46), .lit (.int .u8 35), .lit (.int .u8 44), .lit (.int .u8 21), .lit (.int .u8 52), .lit (.int .u8 32), .lit (.int .u8 23), .lit (.int .u8 11), .lit (.int .u8 54), .lit (.int .u8 26), .lit (.int .u8 40), .lit (.int .u8 15), .lit (.int .u8 34), .lit (.int .u8 20), .lit (.int .u8 31), .lit (.int .u8 10), .lit (.int .u8 25), .lit (.int .u8 14), .lit (.int .u8 19), .lit (.int .u8 9), .lit (.int .u8 13), .lit (.int .u8 8), .lit (.int .u8 7), .lit (.int .u8 6)]

/-- 'laws.FnFewest': WHATEVER THE INPUT: true; the input reads as it did. -/
def fnFewestSpec : ChangeSpec := { name := "fnFewest", fn := fun _ => fun
  | [d] => { results := [.lit (.bool true)], args := [d] }
  | _ => none }
def fnFewestRow : OpenClaim := { program := "ytchpdclknbmdoaagreatdoor", sum := "f81680d81fafe995077d6593b17f42afb5c5a1b210673ebfee47334bf3945730", func := "loop.example/g00882/laws.FnFewest", spec := "fnFewest", inPlace := ["internal/bytealg.CountString", "internal/bytealg.IndexByteString", "internal/bytealg.IndexString"], unfollowed := true, recurses := true, named := ["unicode/utf8.first", "unicode/utf8.acceptRanges", "internal/bytealg.MaxLen"], apart := false, laid := [("unicode/utf8.acceptRanges", laid_unicode_utf8_acceptRanges), ("unicode/utf8.first", laid_unicode_utf8_first)] }
def FnFewestSaid : Prop := fnFewestRow.holds Tryz.pinned (OpenSpec.ofChange fnFewestSpec)

/-- ITS FALSE NEIGHBOUR: 'it returns false'. Refute it at one input. -/
def fnFewestWrong : ChangeSpec := { name := "fnFewest", fn := fun _ => fun
  | [d] => { results := [.lit (.bool false)], args := [d] }
  | _ => none }
def FnFewestWrongFalsely : Prop := fnFewestRow.holds Tryz.pinned (OpenSpec.ofChange fnFewestWrong)

/-- 'laws.FnBriefStrokes': WHATEVER THE INPUT: true; the input reads as it did. -/
def fnBriefStrokesSpec : ChangeSpec := { name := "fnBriefStrokes", fn := fun _ => fun
  | [d] => { results := [.lit (.bool true)], args := [d] }
  | _ => none }
def fnBriefStrokesRow : OpenClaim := { program := "ytchpdclknbmdoaagreatdoor", sum := "f81680d81fafe995077d6593b17f42afb5c5a1b210673ebfee47334bf3945730", func := "loop.example/g00882/laws.FnBriefStrokes", spec := "fnBriefStrokes", inPlace := ["internal/bytealg.CountString", "internal/bytealg.IndexByteString", "internal/bytealg.IndexString"], unfollowed := true, recurses := true, named := ["unicode/utf8.first", "unicode/utf8.acceptRanges", "internal/bytealg.MaxLen"], apart := false, laid := [("unicode/utf8.acceptRanges", laid_unicode_utf8_acceptRanges), ("unicode/utf8.first", laid_unicode_utf8_first)] }
def FnBriefStrokesSaid : Prop := fnBriefStrokesRow.holds Tryz.pinned (OpenSpec.ofChange fnBriefStrokesSpec)

/-- ITS FALSE NEIGHBOUR: 'it returns false'. Refute it at one input. -/
def fnBriefStrokesWrong : ChangeSpec := { name := "fnBriefStrokes", fn := fun _ => fun
  | [d] => { results := [.lit (.bool false)], args := [d] }
  | _ => none }
def FnBriefStrokesWrongFalsely : Prop := fnBriefStrokesRow.holds Tryz.pinned (OpenSpec.ofChange fnBriefStrokesWrong)

/-- 'laws.FnMacroRuns': WHATEVER THE INPUT: true; the input reads as it did. -/
def fnMacroRunsSpec : ChangeSpec := { name := "fnMacroRuns", fn := fun _ => fun
  | [d] => { results := [.lit (.bool true)], args := [d] }
  | _ => none }
def fnMacroRunsRow : OpenClaim := { program := "ytchpdclknbmdoaagreatdoor", sum := "f81680d81fafe995077d6593b17f42afb5c5a1b210673ebfee47334bf3945730", func := "loop.example/g00882/laws.FnMacroRuns", spec := "fnMacroRuns", inPlace := ["internal/bytealg.CountString", "internal/bytealg.IndexByteString", "internal/bytealg.IndexString"], unfollowed := true, recurses := true, named := ["unicode/utf8.first", "unicode/utf8.acceptRanges", "internal/bytealg.MaxLen"], apart := false, laid := [("unicode/utf8.acceptRanges", laid_unicode_utf8_acceptRanges), ("unicode/utf8.first", laid_unicode_utf8_first)] }
def FnMacroRunsSaid : Prop := fnMacroRunsRow.holds Tryz.pinned (OpenSpec.ofChange fnMacroRunsSpec)

/-- ITS FALSE NEIGHBOUR: 'it returns false'. Refute it at one input. -/
def fnMacroRunsWrong : ChangeSpec := { name := "fnMacroRuns", fn := fun _ => fun
  | [d] => { results := [.lit (.bool false)], args := [d] }
  | _ => none }
def FnMacroRunsWrongFalsely : Prop := fnMacroRunsRow.holds Tryz.pinned (OpenSpec.ofChange fnMacroRunsWrong)

/-- 'laws.FnExactTapePieces': WHATEVER THE INPUT: true; the input reads as it did. -/
def fnExactTapePiecesSpec : ChangeSpec := { name := "fnExactTapePieces", fn := fun _ => fun
  | [d1, d2] => { results := [.lit (.bool true)], args := [d1, d2] }
  | _ => none }
def fnExactTapePiecesRow : OpenClaim := { program := "ytchpdclknbmdoaagreatdoor", sum := "f81680d81fafe995077d6593b17f42afb5c5a1b210673ebfee47334bf3945730", func := "loop.example/g00882/laws.FnExactTapePieces", spec := "fnExactTapePieces", inPlace := ["internal/bytealg.CountString", "internal/bytealg.IndexByteString", "internal/bytealg.IndexString"], unfollowed := true, recurses := true, named := ["unicode/utf8.first", "unicode/utf8.acceptRanges", "internal/bytealg.MaxLen"], apart := false, laid := [("unicode/utf8.acceptRanges", laid_unicode_utf8_acceptRanges), ("unicode/utf8.first", laid_unicode_utf8_first)] }
def FnExactTapePiecesSaid : Prop := fnExactTapePiecesRow.holds Tryz.pinned (OpenSpec.ofChange fnExactTapePiecesSpec)

/-- ITS FALSE NEIGHBOUR: 'it returns false'. Refute it at one input. -/
def fnExactTapePiecesWrong : ChangeSpec := { name := "fnExactTapePieces", fn := fun _ => fun
  | [d1, d2] => { results := [.lit (.bool false)], args := [d1, d2] }
  | _ => none }
def FnExactTapePiecesWrongFalsely : Prop := fnExactTapePiecesRow.holds Tryz.pinned (OpenSpec.ofChange fnExactTapePiecesWrong)

/-- 'laws.FnSegment': WHATEVER THE INPUT: true; the input reads as it did. -/
def fnSegmentSpec : ChangeSpec := { name := "fnSegment", fn := fun _ => fun
  | [d] => { results := [.lit (.bool true)], args := [d] }
  | _ => none }
def fnSegmentRow : OpenClaim := { program := "ytchpdclknbmdoaagreatdoor", sum := "f81680d81fafe995077d6593b17f42afb5c5a1b210673ebfee47334bf3945730", func := "loop.example/g00882/laws.FnSegment", spec := "fnSegment", inPlace := ["internal/bytealg.CountString", "internal/bytealg.IndexByteString", "internal/bytealg.IndexString"], unfollowed := true, recurses := true, named := ["unicode/utf8.first", "unicode/utf8.acceptRanges", "internal/bytealg.MaxLen"], apart := false, laid := [("unicode/utf8.acceptRanges", laid_unicode_utf8_acceptRanges), ("unicode/utf8.first", laid_unicode_utf8_first)] }
def FnSegmentSaid : Prop := fnSegmentRow.holds Tryz.pinned (OpenSpec.ofChange fnSegmentSpec)

/-- ITS FALSE NEIGHBOUR: 'it returns false'. Refute it at one input. -/
def fnSegmentWrong : ChangeSpec := { name := "fnSegment", fn := fun _ => fun
  | [d] => { results := [.lit (.bool false)], args := [d] }
  | _ => none }
def FnSegmentWrongFalsely : Prop := fnSegmentRow.holds Tryz.pinned (OpenSpec.ofChange fnSegmentWrong)

/-- 'laws.FnExactSuggestBriefs': WHATEVER THE INPUT: true; the input reads as it did. -/
def fnExactSuggestBriefsSpec : ChangeSpec := { name := "fnExactSuggestBriefs", fn := fun _ => fun
  | [d1, d2, d3] => { results := [.lit (.bool true)], args := [d1, d2, d3] }
  | _ => none }
def fnExactSuggestBriefsRow : OpenClaim := { program := "ytchpdclknbmdoaagreatdoor", sum := "f81680d81fafe995077d6593b17f42afb5c5a1b210673ebfee47334bf3945730", func := "loop.example/g00882/laws.FnExactSuggestBriefs", spec := "fnExactSuggestBriefs", inPlace := ["internal/bytealg.IndexByteString", "internal/bytealg.CountString", "internal/bytealg.IndexString"], unfollowed := true, recurses := true, named := ["unicode/utf8.first", "unicode/utf8.acceptRanges", "internal/bytealg.MaxLen", "math/bits.deBruijn32tab", "math/bits.deBruijn64tab"], apart := false, laid := [("math/bits.deBruijn32tab", laid_math_bits_deBruijn32tab), ("math/bits.deBruijn64tab", laid_math_bits_deBruijn64tab), ("unicode/utf8.acceptRanges", laid_unicode_utf8_acceptRanges), ("unicode/utf8.first", laid_unicode_utf8_first)] }
def FnExactSuggestBriefsSaid : Prop := fnExactSuggestBriefsRow.holds Tryz.pinned (OpenSpec.ofChange fnExactSuggestBriefsSpec)

/-- ITS FALSE NEIGHBOUR: 'it returns false'. Refute it at one input. -/
def fnExactSuggestBriefsWrong : ChangeSpec := { name := "fnExactSuggestBriefs", fn := fun _ => fun
  | [d1, d2, d3] => { results := [.lit (.bool false)], args := [d1, d2, d3] }
  | _ => none }
def FnExactSuggestBriefsWrongFalsely : Prop := fnExactSuggestBriefsRow.holds Tryz.pinned (OpenSpec.ofChange fnExactSuggestBriefsWrong)

/-- 'laws.FnBriefFree': WHATEVER THE INPUT: true; the input reads as it did. -/
def fnBriefFreeSpec : ChangeSpec := { name := "fnBriefFree", fn := fun _ => fun
  | [d] => { results := [.lit (.bool true)], args := [d] }
  | _ => none }
def fnBriefFreeRow : OpenClaim := { program := "ytchpdclknbmdoaagreatdoor", sum := "f81680d81fafe995077d6593b17f42afb5c5a1b210673ebfee47334bf3945730", func := "loop.example/g00882/laws.FnBriefFree", spec := "fnBriefFree", inPlace := ["internal/bytealg.IndexByteString", "internal/bytealg.CountString", "internal/bytealg.IndexString"], unfollowed := true, recurses := true, named := ["unicode/utf8.first", "unicode/utf8.acceptRanges", "internal/bytealg.MaxLen", "math/bits.deBruijn32tab", "math/bits.deBruijn64tab"], apart := false, laid := [("math/bits.deBruijn32tab", laid_math_bits_deBruijn32tab), ("math/bits.deBruijn64tab", laid_math_bits_deBruijn64tab), ("unicode/utf8.acceptRanges", laid_unicode_utf8_acceptRanges), ("unicode/utf8.first", laid_unicode_utf8_first)] }
def FnBriefFreeSaid : Prop := fnBriefFreeRow.holds Tryz.pinned (OpenSpec.ofChange fnBriefFreeSpec)

/-- ITS FALSE NEIGHBOUR: 'it returns false'. Refute it at one input. -/
def fnBriefFreeWrong : ChangeSpec := { name := "fnBriefFree", fn := fun _ => fun
  | [d] => { results := [.lit (.bool false)], args := [d] }
  | _ => none }
def FnBriefFreeWrongFalsely : Prop := fnBriefFreeRow.holds Tryz.pinned (OpenSpec.ofChange fnBriefFreeWrong)

/-- 'laws.FnScreen': WHATEVER THE INPUT: true; the input reads as it did. -/
def fnScreenSpec : ChangeSpec := { name := "fnScreen", fn := fun _ => fun
  | [d] => { results := [.lit (.bool true)], args := [d] }
  | _ => none }
def fnScreenRow : OpenClaim := { program := "ytchpdclknbmdoaagreatdoor", sum := "f81680d81fafe995077d6593b17f42afb5c5a1b210673ebfee47334bf3945730", func := "loop.example/g00882/laws.FnScreen", spec := "fnScreen", inPlace := ["internal/bytealg.CountString", "internal/bytealg.IndexByteString", "internal/bytealg.IndexString", "internal/abi.NoEscape", "internal/bytealg.MakeNoZero"], unfollowed := true, recurses := true, named := ["unicode/utf8.first", "unicode/utf8.acceptRanges", "internal/bytealg.MaxLen"], apart := false, laid := [("unicode/utf8.acceptRanges", laid_unicode_utf8_acceptRanges), ("unicode/utf8.first", laid_unicode_utf8_first)] }
def FnScreenSaid : Prop := fnScreenRow.holds Tryz.pinned (OpenSpec.ofChange fnScreenSpec)

/-- ITS FALSE NEIGHBOUR: 'it returns false'. Refute it at one input. -/
def fnScreenWrong : ChangeSpec := { name := "fnScreen", fn := fun _ => fun
  | [d] => { results := [.lit (.bool false)], args := [d] }
  | _ => none }
def FnScreenWrongFalsely : Prop := fnScreenRow.holds Tryz.pinned (OpenSpec.ofChange fnScreenWrong)

/- THE SECOND FORM. 'bulk': how many values and letters a reading holds, each counted each time it is reached (what is shared counts as often as it is met; a slice's spare places count too). A statement '..UptoSaid' is the law's where the arguments, and the package variables that the reading takes, are together of bulk at most 1048576: NARROWER than '..Said'. Prove '..Said' where nothing that the law and all that it calls make is longer than what came in: it says more and counts as full. Else prove '..UptoSaid'. A law counts once. -/
mutual
def uptoBulk {H : Type} : DataW H → Nat
  | .lit (.string bytes) => bytes.length + 1
  | .lit _ => 1
  | .nil => 1
  | .ptr d => uptoBulk d + 1
  | .slice elems spare => uptoBulkAll elems + uptoBulkAll spare + 1
  | .agg parts => uptoBulkAll parts + 1
  | .iface _ d => uptoBulk d + 1
  | .map entries => uptoBulkEntries entries + 1
  | .held _ => 1
def uptoBulkAll {H : Type} : List (DataW H) → Nat
  | [] => 0
  | d :: r => uptoBulk d + uptoBulkAll r
def uptoBulkEntries {H : Type} : List (Lit × DataW H) → Nat
  | [] => 0
  | x :: r => uptoBulkEntry x + uptoBulkEntries r
def uptoBulkEntry {H : Type} : Lit × DataW H → Nat
  | (.string bytes, d) => bytes.length + uptoBulk d + 1
  | (_, d) => uptoBulk d + 1
 end
def uptoSmall : (H : Type) → List (DataW H) → Bool := fun _ ds => decide (uptoBulkAll ds ≤ 1048576)
def OpenSpec.upto (s : _root_.Go.ChangeSpec) : _root_.Go.OpenSpec := { _root_.Go.OpenSpec.ofChange s with cond := some uptoSmall }

/-- 'laws.FnFewest', WHERE WHAT IT READS IS OF BULK AT MOST 1048576: true; the input reads as it did. -/
def fnFewestUptoRow : OpenClaim := { program := "ytchpdclknbmdoaagreatdoor", sum := "f81680d81fafe995077d6593b17f42afb5c5a1b210673ebfee47334bf3945730", func := "loop.example/g00882/laws.FnFewest", spec := "fnFewest", inPlace := ["internal/bytealg.CountString", "internal/bytealg.IndexByteString", "internal/bytealg.IndexString"], unfollowed := true, recurses := true, named := ["unicode/utf8.first", "unicode/utf8.acceptRanges", "internal/bytealg.MaxLen"], apart := false, laid := [("unicode/utf8.acceptRanges", laid_unicode_utf8_acceptRanges), ("unicode/utf8.first", laid_unicode_utf8_first)], narrowed := true }
def FnFewestUptoSaid : Prop := fnFewestUptoRow.holds Tryz.pinned (OpenSpec.upto fnFewestSpec)

/-- 'laws.FnBriefStrokes', WHERE WHAT IT READS IS OF BULK AT MOST 1048576: true; the input reads as it did. -/
def fnBriefStrokesUptoRow : OpenClaim := { program := "ytchpdclknbmdoaagreatdoor", sum := "f81680d81fafe995077d6593b17f42afb5c5a1b210673ebfee47334bf3945730", func := "loop.example/g00882/laws.FnBriefStrokes", spec := "fnBriefStrokes", inPlace := ["internal/bytealg.CountString", "internal/bytealg.IndexByteString", "internal/bytealg.IndexString"], unfollowed := true, recurses := true, named := ["unicode/utf8.first", "unicode/utf8.acceptRanges", "internal/bytealg.MaxLen"], apart := false, laid := [("unicode/utf8.acceptRanges", laid_unicode_utf8_acceptRanges), ("unicode/utf8.first", laid_unicode_utf8_first)], narrowed := true }
def FnBriefStrokesUptoSaid : Prop := fnBriefStrokesUptoRow.holds Tryz.pinned (OpenSpec.upto fnBriefStrokesSpec)

/-- 'laws.FnMacroRuns', WHERE WHAT IT READS IS OF BULK AT MOST 1048576: true; the input reads as it did. -/
def fnMacroRunsUptoRow : OpenClaim := { program := "ytchpdclknbmdoaagreatdoor", sum := "f81680d81fafe995077d6593b17f42afb5c5a1b210673ebfee47334bf3945730", func := "loop.example/g00882/laws.FnMacroRuns", spec := "fnMacroRuns", inPlace := ["internal/bytealg.CountString", "internal/bytealg.IndexByteString", "internal/bytealg.IndexString"], unfollowed := true, recurses := true, named := ["unicode/utf8.first", "unicode/utf8.acceptRanges", "internal/bytealg.MaxLen"], apart := false, laid := [("unicode/utf8.acceptRanges", laid_unicode_utf8_acceptRanges), ("unicode/utf8.first", laid_unicode_utf8_first)], narrowed := true }
def FnMacroRunsUptoSaid : Prop := fnMacroRunsUptoRow.holds Tryz.pinned (OpenSpec.upto fnMacroRunsSpec)

/-- 'laws.FnExactTapePieces', WHERE WHAT IT READS IS OF BULK AT MOST 1048576: true; the input reads as it did. -/
def fnExactTapePiecesUptoRow : OpenClaim := { program := "ytchpdclknbmdoaagreatdoor", sum := "f81680d81fafe995077d6593b17f42afb5c5a1b210673ebfee47334bf3945730", func := "loop.example/g00882/laws.FnExactTapePieces", spec := "fnExactTapePieces", inPlace := ["internal/bytealg.CountString", "internal/bytealg.IndexByteString", "internal/bytealg.IndexString"], unfollowed := true, recurses := true, named := ["unicode/utf8.first", "unicode/utf8.acceptRanges", "internal/bytealg.MaxLen"], apart := false, laid := [("unicode/utf8.acceptRanges", laid_unicode_utf8_acceptRanges), ("unicode/utf8.first", laid_unicode_utf8_first)], narrowed := true }
def FnExactTapePiecesUptoSaid : Prop := fnExactTapePiecesUptoRow.holds Tryz.pinned (OpenSpec.upto fnExactTapePiecesSpec)

/-- 'laws.FnSegment', WHERE WHAT IT READS IS OF BULK AT MOST 1048576: true; the input reads as it did. -/
def fnSegmentUptoRow : OpenClaim := { program := "ytchpdclknbmdoaagreatdoor", sum := "f81680d81fafe995077d6593b17f42afb5c5a1b210673ebfee47334bf3945730", func := "loop.example/g00882/laws.FnSegment", spec := "fnSegment", inPlace := ["internal/bytealg.CountString", "internal/bytealg.IndexByteString", "internal/bytealg.IndexString"], unfollowed := true, recurses := true, named := ["unicode/utf8.first", "unicode/utf8.acceptRanges", "internal/bytealg.MaxLen"], apart := false, laid := [("unicode/utf8.acceptRanges", laid_unicode_utf8_acceptRanges), ("unicode/utf8.first", laid_unicode_utf8_first)], narrowed := true }
def FnSegmentUptoSaid : Prop := fnSegmentUptoRow.holds Tryz.pinned (OpenSpec.upto fnSegmentSpec)

/-- 'laws.FnExactSuggestBriefs', WHERE WHAT IT READS IS OF BULK AT MOST 1048576: true; the input reads as it did. -/
def fnExactSuggestBriefsUptoRow : OpenClaim := { program := "ytchpdclknbmdoaagreatdoor", sum := "f81680d81fafe995077d6593b17f42afb5c5a1b210673ebfee47334bf3945730", func := "loop.example/g00882/laws.FnExactSuggestBriefs", spec := "fnExactSuggestBriefs", inPlace := ["internal/bytealg.IndexByteString", "internal/bytealg.CountString", "internal/bytealg.IndexString"], unfollowed := true, recurses := true, named := ["unicode/utf8.first", "unicode/utf8.acceptRanges", "internal/bytealg.MaxLen", "math/bits.deBruijn32tab", "math/bits.deBruijn64tab"], apart := false, laid := [("math/bits.deBruijn32tab", laid_math_bits_deBruijn32tab), ("math/bits.deBruijn64tab", laid_math_bits_deBruijn64tab), ("unicode/utf8.acceptRanges", laid_unicode_utf8_acceptRanges), ("unicode/utf8.first", laid_unicode_utf8_first)], narrowed := true }
def FnExactSuggestBriefsUptoSaid : Prop := fnExactSuggestBriefsUptoRow.holds Tryz.pinned (OpenSpec.upto fnExactSuggestBriefsSpec)

/-- 'laws.FnBriefFree', WHERE WHAT IT READS IS OF BULK AT MOST 1048576: true; the input reads as it did. -/
def fnBriefFreeUptoRow : OpenClaim := { program := "ytchpdclknbmdoaagreatdoor", sum := "f81680d81fafe995077d6593b17f42afb5c5a1b210673ebfee47334bf3945730", func := "loop.example/g00882/laws.FnBriefFree", spec := "fnBriefFree", inPlace := ["internal/bytealg.IndexByteString", "internal/bytealg.CountString", "internal/bytealg.IndexString"], unfollowed := true, recurses := true, named := ["unicode/utf8.first", "unicode/utf8.acceptRanges", "internal/bytealg.MaxLen", "math/bits.deBruijn32tab", "math/bits.deBruijn64tab"], apart := false, laid := [("math/bits.deBruijn32tab", laid_math_bits_deBruijn32tab), ("math/bits.deBruijn64tab", laid_math_bits_deBruijn64tab), ("unicode/utf8.acceptRanges", laid_unicode_utf8_acceptRanges), ("unicode/utf8.first", laid_unicode_utf8_first)], narrowed := true }
def FnBriefFreeUptoSaid : Prop := fnBriefFreeUptoRow.holds Tryz.pinned (OpenSpec.upto fnBriefFreeSpec)

/-- 'laws.FnScreen', WHERE WHAT IT READS IS OF BULK AT MOST 1048576: true; the input reads as it did. -/
def fnScreenUptoRow : OpenClaim := { program := "ytchpdclknbmdoaagreatdoor", sum := "f81680d81fafe995077d6593b17f42afb5c5a1b210673ebfee47334bf3945730", func := "loop.example/g00882/laws.FnScreen", spec := "fnScreen", inPlace := ["internal/bytealg.CountString", "internal/bytealg.IndexByteString", "internal/bytealg.IndexString", "internal/abi.NoEscape", "internal/bytealg.MakeNoZero"], unfollowed := true, recurses := true, named := ["unicode/utf8.first", "unicode/utf8.acceptRanges", "internal/bytealg.MaxLen"], apart := false, laid := [("unicode/utf8.acceptRanges", laid_unicode_utf8_acceptRanges), ("unicode/utf8.first", laid_unicode_utf8_first)], narrowed := true }
def FnScreenUptoSaid : Prop := fnScreenUptoRow.holds Tryz.pinned (OpenSpec.upto fnScreenSpec)

end Rows
end Go.Proofs.YtchpdclknbmdoaaGreatDoor
