/-
  NARROWER THAN 'FOR EVERY INPUT', by the rows' own cells (each row's printed sentence says how): FnExactParseTape: laid · FnMacroSequence: laid · FnExactStrokesSaved: laid · FnExactIsFreeOutline: laid · FnExactFreeStrokes: laid · FnExactPrefixConflicts: laid · FnBriefSaved: laid.
  DERIVED. THE GIVEN ROWS OF THIS SEAT. 7 by the template 'for every input the law returns true; each argument reads behind the call as it read before'; 0 by the template 'total and deterministic' (their statements: YtchpdclknbmdoaaDoorTotals.lean).
  GIVEN WITH THE SEED: the statements are not yours to turn. If you find one false, say at which input.
  Laid BY PROGRAM, IN A SANDBOX (cutbox-rows.mjs): the forced cells as the released guide's own fill.sh prints them over the translation d1a632c07c10f509… (all of the seat's roots in one cut). By AI agents, Wed Nov 11 2026. No macro, syntax, notation, axiom, sorry.
-/
import Derived.Test.YtchpdclknbmdoaaDoorChecked
import GoSem.PinnedTables
import GoSem.Claim
import GoSem.ClaimJoined
import GoSem.ClaimMapViews
import Derived.JoinedTies
import Derived.KernelRfl
namespace Go.Proofs.YtchpdclknbmdoaaDoor
/- THE CELL 'sum', in the pinned program and in every row, IS THE sha256 OF THE DUMP (.gsa) THAT YtchpdclknbmdoaaDoorProg.lean LOADS. Nothing in Lean hashes anything: it is a label: what it is worth is what the hold of that sum in a sandbox is worth. -/
noncomputable def Tryd.pinned : Pinned := { name := "ytchpdclknbmdoaadoor", sum := "d1a632c07c10f509e016f57a6f3b4f1205b421ec1b9efb21e43c48e658ef270c", checked := Tryd.checked }
namespace Rows
def none {H : Type} : Left H := { results := [], args := [] }

/- WHAT THE LISTED PACKAGE-LEVEL VARIABLES READ AS WHEN THE CALL BEGINS. Each datum BY PROGRAM (the guide's laid-datum.mjs) off the statement by which the dump's own 'gosem.cut.vars' lays the variable. In a bare row this is a premise. The card (YtchpdclknbmdoaaDoorCards.lean) ties it to the program's text. -/
def laid_unicode_utf8_acceptRanges {H : Type} : DataW H := .agg [.agg [.lit (.int .u8 128), .lit (.int .u8 191)], .agg [.lit (.int .u8 160), .lit (.int .u8 191)], .agg [.lit (.int .u8 128), .lit (.int .u8 159)], .agg [.lit (.int .u8 144), .lit (.int .u8 191)], .agg [.lit (.int .u8 128), .lit (.int .u8 143)], .agg [.lit (.int .u8 0), .lit (.int .u8 0)], .agg [.lit (.int .u8 0), .lit (.int .u8 0)], .agg [.lit (.int .u8 0), .lit (.int .u8 0)], .agg [.lit (.int .u8 0), .lit (.int .u8 0)], .agg [.lit (.int .u8 0), .lit (.int .u8 0)], .agg [.lit (.int .u8 0), .lit (.int .u8 0)], .agg [.lit (.int .u8 0), .lit (.int .u8 0)], .agg [.lit (.int .u8 0), .lit (.int .u8 0)], .agg [.lit (.int .u8 0), .lit (.int .u8 0)], .agg [.lit (.int .u8 0), .lit (.int .u8 0)], .agg [.lit (.int .u8 0), .lit (.int .u8 0)]]
/-- One of Go's own tables, pinned by name: the form's constant. -/
def laid_unicode_utf8_first : DataW Unit := Go.Pinned.utf8First

/-- 'laws.FnExactParseTape': WHATEVER THE INPUT: true; the input reads as it did. -/
def fnExactParseTapeSpec : ChangeSpec := { name := "fnExactParseTape", fn := fun _ => fun
  | [d] => { results := [.lit (.bool true)], args := [d] }
  | _ => none }
def fnExactParseTapeRow : OpenClaim := { program := "ytchpdclknbmdoaadoor", sum := "d1a632c07c10f509e016f57a6f3b4f1205b421ec1b9efb21e43c48e658ef270c", func := "loop.example/g00882/laws.FnExactParseTape", spec := "fnExactParseTape", inPlace := ["internal/bytealg.CountString", "internal/bytealg.IndexByteString", "internal/bytealg.IndexString", "internal/abi.NoEscape", "internal/bytealg.MakeNoZero"], unfollowed := true, recurses := true, named := ["unicode/utf8.first", "unicode/utf8.acceptRanges", "internal/bytealg.MaxLen"], apart := false, laid := [("unicode/utf8.acceptRanges", laid_unicode_utf8_acceptRanges), ("unicode/utf8.first", laid_unicode_utf8_first)] }
def FnExactParseTapeSaid : Prop := fnExactParseTapeRow.holds Tryd.pinned (OpenSpec.ofChange fnExactParseTapeSpec)

/-- ITS FALSE NEIGHBOUR: 'it returns false'. Refute it at one input. -/
def fnExactParseTapeWrong : ChangeSpec := { name := "fnExactParseTape", fn := fun _ => fun
  | [d] => { results := [.lit (.bool false)], args := [d] }
  | _ => none }
def FnExactParseTapeWrongFalsely : Prop := fnExactParseTapeRow.holds Tryd.pinned (OpenSpec.ofChange fnExactParseTapeWrong)

/-- 'laws.FnMacroSequence': WHATEVER THE INPUT: true; the input reads as it did. -/
def fnMacroSequenceSpec : ChangeSpec := { name := "fnMacroSequence", fn := fun _ => fun
  | [d] => { results := [.lit (.bool true)], args := [d] }
  | _ => none }
def fnMacroSequenceRow : OpenClaim := { program := "ytchpdclknbmdoaadoor", sum := "d1a632c07c10f509e016f57a6f3b4f1205b421ec1b9efb21e43c48e658ef270c", func := "loop.example/g00882/laws.FnMacroSequence", spec := "fnMacroSequence", inPlace := ["internal/abi.NoEscape", "internal/bytealg.MakeNoZero", "internal/bytealg.CountString", "internal/bytealg.IndexByteString", "internal/bytealg.IndexString"], unfollowed := true, recurses := true, named := ["unicode/utf8.first", "unicode/utf8.acceptRanges", "internal/bytealg.MaxLen"], apart := false, laid := [("unicode/utf8.acceptRanges", laid_unicode_utf8_acceptRanges), ("unicode/utf8.first", laid_unicode_utf8_first)] }
def FnMacroSequenceSaid : Prop := fnMacroSequenceRow.holds Tryd.pinned (OpenSpec.ofChange fnMacroSequenceSpec)

/-- ITS FALSE NEIGHBOUR: 'it returns false'. Refute it at one input. -/
def fnMacroSequenceWrong : ChangeSpec := { name := "fnMacroSequence", fn := fun _ => fun
  | [d] => { results := [.lit (.bool false)], args := [d] }
  | _ => none }
def FnMacroSequenceWrongFalsely : Prop := fnMacroSequenceRow.holds Tryd.pinned (OpenSpec.ofChange fnMacroSequenceWrong)

/-- 'laws.FnExactStrokesSaved': WHATEVER THE INPUT: true; the input reads as it did. -/
def fnExactStrokesSavedSpec : ChangeSpec := { name := "fnExactStrokesSaved", fn := fun _ => fun
  | [d1, d2, d3] => { results := [.lit (.bool true)], args := [d1, d2, d3] }
  | _ => none }
def fnExactStrokesSavedRow : OpenClaim := { program := "ytchpdclknbmdoaadoor", sum := "d1a632c07c10f509e016f57a6f3b4f1205b421ec1b9efb21e43c48e658ef270c", func := "loop.example/g00882/laws.FnExactStrokesSaved", spec := "fnExactStrokesSaved", inPlace := ["internal/bytealg.CountString", "internal/bytealg.IndexByteString", "internal/bytealg.IndexString"], unfollowed := true, recurses := true, named := ["unicode/utf8.first", "unicode/utf8.acceptRanges", "internal/bytealg.MaxLen"], apart := false, laid := [("unicode/utf8.acceptRanges", laid_unicode_utf8_acceptRanges), ("unicode/utf8.first", laid_unicode_utf8_first)] }
def FnExactStrokesSavedSaid : Prop := fnExactStrokesSavedRow.holds Tryd.pinned (OpenSpec.ofChange fnExactStrokesSavedSpec)

/-- ITS FALSE NEIGHBOUR: 'it returns false'. Refute it at one input. -/
def fnExactStrokesSavedWrong : ChangeSpec := { name := "fnExactStrokesSaved", fn := fun _ => fun
  | [d1, d2, d3] => { results := [.lit (.bool false)], args := [d1, d2, d3] }
  | _ => none }
def FnExactStrokesSavedWrongFalsely : Prop := fnExactStrokesSavedRow.holds Tryd.pinned (OpenSpec.ofChange fnExactStrokesSavedWrong)

/-- 'laws.FnExactIsFreeOutline': WHATEVER THE INPUT: true; the input reads as it did. -/
def fnExactIsFreeOutlineSpec : ChangeSpec := { name := "fnExactIsFreeOutline", fn := fun _ => fun
  | [d1, d2] => { results := [.lit (.bool true)], args := [d1, d2] }
  | _ => none }
def fnExactIsFreeOutlineRow : OpenClaim := { program := "ytchpdclknbmdoaadoor", sum := "d1a632c07c10f509e016f57a6f3b4f1205b421ec1b9efb21e43c48e658ef270c", func := "loop.example/g00882/laws.FnExactIsFreeOutline", spec := "fnExactIsFreeOutline", inPlace := ["internal/bytealg.CountString", "internal/bytealg.IndexByteString", "internal/bytealg.IndexString"], unfollowed := true, recurses := true, named := ["unicode/utf8.first", "unicode/utf8.acceptRanges", "internal/bytealg.MaxLen"], apart := false, laid := [("unicode/utf8.acceptRanges", laid_unicode_utf8_acceptRanges), ("unicode/utf8.first", laid_unicode_utf8_first)] }
def FnExactIsFreeOutlineSaid : Prop := fnExactIsFreeOutlineRow.holds Tryd.pinned (OpenSpec.ofChange fnExactIsFreeOutlineSpec)

/-- ITS FALSE NEIGHBOUR: 'it returns false'. Refute it at one input. -/
def fnExactIsFreeOutlineWrong : ChangeSpec := { name := "fnExactIsFreeOutline", fn := fun _ => fun
  | [d1, d2] => { results := [.lit (.bool false)], args := [d1, d2] }
  | _ => none }
def FnExactIsFreeOutlineWrongFalsely : Prop := fnExactIsFreeOutlineRow.holds Tryd.pinned (OpenSpec.ofChange fnExactIsFreeOutlineWrong)

/-- 'laws.FnExactFreeStrokes': WHATEVER THE INPUT: true; the input reads as it did. -/
def fnExactFreeStrokesSpec : ChangeSpec := { name := "fnExactFreeStrokes", fn := fun _ => fun
  | [d1, d2, d3] => { results := [.lit (.bool true)], args := [d1, d2, d3] }
  | _ => none }
def fnExactFreeStrokesRow : OpenClaim := { program := "ytchpdclknbmdoaadoor", sum := "d1a632c07c10f509e016f57a6f3b4f1205b421ec1b9efb21e43c48e658ef270c", func := "loop.example/g00882/laws.FnExactFreeStrokes", spec := "fnExactFreeStrokes", inPlace := ["internal/bytealg.CountString", "internal/bytealg.IndexByteString", "internal/bytealg.IndexString"], unfollowed := true, recurses := true, named := ["unicode/utf8.first", "unicode/utf8.acceptRanges", "internal/bytealg.MaxLen"], apart := false, laid := [("unicode/utf8.acceptRanges", laid_unicode_utf8_acceptRanges), ("unicode/utf8.first", laid_unicode_utf8_first)] }
def FnExactFreeStrokesSaid : Prop := fnExactFreeStrokesRow.holds Tryd.pinned (OpenSpec.ofChange fnExactFreeStrokesSpec)

/-- ITS FALSE NEIGHBOUR: 'it returns false'. Refute it at one input. -/
def fnExactFreeStrokesWrong : ChangeSpec := { name := "fnExactFreeStrokes", fn := fun _ => fun
  | [d1, d2, d3] => { results := [.lit (.bool false)], args := [d1, d2, d3] }
  | _ => none }
def FnExactFreeStrokesWrongFalsely : Prop := fnExactFreeStrokesRow.holds Tryd.pinned (OpenSpec.ofChange fnExactFreeStrokesWrong)

/-- 'laws.FnExactPrefixConflicts': WHATEVER THE INPUT: true; the input reads as it did. -/
def fnExactPrefixConflictsSpec : ChangeSpec := { name := "fnExactPrefixConflicts", fn := fun _ => fun
  | [d1, d2] => { results := [.lit (.bool true)], args := [d1, d2] }
  | _ => none }
def fnExactPrefixConflictsRow : OpenClaim := { program := "ytchpdclknbmdoaadoor", sum := "d1a632c07c10f509e016f57a6f3b4f1205b421ec1b9efb21e43c48e658ef270c", func := "loop.example/g00882/laws.FnExactPrefixConflicts", spec := "fnExactPrefixConflicts", inPlace := ["internal/bytealg.CountString", "internal/bytealg.IndexByteString", "internal/bytealg.IndexString"], unfollowed := true, recurses := true, named := ["unicode/utf8.first", "unicode/utf8.acceptRanges", "internal/bytealg.MaxLen"], apart := false, laid := [("unicode/utf8.acceptRanges", laid_unicode_utf8_acceptRanges), ("unicode/utf8.first", laid_unicode_utf8_first)] }
def FnExactPrefixConflictsSaid : Prop := fnExactPrefixConflictsRow.holds Tryd.pinned (OpenSpec.ofChange fnExactPrefixConflictsSpec)

/-- ITS FALSE NEIGHBOUR: 'it returns false'. Refute it at one input. -/
def fnExactPrefixConflictsWrong : ChangeSpec := { name := "fnExactPrefixConflicts", fn := fun _ => fun
  | [d1, d2] => { results := [.lit (.bool false)], args := [d1, d2] }
  | _ => none }
def FnExactPrefixConflictsWrongFalsely : Prop := fnExactPrefixConflictsRow.holds Tryd.pinned (OpenSpec.ofChange fnExactPrefixConflictsWrong)

/-- 'laws.FnBriefSaved': WHATEVER THE INPUT: true; the input reads as it did. -/
def fnBriefSavedSpec : ChangeSpec := { name := "fnBriefSaved", fn := fun _ => fun
  | [d] => { results := [.lit (.bool true)], args := [d] }
  | _ => none }
def fnBriefSavedRow : OpenClaim := { program := "ytchpdclknbmdoaadoor", sum := "d1a632c07c10f509e016f57a6f3b4f1205b421ec1b9efb21e43c48e658ef270c", func := "loop.example/g00882/laws.FnBriefSaved", spec := "fnBriefSaved", inPlace := ["internal/bytealg.CountString", "internal/bytealg.IndexByteString", "internal/bytealg.IndexString"], unfollowed := true, recurses := true, named := ["unicode/utf8.first", "unicode/utf8.acceptRanges", "internal/bytealg.MaxLen"], apart := false, laid := [("unicode/utf8.acceptRanges", laid_unicode_utf8_acceptRanges), ("unicode/utf8.first", laid_unicode_utf8_first)] }
def FnBriefSavedSaid : Prop := fnBriefSavedRow.holds Tryd.pinned (OpenSpec.ofChange fnBriefSavedSpec)

/-- ITS FALSE NEIGHBOUR: 'it returns false'. Refute it at one input. -/
def fnBriefSavedWrong : ChangeSpec := { name := "fnBriefSaved", fn := fun _ => fun
  | [d] => { results := [.lit (.bool false)], args := [d] }
  | _ => none }
def FnBriefSavedWrongFalsely : Prop := fnBriefSavedRow.holds Tryd.pinned (OpenSpec.ofChange fnBriefSavedWrong)

/- THE SECOND FORM. 'bulk': how many values and letters a reading holds, each counted each time it is reached (what is shared counts as often as it is met; a slice's spare places count too). A statement '..UptoSaid' is the law's where the arguments, and the package variables that the reading takes, are together of bulk at most 1048576: NARROWER than '..Said'. Prove '..Said' where nothing that the law and all that it calls make is longer than what came in: it says more and counts as full. Else prove '..UptoSaid'. A law counts once. -/
mutual
def uptoBulk {H : Type} : DataW H → Nat
  | .lit (.string bytes) => bytes.length + 1
  | .lit _ => 1
  | .nil => 1
  | .ptr d => uptoBulk d + 1
  | .slice elems spare => uptoBulkAll elems + uptoBulkAll spare + 1
  | .agg parts => uptoBulkAll parts + 1
  | .iface _ d => uptoBulk d + 1
  | .map entries => uptoBulkEntries entries + 1
  | .held _ => 1
def uptoBulkAll {H : Type} : List (DataW H) → Nat
  | [] => 0
  | d :: r => uptoBulk d + uptoBulkAll r
def uptoBulkEntries {H : Type} : List (Lit × DataW H) → Nat
  | [] => 0
  | x :: r => uptoBulkEntry x + uptoBulkEntries r
def uptoBulkEntry {H : Type} : Lit × DataW H → Nat
  | (.string bytes, d) => bytes.length + uptoBulk d + 1
  | (_, d) => uptoBulk d + 1
 end
def uptoSmall : (H : Type) → List (DataW H) → Bool := fun _ ds => decide (uptoBulkAll ds ≤ 1048576)
def OpenSpec.upto (s : _root_.Go.ChangeSpec) : _root_.Go.OpenSpec := { _root_.Go.OpenSpec.ofChange s with cond := some uptoSmall }

/-- 'laws.FnExactParseTape', WHERE WHAT IT READS IS OF BULK AT MOST 1048576: true; the input reads as it did. -/
def fnExactParseTapeUptoRow : OpenClaim := { program := "ytchpdclknbmdoaadoor", sum := "d1a632c07c10f509e016f57a6f3b4f1205b421ec1b9efb21e43c48e658ef270c", func := "loop.example/g00882/laws.FnExactParseTape", spec := "fnExactParseTape", inPlace := ["internal/bytealg.CountString", "internal/bytealg.IndexByteString", "internal/bytealg.IndexString", "internal/abi.NoEscape", "internal/bytealg.MakeNoZero"], unfollowed := true, recurses := true, named := ["unicode/utf8.first", "unicode/utf8.acceptRanges", "internal/bytealg.MaxLen"], apart := false, laid := [("unicode/utf8.acceptRanges", laid_unicode_utf8_acceptRanges), ("unicode/utf8.first", laid_unicode_utf8_first)], narrowed := true }
def FnExactParseTapeUptoSaid : Prop := fnExactParseTapeUptoRow.holds Tryd.pinned (OpenSpec.upto fnExactParseTapeSpec)

/-- 'laws.FnMacroSequence', WHERE WHAT IT READS IS OF BULK AT MOST 1048576: true; the input reads as it did. -/
def fnMacroSequenceUptoRow : OpenClaim := { program := "ytchpdclknbmdoaadoor", sum := "d1a632c07c10f509e016f57a6f3b4f1205b421ec1b9efb21e43c48e658ef270c", func := "loop.example/g00882/laws.FnMacroSequence", spec := "fnMacroSequence", inPlace := ["internal/abi.NoEscape", "internal/bytealg.MakeNoZero", "internal/bytealg.CountString", "internal/bytealg.IndexByteString", "internal/bytealg.IndexString"], unfollowed := true, recurses := true, named := ["unicode/utf8.first", "unicode/utf8.acceptRanges", "internal/bytealg.MaxLen"], apart := false, laid := [("unicode/utf8.acceptRanges", laid_unicode_utf8_acceptRanges), ("unicode/utf8.first", laid_unicode_utf8_first)], narrowed := true }
def FnMacroSequenceUptoSaid : Prop := fnMacroSequenceUptoRow.holds Tryd.pinned (OpenSpec.upto fnMacroSequenceSpec)

/-- 'laws.FnExactStrokesSaved', WHERE WHAT IT READS IS OF BULK AT MOST 1048576: true; the input reads as it did. -/
def fnExactStrokesSavedUptoRow : OpenClaim := { program := "ytchpdclknbmdoaadoor", sum := "d1a632c07c10f509e016f57a6f3b4f1205b421ec1b9efb21e43c48e658ef270c", func := "loop.example/g00882/laws.FnExactStrokesSaved", spec := "fnExactStrokesSaved", inPlace := ["internal/bytealg.CountString", "internal/bytealg.IndexByteString", "internal/bytealg.IndexString"], unfollowed := true, recurses := true, named := ["unicode/utf8.first", "unicode/utf8.acceptRanges", "internal/bytealg.MaxLen"], apart := false, laid := [("unicode/utf8.acceptRanges", laid_unicode_utf8_acceptRanges), ("unicode/utf8.first", laid_unicode_utf8_first)], narrowed := true }
def FnExactStrokesSavedUptoSaid : Prop := fnExactStrokesSavedUptoRow.holds Tryd.pinned (OpenSpec.upto fnExactStrokesSavedSpec)

/-- 'laws.FnExactIsFreeOutline', WHERE WHAT IT READS IS OF BULK AT MOST 1048576: true; the input reads as it did. -/
def fnExactIsFreeOutlineUptoRow : OpenClaim := { program := "ytchpdclknbmdoaadoor", sum := "d1a632c07c10f509e016f57a6f3b4f1205b421ec1b9efb21e43c48e658ef270c", func := "loop.example/g00882/laws.FnExactIsFreeOutline", spec := "fnExactIsFreeOutline", inPlace := ["internal/bytealg.CountString", "internal/bytealg.IndexByteString", "internal/bytealg.IndexString"], unfollowed := true, recurses := true, named := ["unicode/utf8.first", "unicode/utf8.acceptRanges", "internal/bytealg.MaxLen"], apart := false, laid := [("unicode/utf8.acceptRanges", laid_unicode_utf8_acceptRanges), ("unicode/utf8.first", laid_unicode_utf8_first)], narrowed := true }
def FnExactIsFreeOutlineUptoSaid : Prop := fnExactIsFreeOutlineUptoRow.holds Tryd.pinned (OpenSpec.upto fnExactIsFreeOutlineSpec)

/-- 'laws.FnExactFreeStrokes', WHERE WHAT IT READS IS OF BULK AT MOST 1048576: true; the input reads as it did. -/
def fnExactFreeStrokesUptoRow : OpenClaim := { program := "ytchpdclknbmdoaadoor", sum := "d1a632c07c10f509e016f57a6f3b4f1205b421ec1b9efb21e43c48e658ef270c", func := "loop.example/g00882/laws.FnExactFreeStrokes", spec := "fnExactFreeStrokes", inPlace := ["internal/bytealg.CountString", "internal/bytealg.IndexByteString", "internal/bytealg.IndexString"], unfollowed := true, recurses := true, named := ["unicode/utf8.first", "unicode/utf8.acceptRanges", "internal/bytealg.MaxLen"], apart := false, laid := [("unicode/utf8.acceptRanges", laid_unicode_utf8_acceptRanges), ("unicode/utf8.first", laid_unicode_utf8_first)], narrowed := true }
def FnExactFreeStrokesUptoSaid : Prop := fnExactFreeStrokesUptoRow.holds Tryd.pinned (OpenSpec.upto fnExactFreeStrokesSpec)

/-- 'laws.FnExactPrefixConflicts', WHERE WHAT IT READS IS OF BULK AT MOST 1048576: true; the input reads as it did. -/
def fnExactPrefixConflictsUptoRow : OpenClaim := { program := "ytchpdclknbmdoaadoor", sum := "d1a632c07c10f509e016f57a6f3b4f1205b421ec1b9efb21e43c48e658ef270c", func := "loop.example/g00882/laws.FnExactPrefixConflicts", spec := "fnExactPrefixConflicts", inPlace := ["internal/bytealg.CountString", "internal/bytealg.IndexByteString", "internal/bytealg.IndexString"], unfollowed := true, recurses := true, named := ["unicode/utf8.first", "unicode/utf8.acceptRanges", "internal/bytealg.MaxLen"], apart := false, laid := [("unicode/utf8.acceptRanges", laid_unicode_utf8_acceptRanges), ("unicode/utf8.first", laid_unicode_utf8_first)], narrowed := true }
def FnExactPrefixConflictsUptoSaid : Prop := fnExactPrefixConflictsUptoRow.holds Tryd.pinned (OpenSpec.upto fnExactPrefixConflictsSpec)

/-- 'laws.FnBriefSaved', WHERE WHAT IT READS IS OF BULK AT MOST 1048576: true; the input reads as it did. -/
def fnBriefSavedUptoRow : OpenClaim := { program := "ytchpdclknbmdoaadoor", sum := "d1a632c07c10f509e016f57a6f3b4f1205b421ec1b9efb21e43c48e658ef270c", func := "loop.example/g00882/laws.FnBriefSaved", spec := "fnBriefSaved", inPlace := ["internal/bytealg.CountString", "internal/bytealg.IndexByteString", "internal/bytealg.IndexString"], unfollowed := true, recurses := true, named := ["unicode/utf8.first", "unicode/utf8.acceptRanges", "internal/bytealg.MaxLen"], apart := false, laid := [("unicode/utf8.acceptRanges", laid_unicode_utf8_acceptRanges), ("unicode/utf8.first", laid_unicode_utf8_first)], narrowed := true }
def FnBriefSavedUptoSaid : Prop := fnBriefSavedUptoRow.holds Tryd.pinned (OpenSpec.upto fnBriefSavedSpec)

end Rows
end Go.Proofs.YtchpdclknbmdoaaDoor
