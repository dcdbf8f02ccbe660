/-
  No cell of these rows narrows 'for every input' (looked for: loops, veiled, ifaces, maps, wideKeys, modest, calm, conditions, laid).
  DERIVED. THE GIVEN ROWS OF THIS SEAT. 8 by the template 'for every input the law returns true; each argument reads behind the call as it read before'; 0 by the template 'total and deterministic' (their statements: YtdggbjlgimcpkaaTotals.lean).
  GIVEN WITH THE SEED: the statements are not yours to turn. If you find one false, say at which input.
  Laid BY PROGRAM, IN A SANDBOX (cutbox-rows.mjs): the forced cells as the released guide's own fill.sh prints them over the translation 2d7663a77721af21… (all of the seat's roots in one cut). By AI agents, Wed Nov 11 2026. No macro, syntax, notation, axiom, sorry.
-/
import Derived.Test.YtdggbjlgimcpkaaChecked
import GoSem.Claim
import GoSem.ClaimJoined
import GoSem.ClaimMapViews
import Derived.JoinedTies
import Derived.KernelRfl
namespace Go.Proofs.Ytdggbjlgimcpkaa
/- THE CELL 'sum', in the pinned program and in every row, IS THE sha256 OF THE DUMP (.gsa) THAT YtdggbjlgimcpkaaProg.lean LOADS. Nothing in Lean hashes anything: it is a label: what it is worth is what the hold of that sum in a sandbox is worth. -/
noncomputable def Try.pinned : Pinned := { name := "ytdggbjlgimcpkaa", sum := "2d7663a77721af21950eba1c3c9f2621352fef3762645a13419334f20601a31d", checked := Try.checked }
namespace Rows
def none {H : Type} : Left H := { results := [], args := [] }

/-- 'laws.FnExactDigitStroke': WHATEVER THE INPUT: true; the input reads as it did. -/
def fnExactDigitStrokeSpec : ChangeSpec := { name := "fnExactDigitStroke", fn := fun _ => fun
  | [d] => { results := [.lit (.bool true)], args := [d] }
  | _ => none }
def fnExactDigitStrokeRow : OpenClaim := { program := "ytdggbjlgimcpkaa", sum := "2d7663a77721af21950eba1c3c9f2621352fef3762645a13419334f20601a31d", func := "loop.example/g00882/laws.FnExactDigitStroke", spec := "fnExactDigitStroke", inPlace := ["internal/bytealg.IndexByteString"], apart := false }
def FnExactDigitStrokeSaid : Prop := fnExactDigitStrokeRow.holds Try.pinned (OpenSpec.ofChange fnExactDigitStrokeSpec)

/-- ITS FALSE NEIGHBOUR: 'it returns false'. Refute it at one input. -/
def fnExactDigitStrokeWrong : ChangeSpec := { name := "fnExactDigitStroke", fn := fun _ => fun
  | [d] => { results := [.lit (.bool false)], args := [d] }
  | _ => none }
def FnExactDigitStrokeWrongFalsely : Prop := fnExactDigitStrokeRow.holds Try.pinned (OpenSpec.ofChange fnExactDigitStrokeWrong)

/-- 'laws.FnExactTapeRuns': WHATEVER THE INPUT: true; the input reads as it did. -/
def fnExactTapeRunsSpec : ChangeSpec := { name := "fnExactTapeRuns", fn := fun _ => fun
  | [d] => { results := [.lit (.bool true)], args := [d] }
  | _ => none }
def fnExactTapeRunsRow : OpenClaim := { program := "ytdggbjlgimcpkaa", sum := "2d7663a77721af21950eba1c3c9f2621352fef3762645a13419334f20601a31d", func := "loop.example/g00882/laws.FnExactTapeRuns", spec := "fnExactTapeRuns", unfollowed := true, recurses := true, apart := false }
def FnExactTapeRunsSaid : Prop := fnExactTapeRunsRow.holds Try.pinned (OpenSpec.ofChange fnExactTapeRunsSpec)

/-- ITS FALSE NEIGHBOUR: 'it returns false'. Refute it at one input. -/
def fnExactTapeRunsWrong : ChangeSpec := { name := "fnExactTapeRuns", fn := fun _ => fun
  | [d] => { results := [.lit (.bool false)], args := [d] }
  | _ => none }
def FnExactTapeRunsWrongFalsely : Prop := fnExactTapeRunsRow.holds Try.pinned (OpenSpec.ofChange fnExactTapeRunsWrong)

/-- 'laws.FnExactEncodeNumber': WHATEVER THE INPUT: true; the input reads as it did. -/
def fnExactEncodeNumberSpec : ChangeSpec := { name := "fnExactEncodeNumber", fn := fun _ => fun
  | [d] => { results := [.lit (.bool true)], args := [d] }
  | _ => none }
def fnExactEncodeNumberRow : OpenClaim := { program := "ytdggbjlgimcpkaa", sum := "2d7663a77721af21950eba1c3c9f2621352fef3762645a13419334f20601a31d", func := "loop.example/g00882/laws.FnExactEncodeNumber", spec := "fnExactEncodeNumber", inPlace := ["internal/bytealg.IndexByteString"], apart := false }
def FnExactEncodeNumberSaid : Prop := fnExactEncodeNumberRow.holds Try.pinned (OpenSpec.ofChange fnExactEncodeNumberSpec)

/-- ITS FALSE NEIGHBOUR: 'it returns false'. Refute it at one input. -/
def fnExactEncodeNumberWrong : ChangeSpec := { name := "fnExactEncodeNumber", fn := fun _ => fun
  | [d] => { results := [.lit (.bool false)], args := [d] }
  | _ => none }
def FnExactEncodeNumberWrongFalsely : Prop := fnExactEncodeNumberRow.holds Try.pinned (OpenSpec.ofChange fnExactEncodeNumberWrong)

/-- 'laws.FnNumberShortest': WHATEVER THE INPUT: true; the input reads as it did. -/
def fnNumberShortestSpec : ChangeSpec := { name := "fnNumberShortest", fn := fun _ => fun
  | [d] => { results := [.lit (.bool true)], args := [d] }
  | _ => none }
def fnNumberShortestRow : OpenClaim := { program := "ytdggbjlgimcpkaa", sum := "2d7663a77721af21950eba1c3c9f2621352fef3762645a13419334f20601a31d", func := "loop.example/g00882/laws.FnNumberShortest", spec := "fnNumberShortest", inPlace := ["internal/bytealg.IndexByteString"], apart := false }
def FnNumberShortestSaid : Prop := fnNumberShortestRow.holds Try.pinned (OpenSpec.ofChange fnNumberShortestSpec)

/-- ITS FALSE NEIGHBOUR: 'it returns false'. Refute it at one input. -/
def fnNumberShortestWrong : ChangeSpec := { name := "fnNumberShortest", fn := fun _ => fun
  | [d] => { results := [.lit (.bool false)], args := [d] }
  | _ => none }
def FnNumberShortestWrongFalsely : Prop := fnNumberShortestRow.holds Try.pinned (OpenSpec.ofChange fnNumberShortestWrong)

/-- 'laws.FnNumberFormats': WHATEVER THE INPUT: true; the input reads as it did. -/
def fnNumberFormatsSpec : ChangeSpec := { name := "fnNumberFormats", fn := fun _ => fun
  | [d] => { results := [.lit (.bool true)], args := [d] }
  | _ => none }
def fnNumberFormatsRow : OpenClaim := { program := "ytdggbjlgimcpkaa", sum := "2d7663a77721af21950eba1c3c9f2621352fef3762645a13419334f20601a31d", func := "loop.example/g00882/laws.FnNumberFormats", spec := "fnNumberFormats", recurses := true, apart := false }
def FnNumberFormatsSaid : Prop := fnNumberFormatsRow.holds Try.pinned (OpenSpec.ofChange fnNumberFormatsSpec)

/-- ITS FALSE NEIGHBOUR: 'it returns false'. Refute it at one input. -/
def fnNumberFormatsWrong : ChangeSpec := { name := "fnNumberFormats", fn := fun _ => fun
  | [d] => { results := [.lit (.bool false)], args := [d] }
  | _ => none }
def FnNumberFormatsWrongFalsely : Prop := fnNumberFormatsRow.holds Try.pinned (OpenSpec.ofChange fnNumberFormatsWrong)

/-- 'laws.FnNumberRoundTrip': WHATEVER THE INPUT: true; the input reads as it did. -/
def fnNumberRoundTripSpec : ChangeSpec := { name := "fnNumberRoundTrip", fn := fun _ => fun
  | [d] => { results := [.lit (.bool true)], args := [d] }
  | _ => none }
def fnNumberRoundTripRow : OpenClaim := { program := "ytdggbjlgimcpkaa", sum := "2d7663a77721af21950eba1c3c9f2621352fef3762645a13419334f20601a31d", func := "loop.example/g00882/laws.FnNumberRoundTrip", spec := "fnNumberRoundTrip", inPlace := ["internal/bytealg.IndexByteString"], apart := false }
def FnNumberRoundTripSaid : Prop := fnNumberRoundTripRow.holds Try.pinned (OpenSpec.ofChange fnNumberRoundTripSpec)

/-- ITS FALSE NEIGHBOUR: 'it returns false'. Refute it at one input. -/
def fnNumberRoundTripWrong : ChangeSpec := { name := "fnNumberRoundTrip", fn := fun _ => fun
  | [d] => { results := [.lit (.bool false)], args := [d] }
  | _ => none }
def FnNumberRoundTripWrongFalsely : Prop := fnNumberRoundTripRow.holds Try.pinned (OpenSpec.ofChange fnNumberRoundTripWrong)

/-- 'laws.FnExactFormatTape': WHATEVER THE INPUT: true; the input reads as it did. -/
def fnExactFormatTapeSpec : ChangeSpec := { name := "fnExactFormatTape", fn := fun _ => fun
  | [d] => { results := [.lit (.bool true)], args := [d] }
  | _ => none }
def fnExactFormatTapeRow : OpenClaim := { program := "ytdggbjlgimcpkaa", sum := "2d7663a77721af21950eba1c3c9f2621352fef3762645a13419334f20601a31d", func := "loop.example/g00882/laws.FnExactFormatTape", spec := "fnExactFormatTape", inPlace := ["internal/abi.NoEscape", "internal/bytealg.MakeNoZero"], unfollowed := true, recurses := true, apart := false }
def FnExactFormatTapeSaid : Prop := fnExactFormatTapeRow.holds Try.pinned (OpenSpec.ofChange fnExactFormatTapeSpec)

/-- ITS FALSE NEIGHBOUR: 'it returns false'. Refute it at one input. -/
def fnExactFormatTapeWrong : ChangeSpec := { name := "fnExactFormatTape", fn := fun _ => fun
  | [d] => { results := [.lit (.bool false)], args := [d] }
  | _ => none }
def FnExactFormatTapeWrongFalsely : Prop := fnExactFormatTapeRow.holds Try.pinned (OpenSpec.ofChange fnExactFormatTapeWrong)

/-- 'laws.FnMacroInverse': WHATEVER THE INPUT: true; the input reads as it did. -/
def fnMacroInverseSpec : ChangeSpec := { name := "fnMacroInverse", fn := fun _ => fun
  | [d] => { results := [.lit (.bool true)], args := [d] }
  | _ => none }
def fnMacroInverseRow : OpenClaim := { program := "ytdggbjlgimcpkaa", sum := "2d7663a77721af21950eba1c3c9f2621352fef3762645a13419334f20601a31d", func := "loop.example/g00882/laws.FnMacroInverse", spec := "fnMacroInverse", unfollowed := true, recurses := true, apart := false }
def FnMacroInverseSaid : Prop := fnMacroInverseRow.holds Try.pinned (OpenSpec.ofChange fnMacroInverseSpec)

/-- ITS FALSE NEIGHBOUR: 'it returns false'. Refute it at one input. -/
def fnMacroInverseWrong : ChangeSpec := { name := "fnMacroInverse", fn := fun _ => fun
  | [d] => { results := [.lit (.bool false)], args := [d] }
  | _ => none }
def FnMacroInverseWrongFalsely : Prop := fnMacroInverseRow.holds Try.pinned (OpenSpec.ofChange fnMacroInverseWrong)

/- THE SECOND FORM. 'bulk': how many values and letters a reading holds, each counted each time it is reached (what is shared counts as often as it is met; a slice's spare places count too). A statement '..UptoSaid' is the law's where the arguments, and the package variables that the reading takes, are together of bulk at most 1048576: NARROWER than '..Said'. Prove '..Said' where nothing that the law and all that it calls make is longer than what came in: it says more and counts as full. Else prove '..UptoSaid'. A law counts once. -/
mutual
def uptoBulk {H : Type} : DataW H → Nat
  | .lit (.string bytes) => bytes.length + 1
  | .lit _ => 1
  | .nil => 1
  | .ptr d => uptoBulk d + 1
  | .slice elems spare => uptoBulkAll elems + uptoBulkAll spare + 1
  | .agg parts => uptoBulkAll parts + 1
  | .iface _ d => uptoBulk d + 1
  | .map entries => uptoBulkEntries entries + 1
  | .held _ => 1
def uptoBulkAll {H : Type} : List (DataW H) → Nat
  | [] => 0
  | d :: r => uptoBulk d + uptoBulkAll r
def uptoBulkEntries {H : Type} : List (Lit × DataW H) → Nat
  | [] => 0
  | x :: r => uptoBulkEntry x + uptoBulkEntries r
def uptoBulkEntry {H : Type} : Lit × DataW H → Nat
  | (.string bytes, d) => bytes.length + uptoBulk d + 1
  | (_, d) => uptoBulk d + 1
 end
def uptoSmall : (H : Type) → List (DataW H) → Bool := fun _ ds => decide (uptoBulkAll ds ≤ 1048576)
def OpenSpec.upto (s : _root_.Go.ChangeSpec) : _root_.Go.OpenSpec := { _root_.Go.OpenSpec.ofChange s with cond := some uptoSmall }

/-- 'laws.FnExactDigitStroke', WHERE WHAT IT READS IS OF BULK AT MOST 1048576: true; the input reads as it did. -/
def fnExactDigitStrokeUptoRow : OpenClaim := { program := "ytdggbjlgimcpkaa", sum := "2d7663a77721af21950eba1c3c9f2621352fef3762645a13419334f20601a31d", func := "loop.example/g00882/laws.FnExactDigitStroke", spec := "fnExactDigitStroke", inPlace := ["internal/bytealg.IndexByteString"], apart := false, narrowed := true }
def FnExactDigitStrokeUptoSaid : Prop := fnExactDigitStrokeUptoRow.holds Try.pinned (OpenSpec.upto fnExactDigitStrokeSpec)

/-- 'laws.FnExactTapeRuns', WHERE WHAT IT READS IS OF BULK AT MOST 1048576: true; the input reads as it did. -/
def fnExactTapeRunsUptoRow : OpenClaim := { program := "ytdggbjlgimcpkaa", sum := "2d7663a77721af21950eba1c3c9f2621352fef3762645a13419334f20601a31d", func := "loop.example/g00882/laws.FnExactTapeRuns", spec := "fnExactTapeRuns", unfollowed := true, recurses := true, apart := false, narrowed := true }
def FnExactTapeRunsUptoSaid : Prop := fnExactTapeRunsUptoRow.holds Try.pinned (OpenSpec.upto fnExactTapeRunsSpec)

/-- 'laws.FnExactEncodeNumber', WHERE WHAT IT READS IS OF BULK AT MOST 1048576: true; the input reads as it did. -/
def fnExactEncodeNumberUptoRow : OpenClaim := { program := "ytdggbjlgimcpkaa", sum := "2d7663a77721af21950eba1c3c9f2621352fef3762645a13419334f20601a31d", func := "loop.example/g00882/laws.FnExactEncodeNumber", spec := "fnExactEncodeNumber", inPlace := ["internal/bytealg.IndexByteString"], apart := false, narrowed := true }
def FnExactEncodeNumberUptoSaid : Prop := fnExactEncodeNumberUptoRow.holds Try.pinned (OpenSpec.upto fnExactEncodeNumberSpec)

/-- 'laws.FnNumberShortest', WHERE WHAT IT READS IS OF BULK AT MOST 1048576: true; the input reads as it did. -/
def fnNumberShortestUptoRow : OpenClaim := { program := "ytdggbjlgimcpkaa", sum := "2d7663a77721af21950eba1c3c9f2621352fef3762645a13419334f20601a31d", func := "loop.example/g00882/laws.FnNumberShortest", spec := "fnNumberShortest", inPlace := ["internal/bytealg.IndexByteString"], apart := false, narrowed := true }
def FnNumberShortestUptoSaid : Prop := fnNumberShortestUptoRow.holds Try.pinned (OpenSpec.upto fnNumberShortestSpec)

/-- 'laws.FnNumberFormats', WHERE WHAT IT READS IS OF BULK AT MOST 1048576: true; the input reads as it did. -/
def fnNumberFormatsUptoRow : OpenClaim := { program := "ytdggbjlgimcpkaa", sum := "2d7663a77721af21950eba1c3c9f2621352fef3762645a13419334f20601a31d", func := "loop.example/g00882/laws.FnNumberFormats", spec := "fnNumberFormats", recurses := true, apart := false, narrowed := true }
def FnNumberFormatsUptoSaid : Prop := fnNumberFormatsUptoRow.holds Try.pinned (OpenSpec.upto fnNumberFormatsSpec)

/-- 'laws.FnNumberRoundTrip', WHERE WHAT IT READS IS OF BULK AT MOST 1048576: true; the input reads as it did. -/
def fnNumberRoundTripUptoRow : OpenClaim := { program := "ytdggbjlgimcpkaa", sum := "2d7663a77721af21950eba1c3c9f2621352fef3762645a13419334f20601a31d", func := "loop.example/g00882/laws.FnNumberRoundTrip", spec := "fnNumberRoundTrip", inPlace := ["internal/bytealg.IndexByteString"], apart := false, narrowed := true }
def FnNumberRoundTripUptoSaid : Prop := fnNumberRoundTripUptoRow.holds Try.pinned (OpenSpec.upto fnNumberRoundTripSpec)

/-- 'laws.FnExactFormatTape', WHERE WHAT IT READS IS OF BULK AT MOST 1048576: true; the input reads as it did. -/
def fnExactFormatTapeUptoRow : OpenClaim := { program := "ytdggbjlgimcpkaa", sum := "2d7663a77721af21950eba1c3c9f2621352fef3762645a13419334f20601a31d", func := "loop.example/g00882/laws.FnExactFormatTape", spec := "fnExactFormatTape", inPlace := ["internal/abi.NoEscape", "internal/bytealg.MakeNoZero"], unfollowed := true, recurses := true, apart := false, narrowed := true }
def FnExactFormatTapeUptoSaid : Prop := fnExactFormatTapeUptoRow.holds Try.pinned (OpenSpec.upto fnExactFormatTapeSpec)

/-- 'laws.FnMacroInverse', WHERE WHAT IT READS IS OF BULK AT MOST 1048576: true; the input reads as it did. -/
def fnMacroInverseUptoRow : OpenClaim := { program := "ytdggbjlgimcpkaa", sum := "2d7663a77721af21950eba1c3c9f2621352fef3762645a13419334f20601a31d", func := "loop.example/g00882/laws.FnMacroInverse", spec := "fnMacroInverse", unfollowed := true, recurses := true, apart := false, narrowed := true }
def FnMacroInverseUptoSaid : Prop := fnMacroInverseUptoRow.holds Try.pinned (OpenSpec.upto fnMacroInverseSpec)

end Rows
end Go.Proofs.Ytdggbjlgimcpkaa
