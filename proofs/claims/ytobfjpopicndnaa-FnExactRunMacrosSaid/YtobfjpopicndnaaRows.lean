/-
  No cell of these rows narrows 'for every input' (looked for: loops, veiled, ifaces, maps, wideKeys, modest, calm, conditions, laid).
  DERIVED. THE GIVEN ROWS OF THIS SEAT. 8 by the template 'for every input the law returns true; each argument reads behind the call as it read before'; 0 by the template 'total and deterministic' (their statements: YtobfjpopicndnaaTotals.lean).
  GIVEN WITH THE SEED: the statements are not yours to turn. If you find one false, say at which input.
  Laid BY PROGRAM, IN A SANDBOX (cutbox-rows.mjs): the forced cells as the released guide's own fill.sh prints them over the translation 84ed51754584dcfb… (all of the seat's roots in one cut). By AI agents, Wed Nov 11 2026. No macro, syntax, notation, axiom, sorry.
-/
import Derived.Test.YtobfjpopicndnaaChecked
import GoSem.Claim
import GoSem.ClaimJoined
import GoSem.ClaimMapViews
import Derived.JoinedTies
import Derived.KernelRfl
namespace Go.Proofs.Ytobfjpopicndnaa
/- THE CELL 'sum', in the pinned program and in every row, IS THE sha256 OF THE DUMP (.gsa) THAT YtobfjpopicndnaaProg.lean LOADS. Nothing in Lean hashes anything: it is a label: what it is worth is what the hold of that sum in a sandbox is worth. -/
noncomputable def Try.pinned : Pinned := { name := "ytobfjpopicndnaa", sum := "84ed51754584dcfbc22a14c092082c437c86c373ef05b1cc342ca3eaa9d7784d", checked := Try.checked }
namespace Rows
def none {H : Type} : Left H := { results := [], args := [] }

/-- 'laws.FnExactIsValidTape': WHATEVER THE INPUT: true; the input reads as it did. -/
def fnExactIsValidTapeSpec : ChangeSpec := { name := "fnExactIsValidTape", fn := fun _ => fun
  | [d] => { results := [.lit (.bool true)], args := [d] }
  | _ => none }
def fnExactIsValidTapeRow : OpenClaim := { program := "ytobfjpopicndnaa", sum := "84ed51754584dcfbc22a14c092082c437c86c373ef05b1cc342ca3eaa9d7784d", func := "loop.example/g00882/laws.FnExactIsValidTape", spec := "fnExactIsValidTape", unfollowed := true, recurses := true, apart := false }
def FnExactIsValidTapeSaid : Prop := fnExactIsValidTapeRow.holds Try.pinned (OpenSpec.ofChange fnExactIsValidTapeSpec)

/-- ITS FALSE NEIGHBOUR: 'it returns false'. Refute it at one input. -/
def fnExactIsValidTapeWrong : ChangeSpec := { name := "fnExactIsValidTape", fn := fun _ => fun
  | [d] => { results := [.lit (.bool false)], args := [d] }
  | _ => none }
def FnExactIsValidTapeWrongFalsely : Prop := fnExactIsValidTapeRow.holds Try.pinned (OpenSpec.ofChange fnExactIsValidTapeWrong)

/-- 'laws.FnExactNewTape': WHATEVER THE INPUT: true; the input reads as it did. -/
def fnExactNewTapeSpec : ChangeSpec := { name := "fnExactNewTape", fn := fun _ => fun
  | [d] => { results := [.lit (.bool true)], args := [d] }
  | _ => none }
def fnExactNewTapeRow : OpenClaim := { program := "ytobfjpopicndnaa", sum := "84ed51754584dcfbc22a14c092082c437c86c373ef05b1cc342ca3eaa9d7784d", func := "loop.example/g00882/laws.FnExactNewTape", spec := "fnExactNewTape", unfollowed := true, recurses := true, apart := false }
def FnExactNewTapeSaid : Prop := fnExactNewTapeRow.holds Try.pinned (OpenSpec.ofChange fnExactNewTapeSpec)

/-- ITS FALSE NEIGHBOUR: 'it returns false'. Refute it at one input. -/
def fnExactNewTapeWrong : ChangeSpec := { name := "fnExactNewTape", fn := fun _ => fun
  | [d] => { results := [.lit (.bool false)], args := [d] }
  | _ => none }
def FnExactNewTapeWrongFalsely : Prop := fnExactNewTapeRow.holds Try.pinned (OpenSpec.ofChange fnExactNewTapeWrong)

/-- 'laws.FnExactTapeStrokes': WHATEVER THE INPUT: true; the input reads as it did. -/
def fnExactTapeStrokesSpec : ChangeSpec := { name := "fnExactTapeStrokes", fn := fun _ => fun
  | [d] => { results := [.lit (.bool true)], args := [d] }
  | _ => none }
def fnExactTapeStrokesRow : OpenClaim := { program := "ytobfjpopicndnaa", sum := "84ed51754584dcfbc22a14c092082c437c86c373ef05b1cc342ca3eaa9d7784d", func := "loop.example/g00882/laws.FnExactTapeStrokes", spec := "fnExactTapeStrokes", unfollowed := true, recurses := true, apart := false }
def FnExactTapeStrokesSaid : Prop := fnExactTapeStrokesRow.holds Try.pinned (OpenSpec.ofChange fnExactTapeStrokesSpec)

/-- ITS FALSE NEIGHBOUR: 'it returns false'. Refute it at one input. -/
def fnExactTapeStrokesWrong : ChangeSpec := { name := "fnExactTapeStrokes", fn := fun _ => fun
  | [d] => { results := [.lit (.bool false)], args := [d] }
  | _ => none }
def FnExactTapeStrokesWrongFalsely : Prop := fnExactTapeStrokesRow.holds Try.pinned (OpenSpec.ofChange fnExactTapeStrokesWrong)

/-- 'laws.FnExactApplyMacro': WHATEVER THE INPUT: true; the input reads as it did. -/
def fnExactApplyMacroSpec : ChangeSpec := { name := "fnExactApplyMacro", fn := fun _ => fun
  | [d1, d2] => { results := [.lit (.bool true)], args := [d1, d2] }
  | _ => none }
def fnExactApplyMacroRow : OpenClaim := { program := "ytobfjpopicndnaa", sum := "84ed51754584dcfbc22a14c092082c437c86c373ef05b1cc342ca3eaa9d7784d", func := "loop.example/g00882/laws.FnExactApplyMacro", spec := "fnExactApplyMacro", unfollowed := true, recurses := true, apart := false }
def FnExactApplyMacroSaid : Prop := fnExactApplyMacroRow.holds Try.pinned (OpenSpec.ofChange fnExactApplyMacroSpec)

/-- ITS FALSE NEIGHBOUR: 'it returns false'. Refute it at one input. -/
def fnExactApplyMacroWrong : ChangeSpec := { name := "fnExactApplyMacro", fn := fun _ => fun
  | [d1, d2] => { results := [.lit (.bool false)], args := [d1, d2] }
  | _ => none }
def FnExactApplyMacroWrongFalsely : Prop := fnExactApplyMacroRow.holds Try.pinned (OpenSpec.ofChange fnExactApplyMacroWrong)

/-- 'laws.FnExactTapeRuns': WHATEVER THE INPUT: true; the input reads as it did. -/
def fnExactTapeRunsSpec : ChangeSpec := { name := "fnExactTapeRuns", fn := fun _ => fun
  | [d] => { results := [.lit (.bool true)], args := [d] }
  | _ => none }
def fnExactTapeRunsRow : OpenClaim := { program := "ytobfjpopicndnaa", sum := "84ed51754584dcfbc22a14c092082c437c86c373ef05b1cc342ca3eaa9d7784d", func := "loop.example/g00882/laws.FnExactTapeRuns", spec := "fnExactTapeRuns", unfollowed := true, recurses := true, apart := false }
def FnExactTapeRunsSaid : Prop := fnExactTapeRunsRow.holds Try.pinned (OpenSpec.ofChange fnExactTapeRunsSpec)

/-- ITS FALSE NEIGHBOUR: 'it returns false'. Refute it at one input. -/
def fnExactTapeRunsWrong : ChangeSpec := { name := "fnExactTapeRuns", fn := fun _ => fun
  | [d] => { results := [.lit (.bool false)], args := [d] }
  | _ => none }
def FnExactTapeRunsWrongFalsely : Prop := fnExactTapeRunsRow.holds Try.pinned (OpenSpec.ofChange fnExactTapeRunsWrong)

/-- 'laws.FnExactRunMacros': WHATEVER THE INPUT: true; the input reads as it did. -/
def fnExactRunMacrosSpec : ChangeSpec := { name := "fnExactRunMacros", fn := fun _ => fun
  | [d1, d2] => { results := [.lit (.bool true)], args := [d1, d2] }
  | _ => none }
def fnExactRunMacrosRow : OpenClaim := { program := "ytobfjpopicndnaa", sum := "84ed51754584dcfbc22a14c092082c437c86c373ef05b1cc342ca3eaa9d7784d", func := "loop.example/g00882/laws.FnExactRunMacros", spec := "fnExactRunMacros", unfollowed := true, recurses := true, apart := false }
def FnExactRunMacrosSaid : Prop := fnExactRunMacrosRow.holds Try.pinned (OpenSpec.ofChange fnExactRunMacrosSpec)

/-- ITS FALSE NEIGHBOUR: 'it returns false'. Refute it at one input. -/
def fnExactRunMacrosWrong : ChangeSpec := { name := "fnExactRunMacros", fn := fun _ => fun
  | [d1, d2] => { results := [.lit (.bool false)], args := [d1, d2] }
  | _ => none }
def FnExactRunMacrosWrongFalsely : Prop := fnExactRunMacrosRow.holds Try.pinned (OpenSpec.ofChange fnExactRunMacrosWrong)

/-- 'laws.FnExactFormatTape': WHATEVER THE INPUT: true; the input reads as it did. -/
def fnExactFormatTapeSpec : ChangeSpec := { name := "fnExactFormatTape", fn := fun _ => fun
  | [d] => { results := [.lit (.bool true)], args := [d] }
  | _ => none }
def fnExactFormatTapeRow : OpenClaim := { program := "ytobfjpopicndnaa", sum := "84ed51754584dcfbc22a14c092082c437c86c373ef05b1cc342ca3eaa9d7784d", func := "loop.example/g00882/laws.FnExactFormatTape", spec := "fnExactFormatTape", inPlace := ["internal/abi.NoEscape", "internal/bytealg.MakeNoZero"], unfollowed := true, recurses := true, apart := false }
def FnExactFormatTapeSaid : Prop := fnExactFormatTapeRow.holds Try.pinned (OpenSpec.ofChange fnExactFormatTapeSpec)

/-- ITS FALSE NEIGHBOUR: 'it returns false'. Refute it at one input. -/
def fnExactFormatTapeWrong : ChangeSpec := { name := "fnExactFormatTape", fn := fun _ => fun
  | [d] => { results := [.lit (.bool false)], args := [d] }
  | _ => none }
def FnExactFormatTapeWrongFalsely : Prop := fnExactFormatTapeRow.holds Try.pinned (OpenSpec.ofChange fnExactFormatTapeWrong)

/-- 'laws.FnMacroInverse': WHATEVER THE INPUT: true; the input reads as it did. -/
def fnMacroInverseSpec : ChangeSpec := { name := "fnMacroInverse", fn := fun _ => fun
  | [d] => { results := [.lit (.bool true)], args := [d] }
  | _ => none }
def fnMacroInverseRow : OpenClaim := { program := "ytobfjpopicndnaa", sum := "84ed51754584dcfbc22a14c092082c437c86c373ef05b1cc342ca3eaa9d7784d", func := "loop.example/g00882/laws.FnMacroInverse", spec := "fnMacroInverse", unfollowed := true, recurses := true, apart := false }
def FnMacroInverseSaid : Prop := fnMacroInverseRow.holds Try.pinned (OpenSpec.ofChange fnMacroInverseSpec)

/-- ITS FALSE NEIGHBOUR: 'it returns false'. Refute it at one input. -/
def fnMacroInverseWrong : ChangeSpec := { name := "fnMacroInverse", fn := fun _ => fun
  | [d] => { results := [.lit (.bool false)], args := [d] }
  | _ => none }
def FnMacroInverseWrongFalsely : Prop := fnMacroInverseRow.holds Try.pinned (OpenSpec.ofChange fnMacroInverseWrong)

/- THE SECOND FORM. 'bulk': how many values and letters a reading holds, each counted each time it is reached (what is shared counts as often as it is met; a slice's spare places count too). A statement '..UptoSaid' is the law's where the arguments, and the package variables that the reading takes, are together of bulk at most 1048576: NARROWER than '..Said'. Prove '..Said' where nothing that the law and all that it calls make is longer than what came in: it says more and counts as full. Else prove '..UptoSaid'. A law counts once. -/
mutual
def uptoBulk {H : Type} : DataW H → Nat
  | .lit (.string bytes) => bytes.length + 1
  | .lit _ => 1
  | .nil => 1
  | .ptr d => uptoBulk d + 1
  | .slice elems spare => uptoBulkAll elems + uptoBulkAll spare + 1
  | .agg parts => uptoBulkAll parts + 1
  | .iface _ d => uptoBulk d + 1
  | .map entries => uptoBulkEntries entries + 1
  | .held _ => 1
def uptoBulkAll {H : Type} : List (DataW H) → Nat
  | [] => 0
  | d :: r => uptoBulk d + uptoBulkAll r
def uptoBulkEntries {H : Type} : List (Lit × DataW H) → Nat
  | [] => 0
  | x :: r => uptoBulkEntry x + uptoBulkEntries r
def uptoBulkEntry {H : Type} : Lit × DataW H → Nat
  | (.string bytes, d) => bytes.length + uptoBulk d + 1
  | (_, d) => uptoBulk d + 1
 end
def uptoSmall : (H : Type) → List (DataW H) → Bool := fun _ ds => decide (uptoBulkAll ds ≤ 1048576)
def OpenSpec.upto (s : _root_.Go.ChangeSpec) : _root_.Go.OpenSpec := { _root_.Go.OpenSpec.ofChange s with cond := some uptoSmall }

/-- 'laws.FnExactIsValidTape', WHERE WHAT IT READS IS OF BULK AT MOST 1048576: true; the input reads as it did. -/
def fnExactIsValidTapeUptoRow : OpenClaim := { program := "ytobfjpopicndnaa", sum := "84ed51754584dcfbc22a14c092082c437c86c373ef05b1cc342ca3eaa9d7784d", func := "loop.example/g00882/laws.FnExactIsValidTape", spec := "fnExactIsValidTape", unfollowed := true, recurses := true, apart := false, narrowed := true }
def FnExactIsValidTapeUptoSaid : Prop := fnExactIsValidTapeUptoRow.holds Try.pinned (OpenSpec.upto fnExactIsValidTapeSpec)

/-- 'laws.FnExactNewTape', WHERE WHAT IT READS IS OF BULK AT MOST 1048576: true; the input reads as it did. -/
def fnExactNewTapeUptoRow : OpenClaim := { program := "ytobfjpopicndnaa", sum := "84ed51754584dcfbc22a14c092082c437c86c373ef05b1cc342ca3eaa9d7784d", func := "loop.example/g00882/laws.FnExactNewTape", spec := "fnExactNewTape", unfollowed := true, recurses := true, apart := false, narrowed := true }
def FnExactNewTapeUptoSaid : Prop := fnExactNewTapeUptoRow.holds Try.pinned (OpenSpec.upto fnExactNewTapeSpec)

/-- 'laws.FnExactTapeStrokes', WHERE WHAT IT READS IS OF BULK AT MOST 1048576: true; the input reads as it did. -/
def fnExactTapeStrokesUptoRow : OpenClaim := { program := "ytobfjpopicndnaa", sum := "84ed51754584dcfbc22a14c092082c437c86c373ef05b1cc342ca3eaa9d7784d", func := "loop.example/g00882/laws.FnExactTapeStrokes", spec := "fnExactTapeStrokes", unfollowed := true, recurses := true, apart := false, narrowed := true }
def FnExactTapeStrokesUptoSaid : Prop := fnExactTapeStrokesUptoRow.holds Try.pinned (OpenSpec.upto fnExactTapeStrokesSpec)

/-- 'laws.FnExactApplyMacro', WHERE WHAT IT READS IS OF BULK AT MOST 1048576: true; the input reads as it did. -/
def fnExactApplyMacroUptoRow : OpenClaim := { program := "ytobfjpopicndnaa", sum := "84ed51754584dcfbc22a14c092082c437c86c373ef05b1cc342ca3eaa9d7784d", func := "loop.example/g00882/laws.FnExactApplyMacro", spec := "fnExactApplyMacro", unfollowed := true, recurses := true, apart := false, narrowed := true }
def FnExactApplyMacroUptoSaid : Prop := fnExactApplyMacroUptoRow.holds Try.pinned (OpenSpec.upto fnExactApplyMacroSpec)

/-- 'laws.FnExactTapeRuns', WHERE WHAT IT READS IS OF BULK AT MOST 1048576: true; the input reads as it did. -/
def fnExactTapeRunsUptoRow : OpenClaim := { program := "ytobfjpopicndnaa", sum := "84ed51754584dcfbc22a14c092082c437c86c373ef05b1cc342ca3eaa9d7784d", func := "loop.example/g00882/laws.FnExactTapeRuns", spec := "fnExactTapeRuns", unfollowed := true, recurses := true, apart := false, narrowed := true }
def FnExactTapeRunsUptoSaid : Prop := fnExactTapeRunsUptoRow.holds Try.pinned (OpenSpec.upto fnExactTapeRunsSpec)

/-- 'laws.FnExactRunMacros', WHERE WHAT IT READS IS OF BULK AT MOST 1048576: true; the input reads as it did. -/
def fnExactRunMacrosUptoRow : OpenClaim := { program := "ytobfjpopicndnaa", sum := "84ed51754584dcfbc22a14c092082c437c86c373ef05b1cc342ca3eaa9d7784d", func := "loop.example/g00882/laws.FnExactRunMacros", spec := "fnExactRunMacros", unfollowed := true, recurses := true, apart := false, narrowed := true }
def FnExactRunMacrosUptoSaid : Prop := fnExactRunMacrosUptoRow.holds Try.pinned (OpenSpec.upto fnExactRunMacrosSpec)

/-- 'laws.FnExactFormatTape', WHERE WHAT IT READS IS OF BULK AT MOST 1048576: true; the input reads as it did. -/
def fnExactFormatTapeUptoRow : OpenClaim := { program := "ytobfjpopicndnaa", sum := "84ed51754584dcfbc22a14c092082c437c86c373ef05b1cc342ca3eaa9d7784d", func := "loop.example/g00882/laws.FnExactFormatTape", spec := "fnExactFormatTape", inPlace := ["internal/abi.NoEscape", "internal/bytealg.MakeNoZero"], unfollowed := true, recurses := true, apart := false, narrowed := true }
def FnExactFormatTapeUptoSaid : Prop := fnExactFormatTapeUptoRow.holds Try.pinned (OpenSpec.upto fnExactFormatTapeSpec)

/-- 'laws.FnMacroInverse', WHERE WHAT IT READS IS OF BULK AT MOST 1048576: true; the input reads as it did. -/
def fnMacroInverseUptoRow : OpenClaim := { program := "ytobfjpopicndnaa", sum := "84ed51754584dcfbc22a14c092082c437c86c373ef05b1cc342ca3eaa9d7784d", func := "loop.example/g00882/laws.FnMacroInverse", spec := "fnMacroInverse", unfollowed := true, recurses := true, apart := false, narrowed := true }
def FnMacroInverseUptoSaid : Prop := fnMacroInverseUptoRow.holds Try.pinned (OpenSpec.upto fnMacroInverseSpec)

end Rows
end Go.Proofs.Ytobfjpopicndnaa
