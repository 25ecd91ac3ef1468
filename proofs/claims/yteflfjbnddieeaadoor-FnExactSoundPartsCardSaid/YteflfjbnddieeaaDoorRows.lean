/-
  NARROWER THAN 'FOR EVERY INPUT', by the rows' own cells (each row's printed sentence says how): FnExactIsYard: laid · FnExactMirrorYard: laid · FnExactFewestOfLength: laid · FnExactLongestSound: laid · FnExactBrokenOf: laid · FnExactStartsOfLength: laid · FnExactGapsOf: laid · FnExactSoundParts: laid · FnExactBreakBoard: laid · FnExactMendBoards: laid.
  DERIVED. THE GIVEN ROWS OF THIS SEAT. 10 by the template 'for every input the law returns true; each argument reads behind the call as it read before'; 0 by the template 'total and deterministic' (their statements: YteflfjbnddieeaaDoorTotals.lean).
  GIVEN WITH THE SEED: the statements are not yours to turn. If you find one false, say at which input.
  Laid BY PROGRAM, IN A SANDBOX (cutbox-rows.mjs): the forced cells as the released guide's own fill.sh prints them over the translation f402e43c02d5f52a… (all of the seat's roots in one cut). By AI agents, Wed Nov 11 2026. No macro, syntax, notation, axiom, sorry.
-/
import Derived.Test.YteflfjbnddieeaaDoorChecked
import GoSem.PinnedTables
import GoSem.Claim
import GoSem.ClaimJoined
import GoSem.ClaimMapViews
import Derived.JoinedTies
import Derived.KernelRfl
namespace Go.Proofs.YteflfjbnddieeaaDoor
/- THE CELL 'sum', in the pinned program and in every row, IS THE sha256 OF THE DUMP (.gsa) THAT YteflfjbnddieeaaDoorProg.lean LOADS. Nothing in Lean hashes anything: it is a label: what it is worth is what the hold of that sum in a sandbox is worth. -/
noncomputable def Tryd.pinned : Pinned := { name := "yteflfjbnddieeaadoor", sum := "f402e43c02d5f52a04a9e106f02b97cffbe991181c1237618c09266385e78a68", checked := Tryd.checked }
namespace Rows
def none {H : Type} : Left H := { results := [], args := [] }

/- WHAT THE LISTED PACKAGE-LEVEL VARIABLES READ AS WHEN THE CALL BEGINS. Each datum BY PROGRAM (the guide's laid-datum.mjs) off the statement by which the dump's own 'gosem.cut.vars' lays the variable. In a bare row this is a premise. The card (YteflfjbnddieeaaDoorCards.lean) ties it to the program's text. -/
def laid_unicode_utf8_acceptRanges {H : Type} : DataW H := .agg [.agg [.lit (.int .u8 128), .lit (.int .u8 191)], .agg [.lit (.int .u8 160), .lit (.int .u8 191)], .agg [.lit (.int .u8 128), .lit (.int .u8 159)], .agg [.lit (.int .u8 144), .lit (.int .u8 191)], .agg [.lit (.int .u8 128), .lit (.int .u8 143)], .agg [.lit (.int .u8 0), .lit (.int .u8 0)], .agg [.lit (.int .u8 0), .lit (.int .u8 0)], .agg [.lit (.int .u8 0), .lit (.int .u8 0)], .agg [.lit (.int .u8 0), .lit (.int .u8 0)], .agg [.lit (.int .u8 0), .lit (.int .u8 0)], .agg [.lit (.int .u8 0), .lit (.int .u8 0)], .agg [.lit (.int .u8 0), .lit (.int .u8 0)], .agg [.lit (.int .u8 0), .lit (.int .u8 0)], .agg [.lit (.int .u8 0), .lit (.int .u8 0)], .agg [.lit (.int .u8 0), .lit (.int .u8 0)], .agg [.lit (.int .u8 0), .lit (.int .u8 0)]]
/-- One of Go's own tables, pinned by name: the form's constant. -/
def laid_unicode_utf8_first : DataW Unit := Go.Pinned.utf8First

/-- 'laws.FnExactIsYard': WHATEVER THE INPUT: true; the input reads as it did. -/
def fnExactIsYardSpec : ChangeSpec := { name := "fnExactIsYard", fn := fun _ => fun
  | [d] => { results := [.lit (.bool true)], args := [d] }
  | _ => none }
def fnExactIsYardRow : OpenClaim := { program := "yteflfjbnddieeaadoor", sum := "f402e43c02d5f52a04a9e106f02b97cffbe991181c1237618c09266385e78a68", func := "loop.example/g01373/laws.FnExactIsYard", spec := "fnExactIsYard", inPlace := ["internal/bytealg.IndexByteString", "internal/bytealg.IndexString"], named := ["unicode/utf8.first", "unicode/utf8.acceptRanges", "internal/bytealg.MaxLen"], apart := false, laid := [("unicode/utf8.acceptRanges", laid_unicode_utf8_acceptRanges), ("unicode/utf8.first", laid_unicode_utf8_first)] }
def FnExactIsYardSaid : Prop := fnExactIsYardRow.holds Tryd.pinned (OpenSpec.ofChange fnExactIsYardSpec)

/-- ITS FALSE NEIGHBOUR: 'it returns false'. Refute it at one input. -/
def fnExactIsYardWrong : ChangeSpec := { name := "fnExactIsYard", fn := fun _ => fun
  | [d] => { results := [.lit (.bool false)], args := [d] }
  | _ => none }
def FnExactIsYardWrongFalsely : Prop := fnExactIsYardRow.holds Tryd.pinned (OpenSpec.ofChange fnExactIsYardWrong)

/-- 'laws.FnExactMirrorYard': WHATEVER THE INPUT: true; the input reads as it did. -/
def fnExactMirrorYardSpec : ChangeSpec := { name := "fnExactMirrorYard", fn := fun _ => fun
  | [d] => { results := [.lit (.bool true)], args := [d] }
  | _ => none }
def fnExactMirrorYardRow : OpenClaim := { program := "yteflfjbnddieeaadoor", sum := "f402e43c02d5f52a04a9e106f02b97cffbe991181c1237618c09266385e78a68", func := "loop.example/g01373/laws.FnExactMirrorYard", spec := "fnExactMirrorYard", inPlace := ["internal/bytealg.IndexByteString", "internal/bytealg.IndexString"], named := ["unicode/utf8.first", "unicode/utf8.acceptRanges", "internal/bytealg.MaxLen"], apart := false, laid := [("unicode/utf8.acceptRanges", laid_unicode_utf8_acceptRanges), ("unicode/utf8.first", laid_unicode_utf8_first)] }
def FnExactMirrorYardSaid : Prop := fnExactMirrorYardRow.holds Tryd.pinned (OpenSpec.ofChange fnExactMirrorYardSpec)

/-- ITS FALSE NEIGHBOUR: 'it returns false'. Refute it at one input. -/
def fnExactMirrorYardWrong : ChangeSpec := { name := "fnExactMirrorYard", fn := fun _ => fun
  | [d] => { results := [.lit (.bool false)], args := [d] }
  | _ => none }
def FnExactMirrorYardWrongFalsely : Prop := fnExactMirrorYardRow.holds Tryd.pinned (OpenSpec.ofChange fnExactMirrorYardWrong)

/-- 'laws.FnExactFewestOfLength': WHATEVER THE INPUT: true; the input reads as it did. -/
def fnExactFewestOfLengthSpec : ChangeSpec := { name := "fnExactFewestOfLength", fn := fun _ => fun
  | [d1, d2] => { results := [.lit (.bool true)], args := [d1, d2] }
  | _ => none }
def fnExactFewestOfLengthRow : OpenClaim := { program := "yteflfjbnddieeaadoor", sum := "f402e43c02d5f52a04a9e106f02b97cffbe991181c1237618c09266385e78a68", func := "loop.example/g01373/laws.FnExactFewestOfLength", spec := "fnExactFewestOfLength", inPlace := ["internal/bytealg.IndexByteString", "internal/bytealg.IndexString"], named := ["unicode/utf8.first", "unicode/utf8.acceptRanges", "internal/bytealg.MaxLen"], apart := false, laid := [("unicode/utf8.acceptRanges", laid_unicode_utf8_acceptRanges), ("unicode/utf8.first", laid_unicode_utf8_first)] }
def FnExactFewestOfLengthSaid : Prop := fnExactFewestOfLengthRow.holds Tryd.pinned (OpenSpec.ofChange fnExactFewestOfLengthSpec)

/-- ITS FALSE NEIGHBOUR: 'it returns false'. Refute it at one input. -/
def fnExactFewestOfLengthWrong : ChangeSpec := { name := "fnExactFewestOfLength", fn := fun _ => fun
  | [d1, d2] => { results := [.lit (.bool false)], args := [d1, d2] }
  | _ => none }
def FnExactFewestOfLengthWrongFalsely : Prop := fnExactFewestOfLengthRow.holds Tryd.pinned (OpenSpec.ofChange fnExactFewestOfLengthWrong)

/-- 'laws.FnExactLongestSound': WHATEVER THE INPUT: true; the input reads as it did. -/
def fnExactLongestSoundSpec : ChangeSpec := { name := "fnExactLongestSound", fn := fun _ => fun
  | [d] => { results := [.lit (.bool true)], args := [d] }
  | _ => none }
def fnExactLongestSoundRow : OpenClaim := { program := "yteflfjbnddieeaadoor", sum := "f402e43c02d5f52a04a9e106f02b97cffbe991181c1237618c09266385e78a68", func := "loop.example/g01373/laws.FnExactLongestSound", spec := "fnExactLongestSound", inPlace := ["internal/bytealg.IndexByteString", "internal/bytealg.IndexString"], named := ["unicode/utf8.first", "unicode/utf8.acceptRanges", "internal/bytealg.MaxLen"], apart := false, laid := [("unicode/utf8.acceptRanges", laid_unicode_utf8_acceptRanges), ("unicode/utf8.first", laid_unicode_utf8_first)] }
def FnExactLongestSoundSaid : Prop := fnExactLongestSoundRow.holds Tryd.pinned (OpenSpec.ofChange fnExactLongestSoundSpec)

/-- ITS FALSE NEIGHBOUR: 'it returns false'. Refute it at one input. -/
def fnExactLongestSoundWrong : ChangeSpec := { name := "fnExactLongestSound", fn := fun _ => fun
  | [d] => { results := [.lit (.bool false)], args := [d] }
  | _ => none }
def FnExactLongestSoundWrongFalsely : Prop := fnExactLongestSoundRow.holds Tryd.pinned (OpenSpec.ofChange fnExactLongestSoundWrong)

/-- 'laws.FnExactBrokenOf': WHATEVER THE INPUT: true; the input reads as it did. -/
def fnExactBrokenOfSpec : ChangeSpec := { name := "fnExactBrokenOf", fn := fun _ => fun
  | [d] => { results := [.lit (.bool true)], args := [d] }
  | _ => none }
def fnExactBrokenOfRow : OpenClaim := { program := "yteflfjbnddieeaadoor", sum := "f402e43c02d5f52a04a9e106f02b97cffbe991181c1237618c09266385e78a68", func := "loop.example/g01373/laws.FnExactBrokenOf", spec := "fnExactBrokenOf", inPlace := ["internal/bytealg.IndexByteString", "internal/bytealg.IndexString"], named := ["unicode/utf8.first", "unicode/utf8.acceptRanges", "internal/bytealg.MaxLen"], apart := false, laid := [("unicode/utf8.acceptRanges", laid_unicode_utf8_acceptRanges), ("unicode/utf8.first", laid_unicode_utf8_first)] }
def FnExactBrokenOfSaid : Prop := fnExactBrokenOfRow.holds Tryd.pinned (OpenSpec.ofChange fnExactBrokenOfSpec)

/-- ITS FALSE NEIGHBOUR: 'it returns false'. Refute it at one input. -/
def fnExactBrokenOfWrong : ChangeSpec := { name := "fnExactBrokenOf", fn := fun _ => fun
  | [d] => { results := [.lit (.bool false)], args := [d] }
  | _ => none }
def FnExactBrokenOfWrongFalsely : Prop := fnExactBrokenOfRow.holds Tryd.pinned (OpenSpec.ofChange fnExactBrokenOfWrong)

/-- 'laws.FnExactStartsOfLength': WHATEVER THE INPUT: true; the input reads as it did. -/
def fnExactStartsOfLengthSpec : ChangeSpec := { name := "fnExactStartsOfLength", fn := fun _ => fun
  | [d1, d2] => { results := [.lit (.bool true)], args := [d1, d2] }
  | _ => none }
def fnExactStartsOfLengthRow : OpenClaim := { program := "yteflfjbnddieeaadoor", sum := "f402e43c02d5f52a04a9e106f02b97cffbe991181c1237618c09266385e78a68", func := "loop.example/g01373/laws.FnExactStartsOfLength", spec := "fnExactStartsOfLength", inPlace := ["internal/bytealg.IndexByteString", "internal/bytealg.IndexString"], named := ["unicode/utf8.first", "unicode/utf8.acceptRanges", "internal/bytealg.MaxLen"], apart := false, laid := [("unicode/utf8.acceptRanges", laid_unicode_utf8_acceptRanges), ("unicode/utf8.first", laid_unicode_utf8_first)] }
def FnExactStartsOfLengthSaid : Prop := fnExactStartsOfLengthRow.holds Tryd.pinned (OpenSpec.ofChange fnExactStartsOfLengthSpec)

/-- ITS FALSE NEIGHBOUR: 'it returns false'. Refute it at one input. -/
def fnExactStartsOfLengthWrong : ChangeSpec := { name := "fnExactStartsOfLength", fn := fun _ => fun
  | [d1, d2] => { results := [.lit (.bool false)], args := [d1, d2] }
  | _ => none }
def FnExactStartsOfLengthWrongFalsely : Prop := fnExactStartsOfLengthRow.holds Tryd.pinned (OpenSpec.ofChange fnExactStartsOfLengthWrong)

/-- 'laws.FnExactGapsOf': WHATEVER THE INPUT: true; the input reads as it did. -/
def fnExactGapsOfSpec : ChangeSpec := { name := "fnExactGapsOf", fn := fun _ => fun
  | [d] => { results := [.lit (.bool true)], args := [d] }
  | _ => none }
def fnExactGapsOfRow : OpenClaim := { program := "yteflfjbnddieeaadoor", sum := "f402e43c02d5f52a04a9e106f02b97cffbe991181c1237618c09266385e78a68", func := "loop.example/g01373/laws.FnExactGapsOf", spec := "fnExactGapsOf", inPlace := ["internal/bytealg.IndexByteString", "internal/bytealg.IndexString"], named := ["unicode/utf8.first", "unicode/utf8.acceptRanges", "internal/bytealg.MaxLen"], apart := false, laid := [("unicode/utf8.acceptRanges", laid_unicode_utf8_acceptRanges), ("unicode/utf8.first", laid_unicode_utf8_first)] }
def FnExactGapsOfSaid : Prop := fnExactGapsOfRow.holds Tryd.pinned (OpenSpec.ofChange fnExactGapsOfSpec)

/-- ITS FALSE NEIGHBOUR: 'it returns false'. Refute it at one input. -/
def fnExactGapsOfWrong : ChangeSpec := { name := "fnExactGapsOf", fn := fun _ => fun
  | [d] => { results := [.lit (.bool false)], args := [d] }
  | _ => none }
def FnExactGapsOfWrongFalsely : Prop := fnExactGapsOfRow.holds Tryd.pinned (OpenSpec.ofChange fnExactGapsOfWrong)

/-- 'laws.FnExactSoundParts': WHATEVER THE INPUT: true; the input reads as it did. -/
def fnExactSoundPartsSpec : ChangeSpec := { name := "fnExactSoundParts", fn := fun _ => fun
  | [d] => { results := [.lit (.bool true)], args := [d] }
  | _ => none }
def fnExactSoundPartsRow : OpenClaim := { program := "yteflfjbnddieeaadoor", sum := "f402e43c02d5f52a04a9e106f02b97cffbe991181c1237618c09266385e78a68", func := "loop.example/g01373/laws.FnExactSoundParts", spec := "fnExactSoundParts", inPlace := ["internal/bytealg.IndexByteString", "internal/bytealg.IndexString"], named := ["unicode/utf8.first", "unicode/utf8.acceptRanges", "internal/bytealg.MaxLen"], apart := false, laid := [("unicode/utf8.acceptRanges", laid_unicode_utf8_acceptRanges), ("unicode/utf8.first", laid_unicode_utf8_first)] }
def FnExactSoundPartsSaid : Prop := fnExactSoundPartsRow.holds Tryd.pinned (OpenSpec.ofChange fnExactSoundPartsSpec)

/-- ITS FALSE NEIGHBOUR: 'it returns false'. Refute it at one input. -/
def fnExactSoundPartsWrong : ChangeSpec := { name := "fnExactSoundParts", fn := fun _ => fun
  | [d] => { results := [.lit (.bool false)], args := [d] }
  | _ => none }
def FnExactSoundPartsWrongFalsely : Prop := fnExactSoundPartsRow.holds Tryd.pinned (OpenSpec.ofChange fnExactSoundPartsWrong)

/-- 'laws.FnExactBreakBoard': WHATEVER THE INPUT: true; the input reads as it did. -/
def fnExactBreakBoardSpec : ChangeSpec := { name := "fnExactBreakBoard", fn := fun _ => fun
  | [d1, d2] => { results := [.lit (.bool true)], args := [d1, d2] }
  | _ => none }
def fnExactBreakBoardRow : OpenClaim := { program := "yteflfjbnddieeaadoor", sum := "f402e43c02d5f52a04a9e106f02b97cffbe991181c1237618c09266385e78a68", func := "loop.example/g01373/laws.FnExactBreakBoard", spec := "fnExactBreakBoard", inPlace := ["internal/bytealg.IndexByteString", "internal/bytealg.IndexString", "internal/abi.NoEscape", "internal/bytealg.MakeNoZero"], named := ["unicode/utf8.first", "unicode/utf8.acceptRanges", "internal/bytealg.MaxLen"], apart := false, laid := [("unicode/utf8.acceptRanges", laid_unicode_utf8_acceptRanges), ("unicode/utf8.first", laid_unicode_utf8_first)] }
def FnExactBreakBoardSaid : Prop := fnExactBreakBoardRow.holds Tryd.pinned (OpenSpec.ofChange fnExactBreakBoardSpec)

/-- ITS FALSE NEIGHBOUR: 'it returns false'. Refute it at one input. -/
def fnExactBreakBoardWrong : ChangeSpec := { name := "fnExactBreakBoard", fn := fun _ => fun
  | [d1, d2] => { results := [.lit (.bool false)], args := [d1, d2] }
  | _ => none }
def FnExactBreakBoardWrongFalsely : Prop := fnExactBreakBoardRow.holds Tryd.pinned (OpenSpec.ofChange fnExactBreakBoardWrong)

/-- 'laws.FnExactMendBoards': WHATEVER THE INPUT: true; the input reads as it did. -/
def fnExactMendBoardsSpec : ChangeSpec := { name := "fnExactMendBoards", fn := fun _ => fun
  | [d1, d2, d3] => { results := [.lit (.bool true)], args := [d1, d2, d3] }
  | _ => none }
def fnExactMendBoardsRow : OpenClaim := { program := "yteflfjbnddieeaadoor", sum := "f402e43c02d5f52a04a9e106f02b97cffbe991181c1237618c09266385e78a68", func := "loop.example/g01373/laws.FnExactMendBoards", spec := "fnExactMendBoards", inPlace := ["internal/bytealg.IndexByteString", "internal/bytealg.IndexString", "internal/abi.NoEscape", "internal/bytealg.MakeNoZero"], named := ["unicode/utf8.first", "unicode/utf8.acceptRanges", "internal/bytealg.MaxLen"], apart := false, laid := [("unicode/utf8.acceptRanges", laid_unicode_utf8_acceptRanges), ("unicode/utf8.first", laid_unicode_utf8_first)] }
def FnExactMendBoardsSaid : Prop := fnExactMendBoardsRow.holds Tryd.pinned (OpenSpec.ofChange fnExactMendBoardsSpec)

/-- ITS FALSE NEIGHBOUR: 'it returns false'. Refute it at one input. -/
def fnExactMendBoardsWrong : ChangeSpec := { name := "fnExactMendBoards", fn := fun _ => fun
  | [d1, d2, d3] => { results := [.lit (.bool false)], args := [d1, d2, d3] }
  | _ => none }
def FnExactMendBoardsWrongFalsely : Prop := fnExactMendBoardsRow.holds Tryd.pinned (OpenSpec.ofChange fnExactMendBoardsWrong)

/- THE SECOND FORM. 'bulk': how many values and letters a reading holds, each counted each time it is reached (what is shared counts as often as it is met; a slice's spare places count too). A statement '..UptoSaid' is the law's where the arguments, and the package variables that the reading takes, are together of bulk at most 1048576: NARROWER than '..Said'. Prove '..Said' where nothing that the law and all that it calls make is longer than what came in: it says more and counts as full. Else prove '..UptoSaid'. A law counts once. -/
mutual
def uptoBulk {H : Type} : DataW H → Nat
  | .lit (.string bytes) => bytes.length + 1
  | .lit _ => 1
  | .nil => 1
  | .ptr d => uptoBulk d + 1
  | .slice elems spare => uptoBulkAll elems + uptoBulkAll spare + 1
  | .agg parts => uptoBulkAll parts + 1
  | .iface _ d => uptoBulk d + 1
  | .map entries => uptoBulkEntries entries + 1
  | .held _ => 1
def uptoBulkAll {H : Type} : List (DataW H) → Nat
  | [] => 0
  | d :: r => uptoBulk d + uptoBulkAll r
def uptoBulkEntries {H : Type} : List (Lit × DataW H) → Nat
  | [] => 0
  | x :: r => uptoBulkEntry x + uptoBulkEntries r
def uptoBulkEntry {H : Type} : Lit × DataW H → Nat
  | (.string bytes, d) => bytes.length + uptoBulk d + 1
  | (_, d) => uptoBulk d + 1
 end
def uptoSmall : (H : Type) → List (DataW H) → Bool := fun _ ds => decide (uptoBulkAll ds ≤ 1048576)
def OpenSpec.upto (s : _root_.Go.ChangeSpec) : _root_.Go.OpenSpec := { _root_.Go.OpenSpec.ofChange s with cond := some uptoSmall }

/-- 'laws.FnExactIsYard', WHERE WHAT IT READS IS OF BULK AT MOST 1048576: true; the input reads as it did. -/
def fnExactIsYardUptoRow : OpenClaim := { program := "yteflfjbnddieeaadoor", sum := "f402e43c02d5f52a04a9e106f02b97cffbe991181c1237618c09266385e78a68", func := "loop.example/g01373/laws.FnExactIsYard", spec := "fnExactIsYard", inPlace := ["internal/bytealg.IndexByteString", "internal/bytealg.IndexString"], named := ["unicode/utf8.first", "unicode/utf8.acceptRanges", "internal/bytealg.MaxLen"], apart := false, laid := [("unicode/utf8.acceptRanges", laid_unicode_utf8_acceptRanges), ("unicode/utf8.first", laid_unicode_utf8_first)], narrowed := true }
def FnExactIsYardUptoSaid : Prop := fnExactIsYardUptoRow.holds Tryd.pinned (OpenSpec.upto fnExactIsYardSpec)

/-- 'laws.FnExactMirrorYard', WHERE WHAT IT READS IS OF BULK AT MOST 1048576: true; the input reads as it did. -/
def fnExactMirrorYardUptoRow : OpenClaim := { program := "yteflfjbnddieeaadoor", sum := "f402e43c02d5f52a04a9e106f02b97cffbe991181c1237618c09266385e78a68", func := "loop.example/g01373/laws.FnExactMirrorYard", spec := "fnExactMirrorYard", inPlace := ["internal/bytealg.IndexByteString", "internal/bytealg.IndexString"], named := ["unicode/utf8.first", "unicode/utf8.acceptRanges", "internal/bytealg.MaxLen"], apart := false, laid := [("unicode/utf8.acceptRanges", laid_unicode_utf8_acceptRanges), ("unicode/utf8.first", laid_unicode_utf8_first)], narrowed := true }
def FnExactMirrorYardUptoSaid : Prop := fnExactMirrorYardUptoRow.holds Tryd.pinned (OpenSpec.upto fnExactMirrorYardSpec)

/-- 'laws.FnExactFewestOfLength', WHERE WHAT IT READS IS OF BULK AT MOST 1048576: true; the input reads as it did. -/
def fnExactFewestOfLengthUptoRow : OpenClaim := { program := "yteflfjbnddieeaadoor", sum := "f402e43c02d5f52a04a9e106f02b97cffbe991181c1237618c09266385e78a68", func := "loop.example/g01373/laws.FnExactFewestOfLength", spec := "fnExactFewestOfLength", inPlace := ["internal/bytealg.IndexByteString", "internal/bytealg.IndexString"], named := ["unicode/utf8.first", "unicode/utf8.acceptRanges", "internal/bytealg.MaxLen"], apart := false, laid := [("unicode/utf8.acceptRanges", laid_unicode_utf8_acceptRanges), ("unicode/utf8.first", laid_unicode_utf8_first)], narrowed := true }
def FnExactFewestOfLengthUptoSaid : Prop := fnExactFewestOfLengthUptoRow.holds Tryd.pinned (OpenSpec.upto fnExactFewestOfLengthSpec)

/-- 'laws.FnExactLongestSound', WHERE WHAT IT READS IS OF BULK AT MOST 1048576: true; the input reads as it did. -/
def fnExactLongestSoundUptoRow : OpenClaim := { program := "yteflfjbnddieeaadoor", sum := "f402e43c02d5f52a04a9e106f02b97cffbe991181c1237618c09266385e78a68", func := "loop.example/g01373/laws.FnExactLongestSound", spec := "fnExactLongestSound", inPlace := ["internal/bytealg.IndexByteString", "internal/bytealg.IndexString"], named := ["unicode/utf8.first", "unicode/utf8.acceptRanges", "internal/bytealg.MaxLen"], apart := false, laid := [("unicode/utf8.acceptRanges", laid_unicode_utf8_acceptRanges), ("unicode/utf8.first", laid_unicode_utf8_first)], narrowed := true }
def FnExactLongestSoundUptoSaid : Prop := fnExactLongestSoundUptoRow.holds Tryd.pinned (OpenSpec.upto fnExactLongestSoundSpec)

/-- 'laws.FnExactBrokenOf', WHERE WHAT IT READS IS OF BULK AT MOST 1048576: true; the input reads as it did. -/
def fnExactBrokenOfUptoRow : OpenClaim := { program := "yteflfjbnddieeaadoor", sum := "f402e43c02d5f52a04a9e106f02b97cffbe991181c1237618c09266385e78a68", func := "loop.example/g01373/laws.FnExactBrokenOf", spec := "fnExactBrokenOf", inPlace := ["internal/bytealg.IndexByteString", "internal/bytealg.IndexString"], named := ["unicode/utf8.first", "unicode/utf8.acceptRanges", "internal/bytealg.MaxLen"], apart := false, laid := [("unicode/utf8.acceptRanges", laid_unicode_utf8_acceptRanges), ("unicode/utf8.first", laid_unicode_utf8_first)], narrowed := true }
def FnExactBrokenOfUptoSaid : Prop := fnExactBrokenOfUptoRow.holds Tryd.pinned (OpenSpec.upto fnExactBrokenOfSpec)

/-- 'laws.FnExactStartsOfLength', WHERE WHAT IT READS IS OF BULK AT MOST 1048576: true; the input reads as it did. -/
def fnExactStartsOfLengthUptoRow : OpenClaim := { program := "yteflfjbnddieeaadoor", sum := "f402e43c02d5f52a04a9e106f02b97cffbe991181c1237618c09266385e78a68", func := "loop.example/g01373/laws.FnExactStartsOfLength", spec := "fnExactStartsOfLength", inPlace := ["internal/bytealg.IndexByteString", "internal/bytealg.IndexString"], named := ["unicode/utf8.first", "unicode/utf8.acceptRanges", "internal/bytealg.MaxLen"], apart := false, laid := [("unicode/utf8.acceptRanges", laid_unicode_utf8_acceptRanges), ("unicode/utf8.first", laid_unicode_utf8_first)], narrowed := true }
def FnExactStartsOfLengthUptoSaid : Prop := fnExactStartsOfLengthUptoRow.holds Tryd.pinned (OpenSpec.upto fnExactStartsOfLengthSpec)

/-- 'laws.FnExactGapsOf', WHERE WHAT IT READS IS OF BULK AT MOST 1048576: true; the input reads as it did. -/
def fnExactGapsOfUptoRow : OpenClaim := { program := "yteflfjbnddieeaadoor", sum := "f402e43c02d5f52a04a9e106f02b97cffbe991181c1237618c09266385e78a68", func := "loop.example/g01373/laws.FnExactGapsOf", spec := "fnExactGapsOf", inPlace := ["internal/bytealg.IndexByteString", "internal/bytealg.IndexString"], named := ["unicode/utf8.first", "unicode/utf8.acceptRanges", "internal/bytealg.MaxLen"], apart := false, laid := [("unicode/utf8.acceptRanges", laid_unicode_utf8_acceptRanges), ("unicode/utf8.first", laid_unicode_utf8_first)], narrowed := true }
def FnExactGapsOfUptoSaid : Prop := fnExactGapsOfUptoRow.holds Tryd.pinned (OpenSpec.upto fnExactGapsOfSpec)

/-- 'laws.FnExactSoundParts', WHERE WHAT IT READS IS OF BULK AT MOST 1048576: true; the input reads as it did. -/
def fnExactSoundPartsUptoRow : OpenClaim := { program := "yteflfjbnddieeaadoor", sum := "f402e43c02d5f52a04a9e106f02b97cffbe991181c1237618c09266385e78a68", func := "loop.example/g01373/laws.FnExactSoundParts", spec := "fnExactSoundParts", inPlace := ["internal/bytealg.IndexByteString", "internal/bytealg.IndexString"], named := ["unicode/utf8.first", "unicode/utf8.acceptRanges", "internal/bytealg.MaxLen"], apart := false, laid := [("unicode/utf8.acceptRanges", laid_unicode_utf8_acceptRanges), ("unicode/utf8.first", laid_unicode_utf8_first)], narrowed := true }
def FnExactSoundPartsUptoSaid : Prop := fnExactSoundPartsUptoRow.holds Tryd.pinned (OpenSpec.upto fnExactSoundPartsSpec)

/-- 'laws.FnExactBreakBoard', WHERE WHAT IT READS IS OF BULK AT MOST 1048576: true; the input reads as it did. -/
def fnExactBreakBoardUptoRow : OpenClaim := { program := "yteflfjbnddieeaadoor", sum := "f402e43c02d5f52a04a9e106f02b97cffbe991181c1237618c09266385e78a68", func := "loop.example/g01373/laws.FnExactBreakBoard", spec := "fnExactBreakBoard", inPlace := ["internal/bytealg.IndexByteString", "internal/bytealg.IndexString", "internal/abi.NoEscape", "internal/bytealg.MakeNoZero"], named := ["unicode/utf8.first", "unicode/utf8.acceptRanges", "internal/bytealg.MaxLen"], apart := false, laid := [("unicode/utf8.acceptRanges", laid_unicode_utf8_acceptRanges), ("unicode/utf8.first", laid_unicode_utf8_first)], narrowed := true }
def FnExactBreakBoardUptoSaid : Prop := fnExactBreakBoardUptoRow.holds Tryd.pinned (OpenSpec.upto fnExactBreakBoardSpec)

/-- 'laws.FnExactMendBoards', WHERE WHAT IT READS IS OF BULK AT MOST 1048576: true; the input reads as it did. -/
def fnExactMendBoardsUptoRow : OpenClaim := { program := "yteflfjbnddieeaadoor", sum := "f402e43c02d5f52a04a9e106f02b97cffbe991181c1237618c09266385e78a68", func := "loop.example/g01373/laws.FnExactMendBoards", spec := "fnExactMendBoards", inPlace := ["internal/bytealg.IndexByteString", "internal/bytealg.IndexString", "internal/abi.NoEscape", "internal/bytealg.MakeNoZero"], named := ["unicode/utf8.first", "unicode/utf8.acceptRanges", "internal/bytealg.MaxLen"], apart := false, laid := [("unicode/utf8.acceptRanges", laid_unicode_utf8_acceptRanges), ("unicode/utf8.first", laid_unicode_utf8_first)], narrowed := true }
def FnExactMendBoardsUptoSaid : Prop := fnExactMendBoardsUptoRow.holds Tryd.pinned (OpenSpec.upto fnExactMendBoardsSpec)

end Rows
end Go.Proofs.YteflfjbnddieeaaDoor
