/-
  DERIVED. GIVEN WITH THE SEED: THE CARDS: each row of YteflfjbnddieeaaDoorRows.lean that lists a variable, with what it lists TIED to the program's text (the seventh form; the later family's looks); each row that meets fmt, with fmt's text TOLD by the authors' own Lean function (tested against real Go, not proved from fmt's source: count such statements apart). THE CARD IS WHAT COUNTS. Prove the row's statement (the work); the ties are given (YteflfjbnddieeaaDoorTie.lean); close each card by the builder's one call (the guide's Derived/Test/ToyasCard.lean, 'card_holds'). Laid BY PROGRAM, IN A SANDBOX (cutbox-door.mjs). By AI agents, Wed Nov 11 2026. No macro, syntax, notation, axiom, sorry.
-/
import Derived.Test.YteflfjbnddieeaaDoorRows
import GoSem.ClaimSeven
namespace Go.Proofs.YteflfjbnddieeaaDoor
namespace Rows

/-- THE TIED CARD OF 'laws.FnExactIsYard'. -/
def fnExactIsYardCard : Claim7 := { stood := { row := fnExactIsYardRow, standIns := [], harness := (true, "028a7df720b1c07bae74489f1fd29495680de7ee9ddad812433b638b79758631"), looks := false }, kinds := [], alts := [], laidByText := true, laidKinds := [.data, .pinned], laidTests := true, laidLooks := .later }
def FnExactIsYardCardSaid : Prop := Claim7.holds Tryd.pinned (.plain (OpenSpec.ofChange fnExactIsYardSpec)) fnExactIsYardCard

/-- THE TIED CARD OF 'laws.FnExactMirrorYard'. -/
def fnExactMirrorYardCard : Claim7 := { stood := { row := fnExactMirrorYardRow, standIns := [], harness := (true, "028a7df720b1c07bae74489f1fd29495680de7ee9ddad812433b638b79758631"), looks := false }, kinds := [], alts := [], laidByText := true, laidKinds := [.data, .pinned], laidTests := true, laidLooks := .later }
def FnExactMirrorYardCardSaid : Prop := Claim7.holds Tryd.pinned (.plain (OpenSpec.ofChange fnExactMirrorYardSpec)) fnExactMirrorYardCard

/-- THE TIED CARD OF 'laws.FnExactFewestOfLength'. -/
def fnExactFewestOfLengthCard : Claim7 := { stood := { row := fnExactFewestOfLengthRow, standIns := [], harness := (true, "028a7df720b1c07bae74489f1fd29495680de7ee9ddad812433b638b79758631"), looks := false }, kinds := [], alts := [], laidByText := true, laidKinds := [.data, .pinned], laidTests := true, laidLooks := .later }
def FnExactFewestOfLengthCardSaid : Prop := Claim7.holds Tryd.pinned (.plain (OpenSpec.ofChange fnExactFewestOfLengthSpec)) fnExactFewestOfLengthCard

/-- THE TIED CARD OF 'laws.FnExactLongestSound'. -/
def fnExactLongestSoundCard : Claim7 := { stood := { row := fnExactLongestSoundRow, standIns := [], harness := (true, "028a7df720b1c07bae74489f1fd29495680de7ee9ddad812433b638b79758631"), looks := false }, kinds := [], alts := [], laidByText := true, laidKinds := [.data, .pinned], laidTests := true, laidLooks := .later }
def FnExactLongestSoundCardSaid : Prop := Claim7.holds Tryd.pinned (.plain (OpenSpec.ofChange fnExactLongestSoundSpec)) fnExactLongestSoundCard

/-- THE TIED CARD OF 'laws.FnExactBrokenOf'. -/
def fnExactBrokenOfCard : Claim7 := { stood := { row := fnExactBrokenOfRow, standIns := [], harness := (true, "028a7df720b1c07bae74489f1fd29495680de7ee9ddad812433b638b79758631"), looks := false }, kinds := [], alts := [], laidByText := true, laidKinds := [.data, .pinned], laidTests := true, laidLooks := .later }
def FnExactBrokenOfCardSaid : Prop := Claim7.holds Tryd.pinned (.plain (OpenSpec.ofChange fnExactBrokenOfSpec)) fnExactBrokenOfCard

/-- THE TIED CARD OF 'laws.FnExactStartsOfLength'. -/
def fnExactStartsOfLengthCard : Claim7 := { stood := { row := fnExactStartsOfLengthRow, standIns := [], harness := (true, "028a7df720b1c07bae74489f1fd29495680de7ee9ddad812433b638b79758631"), looks := false }, kinds := [], alts := [], laidByText := true, laidKinds := [.data, .pinned], laidTests := true, laidLooks := .later }
def FnExactStartsOfLengthCardSaid : Prop := Claim7.holds Tryd.pinned (.plain (OpenSpec.ofChange fnExactStartsOfLengthSpec)) fnExactStartsOfLengthCard

/-- THE TIED CARD OF 'laws.FnExactGapsOf'. -/
def fnExactGapsOfCard : Claim7 := { stood := { row := fnExactGapsOfRow, standIns := [], harness := (true, "028a7df720b1c07bae74489f1fd29495680de7ee9ddad812433b638b79758631"), looks := false }, kinds := [], alts := [], laidByText := true, laidKinds := [.data, .pinned], laidTests := true, laidLooks := .later }
def FnExactGapsOfCardSaid : Prop := Claim7.holds Tryd.pinned (.plain (OpenSpec.ofChange fnExactGapsOfSpec)) fnExactGapsOfCard

/-- THE TIED CARD OF 'laws.FnExactSoundParts'. -/
def fnExactSoundPartsCard : Claim7 := { stood := { row := fnExactSoundPartsRow, standIns := [], harness := (true, "028a7df720b1c07bae74489f1fd29495680de7ee9ddad812433b638b79758631"), looks := false }, kinds := [], alts := [], laidByText := true, laidKinds := [.data, .pinned], laidTests := true, laidLooks := .later }
def FnExactSoundPartsCardSaid : Prop := Claim7.holds Tryd.pinned (.plain (OpenSpec.ofChange fnExactSoundPartsSpec)) fnExactSoundPartsCard

/-- THE TIED CARD OF 'laws.FnExactBreakBoard'. -/
def fnExactBreakBoardCard : Claim7 := { stood := { row := fnExactBreakBoardRow, standIns := [], harness := (true, "028a7df720b1c07bae74489f1fd29495680de7ee9ddad812433b638b79758631"), looks := false }, kinds := [], alts := [], laidByText := true, laidKinds := [.data, .pinned], laidTests := true, laidLooks := .later }
def FnExactBreakBoardCardSaid : Prop := Claim7.holds Tryd.pinned (.plain (OpenSpec.ofChange fnExactBreakBoardSpec)) fnExactBreakBoardCard

/-- THE TIED CARD OF 'laws.FnExactMendBoards'. -/
def fnExactMendBoardsCard : Claim7 := { stood := { row := fnExactMendBoardsRow, standIns := [], harness := (true, "028a7df720b1c07bae74489f1fd29495680de7ee9ddad812433b638b79758631"), looks := false }, kinds := [], alts := [], laidByText := true, laidKinds := [.data, .pinned], laidTests := true, laidLooks := .later }
def FnExactMendBoardsCardSaid : Prop := Claim7.holds Tryd.pinned (.plain (OpenSpec.ofChange fnExactMendBoardsSpec)) fnExactMendBoardsCard

/-- THE SECOND FORM's CARD OF 'laws.FnExactIsYard'. -/
def fnExactIsYardUptoCard : Claim7 := { stood := { row := fnExactIsYardUptoRow, standIns := [], harness := (true, "028a7df720b1c07bae74489f1fd29495680de7ee9ddad812433b638b79758631"), looks := false }, kinds := [], alts := [], laidByText := true, laidKinds := [.data, .pinned], laidTests := true, laidLooks := .later }
def FnExactIsYardUptoCardSaid : Prop := Claim7.holds Tryd.pinned (.plain (OpenSpec.upto fnExactIsYardSpec)) fnExactIsYardUptoCard

/-- THE SECOND FORM's CARD OF 'laws.FnExactMirrorYard'. -/
def fnExactMirrorYardUptoCard : Claim7 := { stood := { row := fnExactMirrorYardUptoRow, standIns := [], harness := (true, "028a7df720b1c07bae74489f1fd29495680de7ee9ddad812433b638b79758631"), looks := false }, kinds := [], alts := [], laidByText := true, laidKinds := [.data, .pinned], laidTests := true, laidLooks := .later }
def FnExactMirrorYardUptoCardSaid : Prop := Claim7.holds Tryd.pinned (.plain (OpenSpec.upto fnExactMirrorYardSpec)) fnExactMirrorYardUptoCard

/-- THE SECOND FORM's CARD OF 'laws.FnExactFewestOfLength'. -/
def fnExactFewestOfLengthUptoCard : Claim7 := { stood := { row := fnExactFewestOfLengthUptoRow, standIns := [], harness := (true, "028a7df720b1c07bae74489f1fd29495680de7ee9ddad812433b638b79758631"), looks := false }, kinds := [], alts := [], laidByText := true, laidKinds := [.data, .pinned], laidTests := true, laidLooks := .later }
def FnExactFewestOfLengthUptoCardSaid : Prop := Claim7.holds Tryd.pinned (.plain (OpenSpec.upto fnExactFewestOfLengthSpec)) fnExactFewestOfLengthUptoCard

/-- THE SECOND FORM's CARD OF 'laws.FnExactLongestSound'. -/
def fnExactLongestSoundUptoCard : Claim7 := { stood := { row := fnExactLongestSoundUptoRow, standIns := [], harness := (true, "028a7df720b1c07bae74489f1fd29495680de7ee9ddad812433b638b79758631"), looks := false }, kinds := [], alts := [], laidByText := true, laidKinds := [.data, .pinned], laidTests := true, laidLooks := .later }
def FnExactLongestSoundUptoCardSaid : Prop := Claim7.holds Tryd.pinned (.plain (OpenSpec.upto fnExactLongestSoundSpec)) fnExactLongestSoundUptoCard

/-- THE SECOND FORM's CARD OF 'laws.FnExactBrokenOf'. -/
def fnExactBrokenOfUptoCard : Claim7 := { stood := { row := fnExactBrokenOfUptoRow, standIns := [], harness := (true, "028a7df720b1c07bae74489f1fd29495680de7ee9ddad812433b638b79758631"), looks := false }, kinds := [], alts := [], laidByText := true, laidKinds := [.data, .pinned], laidTests := true, laidLooks := .later }
def FnExactBrokenOfUptoCardSaid : Prop := Claim7.holds Tryd.pinned (.plain (OpenSpec.upto fnExactBrokenOfSpec)) fnExactBrokenOfUptoCard

/-- THE SECOND FORM's CARD OF 'laws.FnExactStartsOfLength'. -/
def fnExactStartsOfLengthUptoCard : Claim7 := { stood := { row := fnExactStartsOfLengthUptoRow, standIns := [], harness := (true, "028a7df720b1c07bae74489f1fd29495680de7ee9ddad812433b638b79758631"), looks := false }, kinds := [], alts := [], laidByText := true, laidKinds := [.data, .pinned], laidTests := true, laidLooks := .later }
def FnExactStartsOfLengthUptoCardSaid : Prop := Claim7.holds Tryd.pinned (.plain (OpenSpec.upto fnExactStartsOfLengthSpec)) fnExactStartsOfLengthUptoCard

/-- THE SECOND FORM's CARD OF 'laws.FnExactGapsOf'. -/
def fnExactGapsOfUptoCard : Claim7 := { stood := { row := fnExactGapsOfUptoRow, standIns := [], harness := (true, "028a7df720b1c07bae74489f1fd29495680de7ee9ddad812433b638b79758631"), looks := false }, kinds := [], alts := [], laidByText := true, laidKinds := [.data, .pinned], laidTests := true, laidLooks := .later }
def FnExactGapsOfUptoCardSaid : Prop := Claim7.holds Tryd.pinned (.plain (OpenSpec.upto fnExactGapsOfSpec)) fnExactGapsOfUptoCard

/-- THE SECOND FORM's CARD OF 'laws.FnExactSoundParts'. -/
def fnExactSoundPartsUptoCard : Claim7 := { stood := { row := fnExactSoundPartsUptoRow, standIns := [], harness := (true, "028a7df720b1c07bae74489f1fd29495680de7ee9ddad812433b638b79758631"), looks := false }, kinds := [], alts := [], laidByText := true, laidKinds := [.data, .pinned], laidTests := true, laidLooks := .later }
def FnExactSoundPartsUptoCardSaid : Prop := Claim7.holds Tryd.pinned (.plain (OpenSpec.upto fnExactSoundPartsSpec)) fnExactSoundPartsUptoCard

/-- THE SECOND FORM's CARD OF 'laws.FnExactBreakBoard'. -/
def fnExactBreakBoardUptoCard : Claim7 := { stood := { row := fnExactBreakBoardUptoRow, standIns := [], harness := (true, "028a7df720b1c07bae74489f1fd29495680de7ee9ddad812433b638b79758631"), looks := false }, kinds := [], alts := [], laidByText := true, laidKinds := [.data, .pinned], laidTests := true, laidLooks := .later }
def FnExactBreakBoardUptoCardSaid : Prop := Claim7.holds Tryd.pinned (.plain (OpenSpec.upto fnExactBreakBoardSpec)) fnExactBreakBoardUptoCard

/-- THE SECOND FORM's CARD OF 'laws.FnExactMendBoards'. -/
def fnExactMendBoardsUptoCard : Claim7 := { stood := { row := fnExactMendBoardsUptoRow, standIns := [], harness := (true, "028a7df720b1c07bae74489f1fd29495680de7ee9ddad812433b638b79758631"), looks := false }, kinds := [], alts := [], laidByText := true, laidKinds := [.data, .pinned], laidTests := true, laidLooks := .later }
def FnExactMendBoardsUptoCardSaid : Prop := Claim7.holds Tryd.pinned (.plain (OpenSpec.upto fnExactMendBoardsSpec)) fnExactMendBoardsUptoCard
end Rows
end Go.Proofs.YteflfjbnddieeaaDoor
