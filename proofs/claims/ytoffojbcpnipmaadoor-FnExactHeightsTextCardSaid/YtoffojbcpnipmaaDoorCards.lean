/-
  DERIVED. GIVEN WITH THE SEED: THE CARDS: each row of YtoffojbcpnipmaaDoorRows.lean that lists a variable, with what it lists TIED to the program's text (the seventh form; the later family's looks); each row that meets fmt, with fmt's text TOLD by the authors' own Lean function (tested against real Go, not proved from fmt's source: count such statements apart). THE CARD IS WHAT COUNTS. Prove the row's statement (the work); the ties are given (YtoffojbcpnipmaaDoorTie.lean); close each card by the builder's one call (the guide's Derived/Test/ToyasCard.lean, 'card_holds'). Laid BY PROGRAM, IN A SANDBOX (cutbox-door.mjs). By AI agents, Wed Nov 11 2026. No macro, syntax, notation, axiom, sorry.
-/
import Derived.Test.YtoffojbcpnipmaaDoorRows
import GoSem.ClaimSeven
namespace Go.Proofs.YtoffojbcpnipmaaDoor
namespace Rows

/-- THE TIED CARD OF 'laws.FnExactParseHeights'. -/
def fnExactParseHeightsCard : Claim7 := { stood := { row := fnExactParseHeightsRow, standIns := [], harness := (true, "81bf4e70df9805308a34d0d32b4ff683e2a7ee00339b792264089e9033995e85"), looks := true }, kinds := [], alts := [], laidByText := true, laidKinds := [.data, .data, .data, .data, .sentinel, .sentinel, .pinned], laidTests := true, laidLooks := .later }
def FnExactParseHeightsCardSaid : Prop := Claim7.holds Tryd.pinned (.plain (OpenSpec.ofChange fnExactParseHeightsSpec)) fnExactParseHeightsCard

/-- THE TIED CARD OF 'laws.FnExactHeightsText'. -/
def fnExactHeightsTextCard : Claim7 := { stood := { row := fnExactHeightsTextRow, standIns := [], harness := (true, "81bf4e70df9805308a34d0d32b4ff683e2a7ee00339b792264089e9033995e85"), looks := true }, kinds := [], alts := [], laidByText := true, laidKinds := [.data, .data, .data], laidTests := true, laidLooks := .later }
def FnExactHeightsTextCardSaid : Prop := Claim7.holds Tryd.pinned (.plain (OpenSpec.ofChange fnExactHeightsTextSpec)) fnExactHeightsTextCard

/-- THE SECOND FORM's CARD OF 'laws.FnExactParseHeights'. -/
def fnExactParseHeightsUptoCard : Claim7 := { stood := { row := fnExactParseHeightsUptoRow, standIns := [], harness := (true, "81bf4e70df9805308a34d0d32b4ff683e2a7ee00339b792264089e9033995e85"), looks := true }, kinds := [], alts := [], laidByText := true, laidKinds := [.data, .data, .data, .data, .sentinel, .sentinel, .pinned], laidTests := true, laidLooks := .later }
def FnExactParseHeightsUptoCardSaid : Prop := Claim7.holds Tryd.pinned (.plain (OpenSpec.upto fnExactParseHeightsSpec)) fnExactParseHeightsUptoCard

/-- THE SECOND FORM's CARD OF 'laws.FnExactHeightsText'. -/
def fnExactHeightsTextUptoCard : Claim7 := { stood := { row := fnExactHeightsTextUptoRow, standIns := [], harness := (true, "81bf4e70df9805308a34d0d32b4ff683e2a7ee00339b792264089e9033995e85"), looks := true }, kinds := [], alts := [], laidByText := true, laidKinds := [.data, .data, .data], laidTests := true, laidLooks := .later }
def FnExactHeightsTextUptoCardSaid : Prop := Claim7.holds Tryd.pinned (.plain (OpenSpec.upto fnExactHeightsTextSpec)) fnExactHeightsTextUptoCard
end Rows
end Go.Proofs.YtoffojbcpnipmaaDoor
