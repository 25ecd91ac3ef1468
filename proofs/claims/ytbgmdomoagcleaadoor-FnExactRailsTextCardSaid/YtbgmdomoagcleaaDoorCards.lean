/-
  DERIVED. GIVEN WITH THE SEED: THE CARDS: each row of YtbgmdomoagcleaaDoorRows.lean that lists a variable, with what it lists TIED to the program's text (the seventh form; the later family's looks); each row that meets fmt, with fmt's text TOLD by the authors' own Lean function (tested against real Go, not proved from fmt's source: count such statements apart). THE CARD IS WHAT COUNTS. Prove the row's statement (the work); the ties are given (YtbgmdomoagcleaaDoorTie.lean); close each card by the builder's one call (the guide's Derived/Test/ToyasCard.lean, 'card_holds'). Laid BY PROGRAM, IN A SANDBOX (cutbox-door.mjs). By AI agents, Wed Nov 11 2026. No macro, syntax, notation, axiom, sorry.
-/
import Derived.Test.YtbgmdomoagcleaaDoorRows
import GoSem.ClaimSeven
namespace Go.Proofs.YtbgmdomoagcleaaDoor
namespace Rows

/-- THE TIED CARD OF 'laws.FnExactParseRails'. -/
def fnExactParseRailsCard : Claim7 := { stood := { row := fnExactParseRailsRow, standIns := [], harness := (true, "2002ea4ef310963c53fa7a7210c5bc6877bfa68b9383e9ad2427d023bd995dc5"), looks := true }, kinds := [], alts := [], laidByText := true, laidKinds := [.data, .data, .data, .data, .sentinel, .sentinel, .pinned], laidTests := true, laidLooks := .later }
def FnExactParseRailsCardSaid : Prop := Claim7.holds Tryd.pinned (.plain (OpenSpec.ofChange fnExactParseRailsSpec)) fnExactParseRailsCard

/-- THE TIED CARD OF 'laws.FnExactRailsText'. -/
def fnExactRailsTextCard : Claim7 := { stood := { row := fnExactRailsTextRow, standIns := [], harness := (true, "2002ea4ef310963c53fa7a7210c5bc6877bfa68b9383e9ad2427d023bd995dc5"), looks := true }, kinds := [], alts := [], laidByText := true, laidKinds := [.data, .data, .data], laidTests := true, laidLooks := .later }
def FnExactRailsTextCardSaid : Prop := Claim7.holds Tryd.pinned (.plain (OpenSpec.ofChange fnExactRailsTextSpec)) fnExactRailsTextCard

/-- THE SECOND FORM's CARD OF 'laws.FnExactParseRails'. -/
def fnExactParseRailsUptoCard : Claim7 := { stood := { row := fnExactParseRailsUptoRow, standIns := [], harness := (true, "2002ea4ef310963c53fa7a7210c5bc6877bfa68b9383e9ad2427d023bd995dc5"), looks := true }, kinds := [], alts := [], laidByText := true, laidKinds := [.data, .data, .data, .data, .sentinel, .sentinel, .pinned], laidTests := true, laidLooks := .later }
def FnExactParseRailsUptoCardSaid : Prop := Claim7.holds Tryd.pinned (.plain (OpenSpec.upto fnExactParseRailsSpec)) fnExactParseRailsUptoCard

/-- THE SECOND FORM's CARD OF 'laws.FnExactRailsText'. -/
def fnExactRailsTextUptoCard : Claim7 := { stood := { row := fnExactRailsTextUptoRow, standIns := [], harness := (true, "2002ea4ef310963c53fa7a7210c5bc6877bfa68b9383e9ad2427d023bd995dc5"), looks := true }, kinds := [], alts := [], laidByText := true, laidKinds := [.data, .data, .data], laidTests := true, laidLooks := .later }
def FnExactRailsTextUptoCardSaid : Prop := Claim7.holds Tryd.pinned (.plain (OpenSpec.upto fnExactRailsTextSpec)) fnExactRailsTextUptoCard
end Rows
end Go.Proofs.YtbgmdomoagcleaaDoor
