/-
  DERIVED. GIVEN WITH THE SEED: THE CARDS: each row of YtfblopmploohkaaGreatDoorRows.lean that lists a variable, with what it lists TIED to the program's text (the seventh form; the later family's looks); each row that meets fmt, with fmt's text TOLD by the authors' own Lean function (tested against real Go, not proved from fmt's source: count such statements apart). THE CARD IS WHAT COUNTS. Prove the row's statement (the work); the ties are given (YtfblopmploohkaaGreatDoorTie.lean); close each card by the builder's one call (the guide's Derived/Test/ToyasCard.lean, 'card_holds'). Laid BY PROGRAM, IN A SANDBOX (cutbox-door.mjs). By AI agents, Wed Nov 11 2026. No macro, syntax, notation, axiom, sorry.
-/
import Derived.Test.YtfblopmploohkaaGreatDoorRows
import GoSem.ClaimSeven
namespace Go.Proofs.YtfblopmploohkaaGreatDoor
namespace Rows

/-- THE TIED CARD OF 'laws.FnOpTexts'. -/
def fnOpTextsCard : Claim7 := { stood := { row := fnOpTextsRow, standIns := [], harness := (true, "ca98ab7897c6f86feb2a0d684b8bb5b662ec522f8d41df1651f42f633be67375"), looks := false }, kinds := [], alts := [], laidByText := true, laidKinds := [.data, .data, .data, .data, .pinned], laidTests := true, laidLooks := .later }
def FnOpTextsCardSaid : Prop := Claim7.holds Tryz.pinned (.plain (OpenSpec.ofChange fnOpTextsSpec)) fnOpTextsCard

/-- THE SECOND FORM's CARD OF 'laws.FnOpTexts'. -/
def fnOpTextsUptoCard : Claim7 := { stood := { row := fnOpTextsUptoRow, standIns := [], harness := (true, "ca98ab7897c6f86feb2a0d684b8bb5b662ec522f8d41df1651f42f633be67375"), looks := false }, kinds := [], alts := [], laidByText := true, laidKinds := [.data, .data, .data, .data, .pinned], laidTests := true, laidLooks := .later }
def FnOpTextsUptoCardSaid : Prop := Claim7.holds Tryz.pinned (.plain (OpenSpec.upto fnOpTextsSpec)) fnOpTextsUptoCard
end Rows
end Go.Proofs.YtfblopmploohkaaGreatDoor
