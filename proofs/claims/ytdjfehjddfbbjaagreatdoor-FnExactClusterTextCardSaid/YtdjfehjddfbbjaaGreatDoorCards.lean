/-
  DERIVED. GIVEN WITH THE SEED: THE CARDS: each row of YtdjfehjddfbbjaaGreatDoorRows.lean that lists a variable, with what it lists TIED to the program's text (the seventh form; the later family's looks); each row that meets fmt, with fmt's text TOLD by the authors' own Lean function (tested against real Go, not proved from fmt's source: count such statements apart). THE CARD IS WHAT COUNTS. Prove the row's statement (the work); the ties are given (YtdjfehjddfbbjaaGreatDoorTie.lean); close each card by the builder's one call (the guide's Derived/Test/ToyasCard.lean, 'card_holds'). Laid BY PROGRAM, IN A SANDBOX (cutbox-door.mjs). By AI agents, Wed Nov 11 2026. No macro, syntax, notation, axiom, sorry.
-/
import Derived.Test.YtdjfehjddfbbjaaGreatDoorRows
import GoSem.ClaimSeven
namespace Go.Proofs.YtdjfehjddfbbjaaGreatDoor
namespace Rows

/-- THE TIED CARD OF 'laws.FnExactClusterText'. -/
def fnExactClusterTextCard : Claim7 := { stood := { row := fnExactClusterTextRow, standIns := [], harness := (true, "e6851ca430b05440b2dd7683870f7e0de86d32aefd641b87864d0032ec35442b"), looks := false }, kinds := [], alts := [], laidByText := true, laidKinds := [.data, .data, .data], laidTests := true, laidLooks := .later }
def FnExactClusterTextCardSaid : Prop := Claim7.holds Tryz.pinned (.plain (OpenSpec.ofChange fnExactClusterTextSpec)) fnExactClusterTextCard

/-- THE SECOND FORM's CARD OF 'laws.FnExactClusterText'. -/
def fnExactClusterTextUptoCard : Claim7 := { stood := { row := fnExactClusterTextUptoRow, standIns := [], harness := (true, "e6851ca430b05440b2dd7683870f7e0de86d32aefd641b87864d0032ec35442b"), looks := false }, kinds := [], alts := [], laidByText := true, laidKinds := [.data, .data, .data], laidTests := true, laidLooks := .later }
def FnExactClusterTextUptoCardSaid : Prop := Claim7.holds Tryz.pinned (.plain (OpenSpec.upto fnExactClusterTextSpec)) fnExactClusterTextUptoCard
end Rows
end Go.Proofs.YtdjfehjddfbbjaaGreatDoor
