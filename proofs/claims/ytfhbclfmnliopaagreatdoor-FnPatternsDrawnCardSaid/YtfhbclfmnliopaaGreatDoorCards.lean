/-
  DERIVED. GIVEN WITH THE SEED: THE CARDS: each row of YtfhbclfmnliopaaGreatDoorRows.lean that lists a variable, with what it lists TIED to the program's text (the seventh form; the later family's looks); each row that meets fmt, with fmt's text TOLD by the authors' own Lean function (tested against real Go, not proved from fmt's source: count such statements apart). THE CARD IS WHAT COUNTS. Prove the row's statement (the work); the ties are given (YtfhbclfmnliopaaGreatDoorTie.lean); close each card by the builder's one call (the guide's Derived/Test/ToyasCard.lean, 'card_holds'). Laid BY PROGRAM, IN A SANDBOX (cutbox-door.mjs). By AI agents, Wed Nov 11 2026. No macro, syntax, notation, axiom, sorry.
-/
import Derived.Test.YtfhbclfmnliopaaGreatDoorRows
import GoSem.ClaimSeven
namespace Go.Proofs.YtfhbclfmnliopaaGreatDoor
namespace Rows

/-- THE TIED CARD OF 'laws.FnPatternsDrawn'. -/
def fnPatternsDrawnCard : Claim7 := { stood := { row := fnPatternsDrawnRow, standIns := [], harness := (true, "402daf22c454d8a406d214134ae56ebc478d85906364852c926bdad4a4c75164"), looks := false }, kinds := [], alts := [], laidByText := true, laidKinds := [.data, .pinned], laidTests := true, laidLooks := .later }
def FnPatternsDrawnCardSaid : Prop := Claim7.holds Tryz.pinned (.plain (OpenSpec.ofChange fnPatternsDrawnSpec)) fnPatternsDrawnCard

/-- THE SECOND FORM's CARD OF 'laws.FnPatternsDrawn'. -/
def fnPatternsDrawnUptoCard : Claim7 := { stood := { row := fnPatternsDrawnUptoRow, standIns := [], harness := (true, "402daf22c454d8a406d214134ae56ebc478d85906364852c926bdad4a4c75164"), looks := false }, kinds := [], alts := [], laidByText := true, laidKinds := [.data, .pinned], laidTests := true, laidLooks := .later }
def FnPatternsDrawnUptoCardSaid : Prop := Claim7.holds Tryz.pinned (.plain (OpenSpec.upto fnPatternsDrawnSpec)) fnPatternsDrawnUptoCard
end Rows
end Go.Proofs.YtfhbclfmnliopaaGreatDoor
