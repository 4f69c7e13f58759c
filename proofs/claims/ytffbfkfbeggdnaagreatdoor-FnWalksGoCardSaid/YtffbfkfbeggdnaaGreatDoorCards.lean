/-
  DERIVED. GIVEN WITH THE SEED: THE CARDS: each row of YtffbfkfbeggdnaaGreatDoorRows.lean that lists a variable, with what it lists TIED to the program's text (the seventh form; the later family's looks); each row that meets fmt, with fmt's text TOLD by the authors' own Lean function (tested against real Go, not proved from fmt's source: count such statements apart). THE CARD IS WHAT COUNTS. Prove the row's statement (the work); the ties are given (YtffbfkfbeggdnaaGreatDoorTie.lean); close each card by the builder's one call (the guide's Derived/Test/ToyasCard.lean, 'card_holds'). Laid BY PROGRAM, IN A SANDBOX (cutbox-door.mjs). By AI agents, Wed Nov 11 2026. No macro, syntax, notation, axiom, sorry.
-/
import Derived.Test.YtffbfkfbeggdnaaGreatDoorRows
import GoSem.ClaimSeven
namespace Go.Proofs.YtffbfkfbeggdnaaGreatDoor
namespace Rows

/-- THE TIED CARD OF 'laws.FnWalksGo'. -/
def fnWalksGoCard : Claim7 := { stood := { row := fnWalksGoRow, standIns := [], harness := (true, "491eeed4fe1ed52be9c5e73e4201b7c6fbccce755fa09d647bfd572b49dc7f8f"), looks := false }, kinds := [], alts := [], laidByText := true, laidKinds := [.data, .pinned], laidTests := true, laidLooks := .later }
def FnWalksGoCardSaid : Prop := Claim7.holds Tryz.pinned (.plain (OpenSpec.ofChange fnWalksGoSpec)) fnWalksGoCard

/-- THE SECOND FORM's CARD OF 'laws.FnWalksGo'. -/
def fnWalksGoUptoCard : Claim7 := { stood := { row := fnWalksGoUptoRow, standIns := [], harness := (true, "491eeed4fe1ed52be9c5e73e4201b7c6fbccce755fa09d647bfd572b49dc7f8f"), looks := false }, kinds := [], alts := [], laidByText := true, laidKinds := [.data, .pinned], laidTests := true, laidLooks := .later }
def FnWalksGoUptoCardSaid : Prop := Claim7.holds Tryz.pinned (.plain (OpenSpec.upto fnWalksGoSpec)) fnWalksGoUptoCard
end Rows
end Go.Proofs.YtffbfkfbeggdnaaGreatDoor
