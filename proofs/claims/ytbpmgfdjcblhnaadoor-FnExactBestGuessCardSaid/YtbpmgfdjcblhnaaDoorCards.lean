/-
  DERIVED. GIVEN WITH THE SEED: THE CARDS: each row of YtbpmgfdjcblhnaaDoorRows.lean that lists a variable, with what it lists TIED to the program's text (the seventh form; the later family's looks); each row that meets fmt, with fmt's text TOLD by the authors' own Lean function (tested against real Go, not proved from fmt's source: count such statements apart). THE CARD IS WHAT COUNTS. Prove the row's statement (the work); the ties are given (YtbpmgfdjcblhnaaDoorTie.lean); close each card by the builder's one call (the guide's Derived/Test/ToyasCard.lean, 'card_holds'). Laid BY PROGRAM, IN A SANDBOX (cutbox-door.mjs). By AI agents, Wed Nov 11 2026. No macro, syntax, notation, axiom, sorry.
-/
import Derived.Test.YtbpmgfdjcblhnaaDoorRows
import GoSem.ClaimSeven
namespace Go.Proofs.YtbpmgfdjcblhnaaDoor
namespace Rows

/-- THE TIED CARD OF 'laws.FnExactPinsLeft'. -/
def fnExactPinsLeftCard : Claim7 := { stood := { row := fnExactPinsLeftRow, standIns := [], harness := (true, "19b8eea53550b246e59ea1413b1f8b315f28dd9b6c371207d0244ce6d20b1946"), looks := false }, kinds := [], alts := [], laidByText := true, laidKinds := [.data, .pinned], laidTests := true, laidLooks := .later }
def FnExactPinsLeftCardSaid : Prop := Claim7.holds Tryd.pinned (.plain (OpenSpec.ofChange fnExactPinsLeftSpec)) fnExactPinsLeftCard

/-- THE TIED CARD OF 'laws.FnExactWorstLeft'. -/
def fnExactWorstLeftCard : Claim7 := { stood := { row := fnExactWorstLeftRow, standIns := [], harness := (true, "19b8eea53550b246e59ea1413b1f8b315f28dd9b6c371207d0244ce6d20b1946"), looks := false }, kinds := [], alts := [], laidByText := true, laidKinds := [.data, .pinned], laidTests := true, laidLooks := .later }
def FnExactWorstLeftCardSaid : Prop := Claim7.holds Tryd.pinned (.plain (OpenSpec.ofChange fnExactWorstLeftSpec)) fnExactWorstLeftCard

/-- THE TIED CARD OF 'laws.FnExactBestGuess'. -/
def fnExactBestGuessCard : Claim7 := { stood := { row := fnExactBestGuessRow, standIns := [], harness := (true, "19b8eea53550b246e59ea1413b1f8b315f28dd9b6c371207d0244ce6d20b1946"), looks := false }, kinds := [], alts := [], laidByText := true, laidKinds := [.data, .pinned], laidTests := true, laidLooks := .later }
def FnExactBestGuessCardSaid : Prop := Claim7.holds Tryd.pinned (.plain (OpenSpec.ofChange fnExactBestGuessSpec)) fnExactBestGuessCard

/-- THE SECOND FORM's CARD OF 'laws.FnExactPinsLeft'. -/
def fnExactPinsLeftUptoCard : Claim7 := { stood := { row := fnExactPinsLeftUptoRow, standIns := [], harness := (true, "19b8eea53550b246e59ea1413b1f8b315f28dd9b6c371207d0244ce6d20b1946"), looks := false }, kinds := [], alts := [], laidByText := true, laidKinds := [.data, .pinned], laidTests := true, laidLooks := .later }
def FnExactPinsLeftUptoCardSaid : Prop := Claim7.holds Tryd.pinned (.plain (OpenSpec.upto fnExactPinsLeftSpec)) fnExactPinsLeftUptoCard

/-- THE SECOND FORM's CARD OF 'laws.FnExactWorstLeft'. -/
def fnExactWorstLeftUptoCard : Claim7 := { stood := { row := fnExactWorstLeftUptoRow, standIns := [], harness := (true, "19b8eea53550b246e59ea1413b1f8b315f28dd9b6c371207d0244ce6d20b1946"), looks := false }, kinds := [], alts := [], laidByText := true, laidKinds := [.data, .pinned], laidTests := true, laidLooks := .later }
def FnExactWorstLeftUptoCardSaid : Prop := Claim7.holds Tryd.pinned (.plain (OpenSpec.upto fnExactWorstLeftSpec)) fnExactWorstLeftUptoCard

/-- THE SECOND FORM's CARD OF 'laws.FnExactBestGuess'. -/
def fnExactBestGuessUptoCard : Claim7 := { stood := { row := fnExactBestGuessUptoRow, standIns := [], harness := (true, "19b8eea53550b246e59ea1413b1f8b315f28dd9b6c371207d0244ce6d20b1946"), looks := false }, kinds := [], alts := [], laidByText := true, laidKinds := [.data, .pinned], laidTests := true, laidLooks := .later }
def FnExactBestGuessUptoCardSaid : Prop := Claim7.holds Tryd.pinned (.plain (OpenSpec.upto fnExactBestGuessSpec)) fnExactBestGuessUptoCard
end Rows
end Go.Proofs.YtbpmgfdjcblhnaaDoor
