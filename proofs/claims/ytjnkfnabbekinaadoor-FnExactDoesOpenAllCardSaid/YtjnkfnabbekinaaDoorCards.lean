/-
  DERIVED. GIVEN WITH THE SEED: THE CARDS: each row of YtjnkfnabbekinaaDoorRows.lean that lists a variable, with what it lists TIED to the program's text (the seventh form; the later family's looks); each row that meets fmt, with fmt's text TOLD by the authors' own Lean function (tested against real Go, not proved from fmt's source: count such statements apart). THE CARD IS WHAT COUNTS. Prove the row's statement (the work); the ties are given (YtjnkfnabbekinaaDoorTie.lean); close each card by the builder's one call (the guide's Derived/Test/ToyasCard.lean, 'card_holds'). Laid BY PROGRAM, IN A SANDBOX (cutbox-door.mjs). By AI agents, Wed Nov 11 2026. No macro, syntax, notation, axiom, sorry.
-/
import Derived.Test.YtjnkfnabbekinaaDoorRows
import GoSem.ClaimSeven
namespace Go.Proofs.YtjnkfnabbekinaaDoor
namespace Rows

/-- THE TIED CARD OF 'laws.FnExactIsPin'. -/
def fnExactIsPinCard : Claim7 := { stood := { row := fnExactIsPinRow, standIns := [], harness := (true, "bbb317806ece47bd1f409602de2f7cd200ed85fc911e9c2255e6388d2bf5fb3c"), looks := false }, kinds := [], alts := [], laidByText := true, laidKinds := [.data, .pinned], laidTests := true, laidLooks := .later }
def FnExactIsPinCardSaid : Prop := Claim7.holds Tryd.pinned (.plain (OpenSpec.ofChange fnExactIsPinSpec)) fnExactIsPinCard

/-- THE TIED CARD OF 'laws.FnExactTurnWheel'. -/
def fnExactTurnWheelCard : Claim7 := { stood := { row := fnExactTurnWheelRow, standIns := [], harness := (true, "bbb317806ece47bd1f409602de2f7cd200ed85fc911e9c2255e6388d2bf5fb3c"), looks := false }, kinds := [], alts := [], laidByText := true, laidKinds := [.data, .pinned], laidTests := true, laidLooks := .later }
def FnExactTurnWheelCardSaid : Prop := Claim7.holds Tryd.pinned (.plain (OpenSpec.ofChange fnExactTurnWheelSpec)) fnExactTurnWheelCard

/-- THE TIED CARD OF 'laws.FnExactWheelTurns'. -/
def fnExactWheelTurnsCard : Claim7 := { stood := { row := fnExactWheelTurnsRow, standIns := [], harness := (true, "bbb317806ece47bd1f409602de2f7cd200ed85fc911e9c2255e6388d2bf5fb3c"), looks := false }, kinds := [], alts := [], laidByText := true, laidKinds := [.data, .pinned], laidTests := true, laidLooks := .later }
def FnExactWheelTurnsCardSaid : Prop := Claim7.holds Tryd.pinned (.plain (OpenSpec.ofChange fnExactWheelTurnsSpec)) fnExactWheelTurnsCard

/-- THE TIED CARD OF 'laws.FnExactOpensAt'. -/
def fnExactOpensAtCard : Claim7 := { stood := { row := fnExactOpensAtRow, standIns := [], harness := (true, "bbb317806ece47bd1f409602de2f7cd200ed85fc911e9c2255e6388d2bf5fb3c"), looks := false }, kinds := [], alts := [], laidByText := true, laidKinds := [.data, .pinned], laidTests := true, laidLooks := .later }
def FnExactOpensAtCardSaid : Prop := Claim7.holds Tryd.pinned (.plain (OpenSpec.ofChange fnExactOpensAtSpec)) fnExactOpensAtCard

/-- THE TIED CARD OF 'laws.FnExactHitsOf'. -/
def fnExactHitsOfCard : Claim7 := { stood := { row := fnExactHitsOfRow, standIns := [], harness := (true, "bbb317806ece47bd1f409602de2f7cd200ed85fc911e9c2255e6388d2bf5fb3c"), looks := false }, kinds := [], alts := [], laidByText := true, laidKinds := [.data, .pinned], laidTests := true, laidLooks := .later }
def FnExactHitsOfCardSaid : Prop := Claim7.holds Tryd.pinned (.plain (OpenSpec.ofChange fnExactHitsOfSpec)) fnExactHitsOfCard

/-- THE TIED CARD OF 'laws.FnExactAreGuesses'. -/
def fnExactAreGuessesCard : Claim7 := { stood := { row := fnExactAreGuessesRow, standIns := [], harness := (true, "bbb317806ece47bd1f409602de2f7cd200ed85fc911e9c2255e6388d2bf5fb3c"), looks := false }, kinds := [], alts := [], laidByText := true, laidKinds := [.data, .pinned], laidTests := true, laidLooks := .later }
def FnExactAreGuessesCardSaid : Prop := Claim7.holds Tryd.pinned (.plain (OpenSpec.ofChange fnExactAreGuessesSpec)) fnExactAreGuessesCard

/-- THE TIED CARD OF 'laws.FnExactCountPinsLeft'. -/
def fnExactCountPinsLeftCard : Claim7 := { stood := { row := fnExactCountPinsLeftRow, standIns := [], harness := (true, "bbb317806ece47bd1f409602de2f7cd200ed85fc911e9c2255e6388d2bf5fb3c"), looks := false }, kinds := [], alts := [], laidByText := true, laidKinds := [.data, .pinned], laidTests := true, laidLooks := .later }
def FnExactCountPinsLeftCardSaid : Prop := Claim7.holds Tryd.pinned (.plain (OpenSpec.ofChange fnExactCountPinsLeftSpec)) fnExactCountPinsLeftCard

/-- THE TIED CARD OF 'laws.FnExactPinsLeft'. -/
def fnExactPinsLeftCard : Claim7 := { stood := { row := fnExactPinsLeftRow, standIns := [], harness := (true, "bbb317806ece47bd1f409602de2f7cd200ed85fc911e9c2255e6388d2bf5fb3c"), looks := false }, kinds := [], alts := [], laidByText := true, laidKinds := [.data, .pinned], laidTests := true, laidLooks := .later }
def FnExactPinsLeftCardSaid : Prop := Claim7.holds Tryd.pinned (.plain (OpenSpec.ofChange fnExactPinsLeftSpec)) fnExactPinsLeftCard

/-- THE TIED CARD OF 'laws.FnExactWorstLeft'. -/
def fnExactWorstLeftCard : Claim7 := { stood := { row := fnExactWorstLeftRow, standIns := [], harness := (true, "bbb317806ece47bd1f409602de2f7cd200ed85fc911e9c2255e6388d2bf5fb3c"), looks := false }, kinds := [], alts := [], laidByText := true, laidKinds := [.data, .pinned], laidTests := true, laidLooks := .later }
def FnExactWorstLeftCardSaid : Prop := Claim7.holds Tryd.pinned (.plain (OpenSpec.ofChange fnExactWorstLeftSpec)) fnExactWorstLeftCard

/-- THE TIED CARD OF 'laws.FnExactBestGuess'. -/
def fnExactBestGuessCard : Claim7 := { stood := { row := fnExactBestGuessRow, standIns := [], harness := (true, "bbb317806ece47bd1f409602de2f7cd200ed85fc911e9c2255e6388d2bf5fb3c"), looks := false }, kinds := [], alts := [], laidByText := true, laidKinds := [.data, .pinned], laidTests := true, laidLooks := .later }
def FnExactBestGuessCardSaid : Prop := Claim7.holds Tryd.pinned (.plain (OpenSpec.ofChange fnExactBestGuessSpec)) fnExactBestGuessCard

/-- THE TIED CARD OF 'laws.FnExactDoesOpenAll'. -/
def fnExactDoesOpenAllCard : Claim7 := { stood := { row := fnExactDoesOpenAllRow, standIns := [], harness := (true, "bbb317806ece47bd1f409602de2f7cd200ed85fc911e9c2255e6388d2bf5fb3c"), looks := false }, kinds := [], alts := [], laidByText := true, laidKinds := [.data, .pinned], laidTests := true, laidLooks := .later }
def FnExactDoesOpenAllCardSaid : Prop := Claim7.holds Tryd.pinned (.plain (OpenSpec.ofChange fnExactDoesOpenAllSpec)) fnExactDoesOpenAllCard

/-- THE SECOND FORM's CARD OF 'laws.FnExactIsPin'. -/
def fnExactIsPinUptoCard : Claim7 := { stood := { row := fnExactIsPinUptoRow, standIns := [], harness := (true, "bbb317806ece47bd1f409602de2f7cd200ed85fc911e9c2255e6388d2bf5fb3c"), looks := false }, kinds := [], alts := [], laidByText := true, laidKinds := [.data, .pinned], laidTests := true, laidLooks := .later }
def FnExactIsPinUptoCardSaid : Prop := Claim7.holds Tryd.pinned (.plain (OpenSpec.upto fnExactIsPinSpec)) fnExactIsPinUptoCard

/-- THE SECOND FORM's CARD OF 'laws.FnExactTurnWheel'. -/
def fnExactTurnWheelUptoCard : Claim7 := { stood := { row := fnExactTurnWheelUptoRow, standIns := [], harness := (true, "bbb317806ece47bd1f409602de2f7cd200ed85fc911e9c2255e6388d2bf5fb3c"), looks := false }, kinds := [], alts := [], laidByText := true, laidKinds := [.data, .pinned], laidTests := true, laidLooks := .later }
def FnExactTurnWheelUptoCardSaid : Prop := Claim7.holds Tryd.pinned (.plain (OpenSpec.upto fnExactTurnWheelSpec)) fnExactTurnWheelUptoCard

/-- THE SECOND FORM's CARD OF 'laws.FnExactWheelTurns'. -/
def fnExactWheelTurnsUptoCard : Claim7 := { stood := { row := fnExactWheelTurnsUptoRow, standIns := [], harness := (true, "bbb317806ece47bd1f409602de2f7cd200ed85fc911e9c2255e6388d2bf5fb3c"), looks := false }, kinds := [], alts := [], laidByText := true, laidKinds := [.data, .pinned], laidTests := true, laidLooks := .later }
def FnExactWheelTurnsUptoCardSaid : Prop := Claim7.holds Tryd.pinned (.plain (OpenSpec.upto fnExactWheelTurnsSpec)) fnExactWheelTurnsUptoCard

/-- THE SECOND FORM's CARD OF 'laws.FnExactOpensAt'. -/
def fnExactOpensAtUptoCard : Claim7 := { stood := { row := fnExactOpensAtUptoRow, standIns := [], harness := (true, "bbb317806ece47bd1f409602de2f7cd200ed85fc911e9c2255e6388d2bf5fb3c"), looks := false }, kinds := [], alts := [], laidByText := true, laidKinds := [.data, .pinned], laidTests := true, laidLooks := .later }
def FnExactOpensAtUptoCardSaid : Prop := Claim7.holds Tryd.pinned (.plain (OpenSpec.upto fnExactOpensAtSpec)) fnExactOpensAtUptoCard

/-- THE SECOND FORM's CARD OF 'laws.FnExactHitsOf'. -/
def fnExactHitsOfUptoCard : Claim7 := { stood := { row := fnExactHitsOfUptoRow, standIns := [], harness := (true, "bbb317806ece47bd1f409602de2f7cd200ed85fc911e9c2255e6388d2bf5fb3c"), looks := false }, kinds := [], alts := [], laidByText := true, laidKinds := [.data, .pinned], laidTests := true, laidLooks := .later }
def FnExactHitsOfUptoCardSaid : Prop := Claim7.holds Tryd.pinned (.plain (OpenSpec.upto fnExactHitsOfSpec)) fnExactHitsOfUptoCard

/-- THE SECOND FORM's CARD OF 'laws.FnExactAreGuesses'. -/
def fnExactAreGuessesUptoCard : Claim7 := { stood := { row := fnExactAreGuessesUptoRow, standIns := [], harness := (true, "bbb317806ece47bd1f409602de2f7cd200ed85fc911e9c2255e6388d2bf5fb3c"), looks := false }, kinds := [], alts := [], laidByText := true, laidKinds := [.data, .pinned], laidTests := true, laidLooks := .later }
def FnExactAreGuessesUptoCardSaid : Prop := Claim7.holds Tryd.pinned (.plain (OpenSpec.upto fnExactAreGuessesSpec)) fnExactAreGuessesUptoCard

/-- THE SECOND FORM's CARD OF 'laws.FnExactCountPinsLeft'. -/
def fnExactCountPinsLeftUptoCard : Claim7 := { stood := { row := fnExactCountPinsLeftUptoRow, standIns := [], harness := (true, "bbb317806ece47bd1f409602de2f7cd200ed85fc911e9c2255e6388d2bf5fb3c"), looks := false }, kinds := [], alts := [], laidByText := true, laidKinds := [.data, .pinned], laidTests := true, laidLooks := .later }
def FnExactCountPinsLeftUptoCardSaid : Prop := Claim7.holds Tryd.pinned (.plain (OpenSpec.upto fnExactCountPinsLeftSpec)) fnExactCountPinsLeftUptoCard

/-- THE SECOND FORM's CARD OF 'laws.FnExactPinsLeft'. -/
def fnExactPinsLeftUptoCard : Claim7 := { stood := { row := fnExactPinsLeftUptoRow, standIns := [], harness := (true, "bbb317806ece47bd1f409602de2f7cd200ed85fc911e9c2255e6388d2bf5fb3c"), looks := false }, kinds := [], alts := [], laidByText := true, laidKinds := [.data, .pinned], laidTests := true, laidLooks := .later }
def FnExactPinsLeftUptoCardSaid : Prop := Claim7.holds Tryd.pinned (.plain (OpenSpec.upto fnExactPinsLeftSpec)) fnExactPinsLeftUptoCard

/-- THE SECOND FORM's CARD OF 'laws.FnExactWorstLeft'. -/
def fnExactWorstLeftUptoCard : Claim7 := { stood := { row := fnExactWorstLeftUptoRow, standIns := [], harness := (true, "bbb317806ece47bd1f409602de2f7cd200ed85fc911e9c2255e6388d2bf5fb3c"), looks := false }, kinds := [], alts := [], laidByText := true, laidKinds := [.data, .pinned], laidTests := true, laidLooks := .later }
def FnExactWorstLeftUptoCardSaid : Prop := Claim7.holds Tryd.pinned (.plain (OpenSpec.upto fnExactWorstLeftSpec)) fnExactWorstLeftUptoCard

/-- THE SECOND FORM's CARD OF 'laws.FnExactBestGuess'. -/
def fnExactBestGuessUptoCard : Claim7 := { stood := { row := fnExactBestGuessUptoRow, standIns := [], harness := (true, "bbb317806ece47bd1f409602de2f7cd200ed85fc911e9c2255e6388d2bf5fb3c"), looks := false }, kinds := [], alts := [], laidByText := true, laidKinds := [.data, .pinned], laidTests := true, laidLooks := .later }
def FnExactBestGuessUptoCardSaid : Prop := Claim7.holds Tryd.pinned (.plain (OpenSpec.upto fnExactBestGuessSpec)) fnExactBestGuessUptoCard

/-- THE SECOND FORM's CARD OF 'laws.FnExactDoesOpenAll'. -/
def fnExactDoesOpenAllUptoCard : Claim7 := { stood := { row := fnExactDoesOpenAllUptoRow, standIns := [], harness := (true, "bbb317806ece47bd1f409602de2f7cd200ed85fc911e9c2255e6388d2bf5fb3c"), looks := false }, kinds := [], alts := [], laidByText := true, laidKinds := [.data, .pinned], laidTests := true, laidLooks := .later }
def FnExactDoesOpenAllUptoCardSaid : Prop := Claim7.holds Tryd.pinned (.plain (OpenSpec.upto fnExactDoesOpenAllSpec)) fnExactDoesOpenAllUptoCard
end Rows
end Go.Proofs.YtjnkfnabbekinaaDoor
