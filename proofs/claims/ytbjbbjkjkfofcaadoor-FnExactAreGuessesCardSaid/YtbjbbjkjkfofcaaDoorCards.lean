/-
  DERIVED. GIVEN WITH THE SEED: THE CARDS: each row of YtbjbbjkjkfofcaaDoorRows.lean that lists a variable, with what it lists TIED to the program's text (the seventh form; the later family's looks); each row that meets fmt, with fmt's text TOLD by the authors' own Lean function (tested against real Go, not proved from fmt's source: count such statements apart). THE CARD IS WHAT COUNTS. Prove the row's statement (the work); the ties are given (YtbjbbjkjkfofcaaDoorTie.lean); close each card by the builder's one call (the guide's Derived/Test/ToyasCard.lean, 'card_holds'). Laid BY PROGRAM, IN A SANDBOX (cutbox-door.mjs). By AI agents, Wed Nov 11 2026. No macro, syntax, notation, axiom, sorry.
-/
import Derived.Test.YtbjbbjkjkfofcaaDoorRows
import GoSem.ClaimSeven
namespace Go.Proofs.YtbjbbjkjkfofcaaDoor
namespace Rows

/-- THE TIED CARD OF 'laws.FnExactOpensAt'. -/
def fnExactOpensAtCard : Claim7 := { stood := { row := fnExactOpensAtRow, standIns := [], harness := (true, "3d3db6fa9e3bb26343dad47200c30faa86020db0df42be240f29cefdc08c5119"), looks := false }, kinds := [], alts := [], laidByText := true, laidKinds := [.data, .pinned], laidTests := true, laidLooks := .later }
def FnExactOpensAtCardSaid : Prop := Claim7.holds Tryd.pinned (.plain (OpenSpec.ofChange fnExactOpensAtSpec)) fnExactOpensAtCard

/-- THE TIED CARD OF 'laws.FnExactAreGuesses'. -/
def fnExactAreGuessesCard : Claim7 := { stood := { row := fnExactAreGuessesRow, standIns := [], harness := (true, "3d3db6fa9e3bb26343dad47200c30faa86020db0df42be240f29cefdc08c5119"), looks := false }, kinds := [], alts := [], laidByText := true, laidKinds := [.data, .pinned], laidTests := true, laidLooks := .later }
def FnExactAreGuessesCardSaid : Prop := Claim7.holds Tryd.pinned (.plain (OpenSpec.ofChange fnExactAreGuessesSpec)) fnExactAreGuessesCard

/-- THE TIED CARD OF 'laws.FnExactCountPinsLeft'. -/
def fnExactCountPinsLeftCard : Claim7 := { stood := { row := fnExactCountPinsLeftRow, standIns := [], harness := (true, "3d3db6fa9e3bb26343dad47200c30faa86020db0df42be240f29cefdc08c5119"), looks := false }, kinds := [], alts := [], laidByText := true, laidKinds := [.data, .pinned], laidTests := true, laidLooks := .later }
def FnExactCountPinsLeftCardSaid : Prop := Claim7.holds Tryd.pinned (.plain (OpenSpec.ofChange fnExactCountPinsLeftSpec)) fnExactCountPinsLeftCard

/-- THE TIED CARD OF 'laws.FnExactPinsLeft'. -/
def fnExactPinsLeftCard : Claim7 := { stood := { row := fnExactPinsLeftRow, standIns := [], harness := (true, "3d3db6fa9e3bb26343dad47200c30faa86020db0df42be240f29cefdc08c5119"), looks := false }, kinds := [], alts := [], laidByText := true, laidKinds := [.data, .pinned], laidTests := true, laidLooks := .later }
def FnExactPinsLeftCardSaid : Prop := Claim7.holds Tryd.pinned (.plain (OpenSpec.ofChange fnExactPinsLeftSpec)) fnExactPinsLeftCard

/-- THE TIED CARD OF 'laws.FnExactWorstLeft'. -/
def fnExactWorstLeftCard : Claim7 := { stood := { row := fnExactWorstLeftRow, standIns := [], harness := (true, "3d3db6fa9e3bb26343dad47200c30faa86020db0df42be240f29cefdc08c5119"), looks := false }, kinds := [], alts := [], laidByText := true, laidKinds := [.data, .pinned], laidTests := true, laidLooks := .later }
def FnExactWorstLeftCardSaid : Prop := Claim7.holds Tryd.pinned (.plain (OpenSpec.ofChange fnExactWorstLeftSpec)) fnExactWorstLeftCard

/-- THE TIED CARD OF 'laws.FnExactBestGuess'. -/
def fnExactBestGuessCard : Claim7 := { stood := { row := fnExactBestGuessRow, standIns := [], harness := (true, "3d3db6fa9e3bb26343dad47200c30faa86020db0df42be240f29cefdc08c5119"), looks := false }, kinds := [], alts := [], laidByText := true, laidKinds := [.data, .pinned], laidTests := true, laidLooks := .later }
def FnExactBestGuessCardSaid : Prop := Claim7.holds Tryd.pinned (.plain (OpenSpec.ofChange fnExactBestGuessSpec)) fnExactBestGuessCard

/-- THE TIED CARD OF 'laws.FnExactDoesOpenAll'. -/
def fnExactDoesOpenAllCard : Claim7 := { stood := { row := fnExactDoesOpenAllRow, standIns := [], harness := (true, "3d3db6fa9e3bb26343dad47200c30faa86020db0df42be240f29cefdc08c5119"), looks := false }, kinds := [], alts := [], laidByText := true, laidKinds := [.data, .pinned], laidTests := true, laidLooks := .later }
def FnExactDoesOpenAllCardSaid : Prop := Claim7.holds Tryd.pinned (.plain (OpenSpec.ofChange fnExactDoesOpenAllSpec)) fnExactDoesOpenAllCard

/-- THE SECOND FORM's CARD OF 'laws.FnExactOpensAt'. -/
def fnExactOpensAtUptoCard : Claim7 := { stood := { row := fnExactOpensAtUptoRow, standIns := [], harness := (true, "3d3db6fa9e3bb26343dad47200c30faa86020db0df42be240f29cefdc08c5119"), looks := false }, kinds := [], alts := [], laidByText := true, laidKinds := [.data, .pinned], laidTests := true, laidLooks := .later }
def FnExactOpensAtUptoCardSaid : Prop := Claim7.holds Tryd.pinned (.plain (OpenSpec.upto fnExactOpensAtSpec)) fnExactOpensAtUptoCard

/-- THE SECOND FORM's CARD OF 'laws.FnExactAreGuesses'. -/
def fnExactAreGuessesUptoCard : Claim7 := { stood := { row := fnExactAreGuessesUptoRow, standIns := [], harness := (true, "3d3db6fa9e3bb26343dad47200c30faa86020db0df42be240f29cefdc08c5119"), looks := false }, kinds := [], alts := [], laidByText := true, laidKinds := [.data, .pinned], laidTests := true, laidLooks := .later }
def FnExactAreGuessesUptoCardSaid : Prop := Claim7.holds Tryd.pinned (.plain (OpenSpec.upto fnExactAreGuessesSpec)) fnExactAreGuessesUptoCard

/-- THE SECOND FORM's CARD OF 'laws.FnExactCountPinsLeft'. -/
def fnExactCountPinsLeftUptoCard : Claim7 := { stood := { row := fnExactCountPinsLeftUptoRow, standIns := [], harness := (true, "3d3db6fa9e3bb26343dad47200c30faa86020db0df42be240f29cefdc08c5119"), looks := false }, kinds := [], alts := [], laidByText := true, laidKinds := [.data, .pinned], laidTests := true, laidLooks := .later }
def FnExactCountPinsLeftUptoCardSaid : Prop := Claim7.holds Tryd.pinned (.plain (OpenSpec.upto fnExactCountPinsLeftSpec)) fnExactCountPinsLeftUptoCard

/-- THE SECOND FORM's CARD OF 'laws.FnExactPinsLeft'. -/
def fnExactPinsLeftUptoCard : Claim7 := { stood := { row := fnExactPinsLeftUptoRow, standIns := [], harness := (true, "3d3db6fa9e3bb26343dad47200c30faa86020db0df42be240f29cefdc08c5119"), looks := false }, kinds := [], alts := [], laidByText := true, laidKinds := [.data, .pinned], laidTests := true, laidLooks := .later }
def FnExactPinsLeftUptoCardSaid : Prop := Claim7.holds Tryd.pinned (.plain (OpenSpec.upto fnExactPinsLeftSpec)) fnExactPinsLeftUptoCard

/-- THE SECOND FORM's CARD OF 'laws.FnExactWorstLeft'. -/
def fnExactWorstLeftUptoCard : Claim7 := { stood := { row := fnExactWorstLeftUptoRow, standIns := [], harness := (true, "3d3db6fa9e3bb26343dad47200c30faa86020db0df42be240f29cefdc08c5119"), looks := false }, kinds := [], alts := [], laidByText := true, laidKinds := [.data, .pinned], laidTests := true, laidLooks := .later }
def FnExactWorstLeftUptoCardSaid : Prop := Claim7.holds Tryd.pinned (.plain (OpenSpec.upto fnExactWorstLeftSpec)) fnExactWorstLeftUptoCard

/-- THE SECOND FORM's CARD OF 'laws.FnExactBestGuess'. -/
def fnExactBestGuessUptoCard : Claim7 := { stood := { row := fnExactBestGuessUptoRow, standIns := [], harness := (true, "3d3db6fa9e3bb26343dad47200c30faa86020db0df42be240f29cefdc08c5119"), looks := false }, kinds := [], alts := [], laidByText := true, laidKinds := [.data, .pinned], laidTests := true, laidLooks := .later }
def FnExactBestGuessUptoCardSaid : Prop := Claim7.holds Tryd.pinned (.plain (OpenSpec.upto fnExactBestGuessSpec)) fnExactBestGuessUptoCard

/-- THE SECOND FORM's CARD OF 'laws.FnExactDoesOpenAll'. -/
def fnExactDoesOpenAllUptoCard : Claim7 := { stood := { row := fnExactDoesOpenAllUptoRow, standIns := [], harness := (true, "3d3db6fa9e3bb26343dad47200c30faa86020db0df42be240f29cefdc08c5119"), looks := false }, kinds := [], alts := [], laidByText := true, laidKinds := [.data, .pinned], laidTests := true, laidLooks := .later }
def FnExactDoesOpenAllUptoCardSaid : Prop := Claim7.holds Tryd.pinned (.plain (OpenSpec.upto fnExactDoesOpenAllSpec)) fnExactDoesOpenAllUptoCard
end Rows
end Go.Proofs.YtbjbbjkjkfofcaaDoor
