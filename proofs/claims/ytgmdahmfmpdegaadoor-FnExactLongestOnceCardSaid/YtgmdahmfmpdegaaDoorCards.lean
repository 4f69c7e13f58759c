/-
  DERIVED. GIVEN WITH THE SEED: THE CARDS: each row of YtgmdahmfmpdegaaDoorRows.lean that lists a variable, with what it lists TIED to the program's text (the seventh form; the later family's looks); each row that meets fmt, with fmt's text TOLD by the authors' own Lean function (tested against real Go, not proved from fmt's source: count such statements apart). THE CARD IS WHAT COUNTS. Prove the row's statement (the work); the ties are given (YtgmdahmfmpdegaaDoorTie.lean); close each card by the builder's one call (the guide's Derived/Test/ToyasCard.lean, 'card_holds'). Laid BY PROGRAM, IN A SANDBOX (cutbox-door.mjs). By AI agents, Wed Nov 11 2026. No macro, syntax, notation, axiom, sorry.
-/
import Derived.Test.YtgmdahmfmpdegaaDoorRows
import GoSem.ClaimSeven
namespace Go.Proofs.YtgmdahmfmpdegaaDoor
namespace Rows

/-- THE TIED CARD OF 'laws.FnExactCountOnce'. -/
def fnExactCountOnceCard : Claim7 := { stood := { row := fnExactCountOnceRow, standIns := [], harness := (true, "0ac3dedbf5dd8876fab4e3ee977d3ad0a9c5097fdd569fde1d5542f41c9002f4"), looks := false }, kinds := [], alts := [], laidByText := true, laidKinds := [.data, .pinned], laidTests := true, laidLooks := .later }
def FnExactCountOnceCardSaid : Prop := Claim7.holds Tryd.pinned (.plain (OpenSpec.ofChange fnExactCountOnceSpec)) fnExactCountOnceCard

/-- THE TIED CARD OF 'laws.FnExactLongestOnce'. -/
def fnExactLongestOnceCard : Claim7 := { stood := { row := fnExactLongestOnceRow, standIns := [], harness := (true, "0ac3dedbf5dd8876fab4e3ee977d3ad0a9c5097fdd569fde1d5542f41c9002f4"), looks := false }, kinds := [], alts := [], laidByText := true, laidKinds := [.data, .pinned], laidTests := true, laidLooks := .later }
def FnExactLongestOnceCardSaid : Prop := Claim7.holds Tryd.pinned (.plain (OpenSpec.ofChange fnExactLongestOnceSpec)) fnExactLongestOnceCard

/-- THE SECOND FORM's CARD OF 'laws.FnExactCountOnce'. -/
def fnExactCountOnceUptoCard : Claim7 := { stood := { row := fnExactCountOnceUptoRow, standIns := [], harness := (true, "0ac3dedbf5dd8876fab4e3ee977d3ad0a9c5097fdd569fde1d5542f41c9002f4"), looks := false }, kinds := [], alts := [], laidByText := true, laidKinds := [.data, .pinned], laidTests := true, laidLooks := .later }
def FnExactCountOnceUptoCardSaid : Prop := Claim7.holds Tryd.pinned (.plain (OpenSpec.upto fnExactCountOnceSpec)) fnExactCountOnceUptoCard

/-- THE SECOND FORM's CARD OF 'laws.FnExactLongestOnce'. -/
def fnExactLongestOnceUptoCard : Claim7 := { stood := { row := fnExactLongestOnceUptoRow, standIns := [], harness := (true, "0ac3dedbf5dd8876fab4e3ee977d3ad0a9c5097fdd569fde1d5542f41c9002f4"), looks := false }, kinds := [], alts := [], laidByText := true, laidKinds := [.data, .pinned], laidTests := true, laidLooks := .later }
def FnExactLongestOnceUptoCardSaid : Prop := Claim7.holds Tryd.pinned (.plain (OpenSpec.upto fnExactLongestOnceSpec)) fnExactLongestOnceUptoCard
end Rows
end Go.Proofs.YtgmdahmfmpdegaaDoor
