/-
  DERIVED. GIVEN WITH THE SEED: THE CARDS: each row of YtcgichheepaljaaDoorRows.lean that lists a variable, with what it lists TIED to the program's text (the seventh form; the later family's looks); each row that meets fmt, with fmt's text TOLD by the authors' own Lean function (tested against real Go, not proved from fmt's source: count such statements apart). THE CARD IS WHAT COUNTS. Prove the row's statement (the work); the ties are given (YtcgichheepaljaaDoorTie.lean); close each card by the builder's one call (the guide's Derived/Test/ToyasCard.lean, 'card_holds'). Laid BY PROGRAM, IN A SANDBOX (cutbox-door.mjs). By AI agents, Wed Nov 11 2026. No macro, syntax, notation, axiom, sorry.
-/
import Derived.Test.YtcgichheepaljaaDoorRows
import GoSem.ClaimSeven
namespace Go.Proofs.YtcgichheepaljaaDoor
namespace Rows

/-- THE TIED CARD OF 'laws.FnExactWhoDials'. -/
def fnExactWhoDialsCard : Claim7 := { stood := { row := fnExactWhoDialsRow, standIns := [], harness := (true, "2131ef7b55632836010b5af407feebd1a9fdaeb5ffafb1ce65ec4cbb9fc27ecc"), looks := false }, kinds := [], alts := [], laidByText := true, laidKinds := [.data, .pinned], laidTests := true, laidLooks := .later }
def FnExactWhoDialsCardSaid : Prop := Claim7.holds Tryd.pinned (.plain (OpenSpec.ofChange fnExactWhoDialsSpec)) fnExactWhoDialsCard

/-- THE SECOND FORM's CARD OF 'laws.FnExactWhoDials'. -/
def fnExactWhoDialsUptoCard : Claim7 := { stood := { row := fnExactWhoDialsUptoRow, standIns := [], harness := (true, "2131ef7b55632836010b5af407feebd1a9fdaeb5ffafb1ce65ec4cbb9fc27ecc"), looks := false }, kinds := [], alts := [], laidByText := true, laidKinds := [.data, .pinned], laidTests := true, laidLooks := .later }
def FnExactWhoDialsUptoCardSaid : Prop := Claim7.holds Tryd.pinned (.plain (OpenSpec.upto fnExactWhoDialsSpec)) fnExactWhoDialsUptoCard
end Rows
end Go.Proofs.YtcgichheepaljaaDoor
