/-
  DERIVED. GIVEN WITH THE SEED: THE CARDS: each row of YtcidlaabbkimdaaDoorRows.lean that lists a variable, with what it lists TIED to the program's text (the seventh form; the later family's looks); each row that meets fmt, with fmt's text TOLD by the authors' own Lean function (tested against real Go, not proved from fmt's source: count such statements apart). THE CARD IS WHAT COUNTS. Prove the row's statement (the work); the ties are given (YtcidlaabbkimdaaDoorTie.lean); close each card by the builder's one call (the guide's Derived/Test/ToyasCard.lean, 'card_holds'). Laid BY PROGRAM, IN A SANDBOX (cutbox-door.mjs). By AI agents, Wed Nov 11 2026. No macro, syntax, notation, axiom, sorry.
-/
import Derived.Test.YtcidlaabbkimdaaDoorRows
import GoSem.ClaimSeven
namespace Go.Proofs.YtcidlaabbkimdaaDoor
namespace Rows

/-- THE TIED CARD OF 'laws.FnExactLettersOf'. -/
def fnExactLettersOfCard : Claim7 := { stood := { row := fnExactLettersOfRow, standIns := [], harness := (true, "d140f6f1362a90cb9246e5652668875681c3f42ba2c2d01b802424be74bead35"), looks := false }, kinds := [], alts := [], laidByText := true, laidKinds := [.data, .pinned], laidTests := true, laidLooks := .later }
def FnExactLettersOfCardSaid : Prop := Claim7.holds Tryd.pinned (.plain (OpenSpec.ofChange fnExactLettersOfSpec)) fnExactLettersOfCard

/-- THE TIED CARD OF 'laws.FnExactCountShown'. -/
def fnExactCountShownCard : Claim7 := { stood := { row := fnExactCountShownRow, standIns := [], harness := (true, "d140f6f1362a90cb9246e5652668875681c3f42ba2c2d01b802424be74bead35"), looks := false }, kinds := [], alts := [], laidByText := true, laidKinds := [.data, .pinned], laidTests := true, laidLooks := .later }
def FnExactCountShownCardSaid : Prop := Claim7.holds Tryd.pinned (.plain (OpenSpec.ofChange fnExactCountShownSpec)) fnExactCountShownCard

/-- THE TIED CARD OF 'laws.FnExactCanShow'. -/
def fnExactCanShowCard : Claim7 := { stood := { row := fnExactCanShowRow, standIns := [], harness := (true, "d140f6f1362a90cb9246e5652668875681c3f42ba2c2d01b802424be74bead35"), looks := false }, kinds := [], alts := [], laidByText := true, laidKinds := [.data, .pinned], laidTests := true, laidLooks := .later }
def FnExactCanShowCardSaid : Prop := Claim7.holds Tryd.pinned (.plain (OpenSpec.ofChange fnExactCanShowSpec)) fnExactCanShowCard

/-- THE TIED CARD OF 'laws.FnExactDeadFor'. -/
def fnExactDeadForCard : Claim7 := { stood := { row := fnExactDeadForRow, standIns := [], harness := (true, "d140f6f1362a90cb9246e5652668875681c3f42ba2c2d01b802424be74bead35"), looks := false }, kinds := [], alts := [], laidByText := true, laidKinds := [.data, .pinned], laidTests := true, laidLooks := .later }
def FnExactDeadForCardSaid : Prop := Claim7.holds Tryd.pinned (.plain (OpenSpec.ofChange fnExactDeadForSpec)) fnExactDeadForCard

/-- THE TIED CARD OF 'laws.FnExactStuckFor'. -/
def fnExactStuckForCard : Claim7 := { stood := { row := fnExactStuckForRow, standIns := [], harness := (true, "d140f6f1362a90cb9246e5652668875681c3f42ba2c2d01b802424be74bead35"), looks := false }, kinds := [], alts := [], laidByText := true, laidKinds := [.data, .pinned], laidTests := true, laidLooks := .later }
def FnExactStuckForCardSaid : Prop := Claim7.holds Tryd.pinned (.plain (OpenSpec.ofChange fnExactStuckForSpec)) fnExactStuckForCard

/-- THE TIED CARD OF 'laws.FnExactSwapsOf'. -/
def fnExactSwapsOfCard : Claim7 := { stood := { row := fnExactSwapsOfRow, standIns := [], harness := (true, "d140f6f1362a90cb9246e5652668875681c3f42ba2c2d01b802424be74bead35"), looks := false }, kinds := [], alts := [], laidByText := true, laidKinds := [.data, .pinned], laidTests := true, laidLooks := .later }
def FnExactSwapsOfCardSaid : Prop := Claim7.holds Tryd.pinned (.plain (OpenSpec.ofChange fnExactSwapsOfSpec)) fnExactSwapsOfCard

/-- THE TIED CARD OF 'laws.FnExactWrongOnKey'. -/
def fnExactWrongOnKeyCard : Claim7 := { stood := { row := fnExactWrongOnKeyRow, standIns := [], harness := (true, "d140f6f1362a90cb9246e5652668875681c3f42ba2c2d01b802424be74bead35"), looks := false }, kinds := [], alts := [], laidByText := true, laidKinds := [.data, .pinned], laidTests := true, laidLooks := .later }
def FnExactWrongOnKeyCardSaid : Prop := Claim7.holds Tryd.pinned (.plain (OpenSpec.ofChange fnExactWrongOnKeySpec)) fnExactWrongOnKeyCard

/-- THE SECOND FORM's CARD OF 'laws.FnExactLettersOf'. -/
def fnExactLettersOfUptoCard : Claim7 := { stood := { row := fnExactLettersOfUptoRow, standIns := [], harness := (true, "d140f6f1362a90cb9246e5652668875681c3f42ba2c2d01b802424be74bead35"), looks := false }, kinds := [], alts := [], laidByText := true, laidKinds := [.data, .pinned], laidTests := true, laidLooks := .later }
def FnExactLettersOfUptoCardSaid : Prop := Claim7.holds Tryd.pinned (.plain (OpenSpec.upto fnExactLettersOfSpec)) fnExactLettersOfUptoCard

/-- THE SECOND FORM's CARD OF 'laws.FnExactCountShown'. -/
def fnExactCountShownUptoCard : Claim7 := { stood := { row := fnExactCountShownUptoRow, standIns := [], harness := (true, "d140f6f1362a90cb9246e5652668875681c3f42ba2c2d01b802424be74bead35"), looks := false }, kinds := [], alts := [], laidByText := true, laidKinds := [.data, .pinned], laidTests := true, laidLooks := .later }
def FnExactCountShownUptoCardSaid : Prop := Claim7.holds Tryd.pinned (.plain (OpenSpec.upto fnExactCountShownSpec)) fnExactCountShownUptoCard

/-- THE SECOND FORM's CARD OF 'laws.FnExactCanShow'. -/
def fnExactCanShowUptoCard : Claim7 := { stood := { row := fnExactCanShowUptoRow, standIns := [], harness := (true, "d140f6f1362a90cb9246e5652668875681c3f42ba2c2d01b802424be74bead35"), looks := false }, kinds := [], alts := [], laidByText := true, laidKinds := [.data, .pinned], laidTests := true, laidLooks := .later }
def FnExactCanShowUptoCardSaid : Prop := Claim7.holds Tryd.pinned (.plain (OpenSpec.upto fnExactCanShowSpec)) fnExactCanShowUptoCard

/-- THE SECOND FORM's CARD OF 'laws.FnExactDeadFor'. -/
def fnExactDeadForUptoCard : Claim7 := { stood := { row := fnExactDeadForUptoRow, standIns := [], harness := (true, "d140f6f1362a90cb9246e5652668875681c3f42ba2c2d01b802424be74bead35"), looks := false }, kinds := [], alts := [], laidByText := true, laidKinds := [.data, .pinned], laidTests := true, laidLooks := .later }
def FnExactDeadForUptoCardSaid : Prop := Claim7.holds Tryd.pinned (.plain (OpenSpec.upto fnExactDeadForSpec)) fnExactDeadForUptoCard

/-- THE SECOND FORM's CARD OF 'laws.FnExactStuckFor'. -/
def fnExactStuckForUptoCard : Claim7 := { stood := { row := fnExactStuckForUptoRow, standIns := [], harness := (true, "d140f6f1362a90cb9246e5652668875681c3f42ba2c2d01b802424be74bead35"), looks := false }, kinds := [], alts := [], laidByText := true, laidKinds := [.data, .pinned], laidTests := true, laidLooks := .later }
def FnExactStuckForUptoCardSaid : Prop := Claim7.holds Tryd.pinned (.plain (OpenSpec.upto fnExactStuckForSpec)) fnExactStuckForUptoCard

/-- THE SECOND FORM's CARD OF 'laws.FnExactSwapsOf'. -/
def fnExactSwapsOfUptoCard : Claim7 := { stood := { row := fnExactSwapsOfUptoRow, standIns := [], harness := (true, "d140f6f1362a90cb9246e5652668875681c3f42ba2c2d01b802424be74bead35"), looks := false }, kinds := [], alts := [], laidByText := true, laidKinds := [.data, .pinned], laidTests := true, laidLooks := .later }
def FnExactSwapsOfUptoCardSaid : Prop := Claim7.holds Tryd.pinned (.plain (OpenSpec.upto fnExactSwapsOfSpec)) fnExactSwapsOfUptoCard

/-- THE SECOND FORM's CARD OF 'laws.FnExactWrongOnKey'. -/
def fnExactWrongOnKeyUptoCard : Claim7 := { stood := { row := fnExactWrongOnKeyUptoRow, standIns := [], harness := (true, "d140f6f1362a90cb9246e5652668875681c3f42ba2c2d01b802424be74bead35"), looks := false }, kinds := [], alts := [], laidByText := true, laidKinds := [.data, .pinned], laidTests := true, laidLooks := .later }
def FnExactWrongOnKeyUptoCardSaid : Prop := Claim7.holds Tryd.pinned (.plain (OpenSpec.upto fnExactWrongOnKeySpec)) fnExactWrongOnKeyUptoCard
end Rows
end Go.Proofs.YtcidlaabbkimdaaDoor
