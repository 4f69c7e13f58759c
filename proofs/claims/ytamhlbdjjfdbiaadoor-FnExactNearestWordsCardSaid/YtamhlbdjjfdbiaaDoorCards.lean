/-
  DERIVED. GIVEN WITH THE SEED: THE CARDS: each row of YtamhlbdjjfdbiaaDoorRows.lean that lists a variable, with what it lists TIED to the program's text (the seventh form; the later family's looks); each row that meets fmt, with fmt's text TOLD by the authors' own Lean function (tested against real Go, not proved from fmt's source: count such statements apart). THE CARD IS WHAT COUNTS. Prove the row's statement (the work); the ties are given (YtamhlbdjjfdbiaaDoorTie.lean); close each card by the builder's one call (the guide's Derived/Test/ToyasCard.lean, 'card_holds'). Laid BY PROGRAM, IN A SANDBOX (cutbox-door.mjs). By AI agents, Wed Nov 11 2026. No macro, syntax, notation, axiom, sorry.
-/
import Derived.Test.YtamhlbdjjfdbiaaDoorRows
import GoSem.ClaimSeven
namespace Go.Proofs.YtamhlbdjjfdbiaaDoor
namespace Rows

/-- THE TIED CARD OF 'laws.FnExactTypoDistance'. -/
def fnExactTypoDistanceCard : Claim7 := { stood := { row := fnExactTypoDistanceRow, standIns := [], harness := (true, "f7a8f0b0a8ebe6116bd847de1e23082415b6a2e67e2b3d2d44827f78c58abfdc"), looks := false }, kinds := [], alts := [], laidByText := true, laidKinds := [.data, .pinned], laidTests := true, laidLooks := .later }
def FnExactTypoDistanceCardSaid : Prop := Claim7.holds Tryd.pinned (.plain (OpenSpec.ofChange fnExactTypoDistanceSpec)) fnExactTypoDistanceCard

/-- THE TIED CARD OF 'laws.FnExactIsOneTypo'. -/
def fnExactIsOneTypoCard : Claim7 := { stood := { row := fnExactIsOneTypoRow, standIns := [], harness := (true, "f7a8f0b0a8ebe6116bd847de1e23082415b6a2e67e2b3d2d44827f78c58abfdc"), looks := false }, kinds := [], alts := [], laidByText := true, laidKinds := [.data, .pinned], laidTests := true, laidLooks := .later }
def FnExactIsOneTypoCardSaid : Prop := Claim7.holds Tryd.pinned (.plain (OpenSpec.ofChange fnExactIsOneTypoSpec)) fnExactIsOneTypoCard

/-- THE TIED CARD OF 'laws.FnExactFirstTypos'. -/
def fnExactFirstTyposCard : Claim7 := { stood := { row := fnExactFirstTyposRow, standIns := [], harness := (true, "f7a8f0b0a8ebe6116bd847de1e23082415b6a2e67e2b3d2d44827f78c58abfdc"), looks := false }, kinds := [], alts := [], laidByText := true, laidKinds := [.data, .pinned], laidTests := true, laidLooks := .later }
def FnExactFirstTyposCardSaid : Prop := Claim7.holds Tryd.pinned (.plain (OpenSpec.ofChange fnExactFirstTyposSpec)) fnExactFirstTyposCard

/-- THE TIED CARD OF 'laws.FnExactApplyTypos'. -/
def fnExactApplyTyposCard : Claim7 := { stood := { row := fnExactApplyTyposRow, standIns := [], harness := (true, "f7a8f0b0a8ebe6116bd847de1e23082415b6a2e67e2b3d2d44827f78c58abfdc"), looks := false }, kinds := [], alts := [], laidByText := true, laidKinds := [.data, .pinned], laidTests := true, laidLooks := .later }
def FnExactApplyTyposCardSaid : Prop := Claim7.holds Tryd.pinned (.plain (OpenSpec.ofChange fnExactApplyTyposSpec)) fnExactApplyTyposCard

/-- THE TIED CARD OF 'laws.FnExactCommonLength'. -/
def fnExactCommonLengthCard : Claim7 := { stood := { row := fnExactCommonLengthRow, standIns := [], harness := (true, "f7a8f0b0a8ebe6116bd847de1e23082415b6a2e67e2b3d2d44827f78c58abfdc"), looks := false }, kinds := [], alts := [], laidByText := true, laidKinds := [.data, .pinned], laidTests := true, laidLooks := .later }
def FnExactCommonLengthCardSaid : Prop := Claim7.holds Tryd.pinned (.plain (OpenSpec.ofChange fnExactCommonLengthSpec)) fnExactCommonLengthCard

/-- THE TIED CARD OF 'laws.FnExactFirstCommon'. -/
def fnExactFirstCommonCard : Claim7 := { stood := { row := fnExactFirstCommonRow, standIns := [], harness := (true, "f7a8f0b0a8ebe6116bd847de1e23082415b6a2e67e2b3d2d44827f78c58abfdc"), looks := false }, kinds := [], alts := [], laidByText := true, laidKinds := [.data, .pinned], laidTests := true, laidLooks := .later }
def FnExactFirstCommonCardSaid : Prop := Claim7.holds Tryd.pinned (.plain (OpenSpec.ofChange fnExactFirstCommonSpec)) fnExactFirstCommonCard

/-- THE TIED CARD OF 'laws.FnExactUnstuckText'. -/
def fnExactUnstuckTextCard : Claim7 := { stood := { row := fnExactUnstuckTextRow, standIns := [], harness := (true, "f7a8f0b0a8ebe6116bd847de1e23082415b6a2e67e2b3d2d44827f78c58abfdc"), looks := false }, kinds := [], alts := [], laidByText := true, laidKinds := [.data, .pinned], laidTests := true, laidLooks := .later }
def FnExactUnstuckTextCardSaid : Prop := Claim7.holds Tryd.pinned (.plain (OpenSpec.ofChange fnExactUnstuckTextSpec)) fnExactUnstuckTextCard

/-- THE TIED CARD OF 'laws.FnExactWordsWithin'. -/
def fnExactWordsWithinCard : Claim7 := { stood := { row := fnExactWordsWithinRow, standIns := [], harness := (true, "f7a8f0b0a8ebe6116bd847de1e23082415b6a2e67e2b3d2d44827f78c58abfdc"), looks := false }, kinds := [], alts := [], laidByText := true, laidKinds := [.data, .pinned], laidTests := true, laidLooks := .later }
def FnExactWordsWithinCardSaid : Prop := Claim7.holds Tryd.pinned (.plain (OpenSpec.ofChange fnExactWordsWithinSpec)) fnExactWordsWithinCard

/-- THE TIED CARD OF 'laws.FnExactNearestWords'. -/
def fnExactNearestWordsCard : Claim7 := { stood := { row := fnExactNearestWordsRow, standIns := [], harness := (true, "f7a8f0b0a8ebe6116bd847de1e23082415b6a2e67e2b3d2d44827f78c58abfdc"), looks := false }, kinds := [], alts := [], laidByText := true, laidKinds := [.data, .pinned], laidTests := true, laidLooks := .later }
def FnExactNearestWordsCardSaid : Prop := Claim7.holds Tryd.pinned (.plain (OpenSpec.ofChange fnExactNearestWordsSpec)) fnExactNearestWordsCard

/-- THE SECOND FORM's CARD OF 'laws.FnExactTypoDistance'. -/
def fnExactTypoDistanceUptoCard : Claim7 := { stood := { row := fnExactTypoDistanceUptoRow, standIns := [], harness := (true, "f7a8f0b0a8ebe6116bd847de1e23082415b6a2e67e2b3d2d44827f78c58abfdc"), looks := false }, kinds := [], alts := [], laidByText := true, laidKinds := [.data, .pinned], laidTests := true, laidLooks := .later }
def FnExactTypoDistanceUptoCardSaid : Prop := Claim7.holds Tryd.pinned (.plain (OpenSpec.upto fnExactTypoDistanceSpec)) fnExactTypoDistanceUptoCard

/-- THE SECOND FORM's CARD OF 'laws.FnExactIsOneTypo'. -/
def fnExactIsOneTypoUptoCard : Claim7 := { stood := { row := fnExactIsOneTypoUptoRow, standIns := [], harness := (true, "f7a8f0b0a8ebe6116bd847de1e23082415b6a2e67e2b3d2d44827f78c58abfdc"), looks := false }, kinds := [], alts := [], laidByText := true, laidKinds := [.data, .pinned], laidTests := true, laidLooks := .later }
def FnExactIsOneTypoUptoCardSaid : Prop := Claim7.holds Tryd.pinned (.plain (OpenSpec.upto fnExactIsOneTypoSpec)) fnExactIsOneTypoUptoCard

/-- THE SECOND FORM's CARD OF 'laws.FnExactFirstTypos'. -/
def fnExactFirstTyposUptoCard : Claim7 := { stood := { row := fnExactFirstTyposUptoRow, standIns := [], harness := (true, "f7a8f0b0a8ebe6116bd847de1e23082415b6a2e67e2b3d2d44827f78c58abfdc"), looks := false }, kinds := [], alts := [], laidByText := true, laidKinds := [.data, .pinned], laidTests := true, laidLooks := .later }
def FnExactFirstTyposUptoCardSaid : Prop := Claim7.holds Tryd.pinned (.plain (OpenSpec.upto fnExactFirstTyposSpec)) fnExactFirstTyposUptoCard

/-- THE SECOND FORM's CARD OF 'laws.FnExactApplyTypos'. -/
def fnExactApplyTyposUptoCard : Claim7 := { stood := { row := fnExactApplyTyposUptoRow, standIns := [], harness := (true, "f7a8f0b0a8ebe6116bd847de1e23082415b6a2e67e2b3d2d44827f78c58abfdc"), looks := false }, kinds := [], alts := [], laidByText := true, laidKinds := [.data, .pinned], laidTests := true, laidLooks := .later }
def FnExactApplyTyposUptoCardSaid : Prop := Claim7.holds Tryd.pinned (.plain (OpenSpec.upto fnExactApplyTyposSpec)) fnExactApplyTyposUptoCard

/-- THE SECOND FORM's CARD OF 'laws.FnExactCommonLength'. -/
def fnExactCommonLengthUptoCard : Claim7 := { stood := { row := fnExactCommonLengthUptoRow, standIns := [], harness := (true, "f7a8f0b0a8ebe6116bd847de1e23082415b6a2e67e2b3d2d44827f78c58abfdc"), looks := false }, kinds := [], alts := [], laidByText := true, laidKinds := [.data, .pinned], laidTests := true, laidLooks := .later }
def FnExactCommonLengthUptoCardSaid : Prop := Claim7.holds Tryd.pinned (.plain (OpenSpec.upto fnExactCommonLengthSpec)) fnExactCommonLengthUptoCard

/-- THE SECOND FORM's CARD OF 'laws.FnExactFirstCommon'. -/
def fnExactFirstCommonUptoCard : Claim7 := { stood := { row := fnExactFirstCommonUptoRow, standIns := [], harness := (true, "f7a8f0b0a8ebe6116bd847de1e23082415b6a2e67e2b3d2d44827f78c58abfdc"), looks := false }, kinds := [], alts := [], laidByText := true, laidKinds := [.data, .pinned], laidTests := true, laidLooks := .later }
def FnExactFirstCommonUptoCardSaid : Prop := Claim7.holds Tryd.pinned (.plain (OpenSpec.upto fnExactFirstCommonSpec)) fnExactFirstCommonUptoCard

/-- THE SECOND FORM's CARD OF 'laws.FnExactUnstuckText'. -/
def fnExactUnstuckTextUptoCard : Claim7 := { stood := { row := fnExactUnstuckTextUptoRow, standIns := [], harness := (true, "f7a8f0b0a8ebe6116bd847de1e23082415b6a2e67e2b3d2d44827f78c58abfdc"), looks := false }, kinds := [], alts := [], laidByText := true, laidKinds := [.data, .pinned], laidTests := true, laidLooks := .later }
def FnExactUnstuckTextUptoCardSaid : Prop := Claim7.holds Tryd.pinned (.plain (OpenSpec.upto fnExactUnstuckTextSpec)) fnExactUnstuckTextUptoCard

/-- THE SECOND FORM's CARD OF 'laws.FnExactWordsWithin'. -/
def fnExactWordsWithinUptoCard : Claim7 := { stood := { row := fnExactWordsWithinUptoRow, standIns := [], harness := (true, "f7a8f0b0a8ebe6116bd847de1e23082415b6a2e67e2b3d2d44827f78c58abfdc"), looks := false }, kinds := [], alts := [], laidByText := true, laidKinds := [.data, .pinned], laidTests := true, laidLooks := .later }
def FnExactWordsWithinUptoCardSaid : Prop := Claim7.holds Tryd.pinned (.plain (OpenSpec.upto fnExactWordsWithinSpec)) fnExactWordsWithinUptoCard

/-- THE SECOND FORM's CARD OF 'laws.FnExactNearestWords'. -/
def fnExactNearestWordsUptoCard : Claim7 := { stood := { row := fnExactNearestWordsUptoRow, standIns := [], harness := (true, "f7a8f0b0a8ebe6116bd847de1e23082415b6a2e67e2b3d2d44827f78c58abfdc"), looks := false }, kinds := [], alts := [], laidByText := true, laidKinds := [.data, .pinned], laidTests := true, laidLooks := .later }
def FnExactNearestWordsUptoCardSaid : Prop := Claim7.holds Tryd.pinned (.plain (OpenSpec.upto fnExactNearestWordsSpec)) fnExactNearestWordsUptoCard
end Rows
end Go.Proofs.YtamhlbdjjfdbiaaDoor
