/-
  DERIVED. GIVEN WITH THE SEED: THE CARDS: each row of YtbichbiiephmhaaDoorRows.lean that lists a variable, with what it lists TIED to the program's text (the seventh form; the later family's looks); each row that meets fmt, with fmt's text TOLD by the authors' own Lean function (tested against real Go, not proved from fmt's source: count such statements apart). THE CARD IS WHAT COUNTS. Prove the row's statement (the work); the ties are given (YtbichbiiephmhaaDoorTie.lean); close each card by the builder's one call (the guide's Derived/Test/ToyasCard.lean, 'card_holds'). Laid BY PROGRAM, IN A SANDBOX (cutbox-door.mjs). By AI agents, Wed Nov 11 2026. No macro, syntax, notation, axiom, sorry.
-/
import Derived.Test.YtbichbiiephmhaaDoorRows
import GoSem.ClaimSeven
namespace Go.Proofs.YtbichbiiephmhaaDoor
namespace Rows

/-- THE TIED CARD OF 'laws.FnExactMirrorWalk'. -/
def fnExactMirrorWalkCard : Claim7 := { stood := { row := fnExactMirrorWalkRow, standIns := [], harness := (true, "60c4429d754dc42039e1069a9847a88d69239606673fb917d8fd30c9a49ea671"), looks := false }, kinds := [], alts := [], laidByText := true, laidKinds := [.data, .pinned], laidTests := true, laidLooks := .later }
def FnExactMirrorWalkCardSaid : Prop := Claim7.holds Tryd.pinned (.plain (OpenSpec.ofChange fnExactMirrorWalkSpec)) fnExactMirrorWalkCard

/-- THE TIED CARD OF 'laws.FnExactNextKeys'. -/
def fnExactNextKeysCard : Claim7 := { stood := { row := fnExactNextKeysRow, standIns := [], harness := (true, "60c4429d754dc42039e1069a9847a88d69239606673fb917d8fd30c9a49ea671"), looks := false }, kinds := [], alts := [], laidByText := true, laidKinds := [.data, .pinned], laidTests := true, laidLooks := .later }
def FnExactNextKeysCardSaid : Prop := Claim7.holds Tryd.pinned (.plain (OpenSpec.ofChange fnExactNextKeysSpec)) fnExactNextKeysCard

/-- THE TIED CARD OF 'laws.FnExactIsWalk'. -/
def fnExactIsWalkCard : Claim7 := { stood := { row := fnExactIsWalkRow, standIns := [], harness := (true, "60c4429d754dc42039e1069a9847a88d69239606673fb917d8fd30c9a49ea671"), looks := false }, kinds := [], alts := [], laidByText := true, laidKinds := [.data, .pinned], laidTests := true, laidLooks := .later }
def FnExactIsWalkCardSaid : Prop := Claim7.holds Tryd.pinned (.plain (OpenSpec.ofChange fnExactIsWalkSpec)) fnExactIsWalkCard

/-- THE TIED CARD OF 'laws.FnExactWhoDials'. -/
def fnExactWhoDialsCard : Claim7 := { stood := { row := fnExactWhoDialsRow, standIns := [], harness := (true, "60c4429d754dc42039e1069a9847a88d69239606673fb917d8fd30c9a49ea671"), looks := false }, kinds := [], alts := [], laidByText := true, laidKinds := [.data, .pinned], laidTests := true, laidLooks := .later }
def FnExactWhoDialsCardSaid : Prop := Claim7.holds Tryd.pinned (.plain (OpenSpec.ofChange fnExactWhoDialsSpec)) fnExactWhoDialsCard

/-- THE TIED CARD OF 'laws.FnExactCountNumbers'. -/
def fnExactCountNumbersCard : Claim7 := { stood := { row := fnExactCountNumbersRow, standIns := [], harness := (true, "60c4429d754dc42039e1069a9847a88d69239606673fb917d8fd30c9a49ea671"), looks := false }, kinds := [], alts := [], laidByText := true, laidKinds := [.data, .pinned], laidTests := true, laidLooks := .later }
def FnExactCountNumbersCardSaid : Prop := Claim7.holds Tryd.pinned (.plain (OpenSpec.ofChange fnExactCountNumbersSpec)) fnExactCountNumbersCard

/-- THE TIED CARD OF 'laws.FnExactCountBetween'. -/
def fnExactCountBetweenCard : Claim7 := { stood := { row := fnExactCountBetweenRow, standIns := [], harness := (true, "60c4429d754dc42039e1069a9847a88d69239606673fb917d8fd30c9a49ea671"), looks := false }, kinds := [], alts := [], laidByText := true, laidKinds := [.data, .pinned], laidTests := true, laidLooks := .later }
def FnExactCountBetweenCardSaid : Prop := Claim7.holds Tryd.pinned (.plain (OpenSpec.ofChange fnExactCountBetweenSpec)) fnExactCountBetweenCard

/-- THE TIED CARD OF 'laws.FnExactCountRounds'. -/
def fnExactCountRoundsCard : Claim7 := { stood := { row := fnExactCountRoundsRow, standIns := [], harness := (true, "60c4429d754dc42039e1069a9847a88d69239606673fb917d8fd30c9a49ea671"), looks := false }, kinds := [], alts := [], laidByText := true, laidKinds := [.data, .pinned], laidTests := true, laidLooks := .later }
def FnExactCountRoundsCardSaid : Prop := Claim7.holds Tryd.pinned (.plain (OpenSpec.ofChange fnExactCountRoundsSpec)) fnExactCountRoundsCard

/-- THE TIED CARD OF 'laws.FnExactNumberOfRank'. -/
def fnExactNumberOfRankCard : Claim7 := { stood := { row := fnExactNumberOfRankRow, standIns := [], harness := (true, "60c4429d754dc42039e1069a9847a88d69239606673fb917d8fd30c9a49ea671"), looks := false }, kinds := [], alts := [], laidByText := true, laidKinds := [.data, .pinned], laidTests := true, laidLooks := .later }
def FnExactNumberOfRankCardSaid : Prop := Claim7.holds Tryd.pinned (.plain (OpenSpec.ofChange fnExactNumberOfRankSpec)) fnExactNumberOfRankCard

/-- THE TIED CARD OF 'laws.FnExactRankOfNumber'. -/
def fnExactRankOfNumberCard : Claim7 := { stood := { row := fnExactRankOfNumberRow, standIns := [], harness := (true, "60c4429d754dc42039e1069a9847a88d69239606673fb917d8fd30c9a49ea671"), looks := false }, kinds := [], alts := [], laidByText := true, laidKinds := [.data, .pinned], laidTests := true, laidLooks := .later }
def FnExactRankOfNumberCardSaid : Prop := Claim7.holds Tryd.pinned (.plain (OpenSpec.ofChange fnExactRankOfNumberSpec)) fnExactRankOfNumberCard

/-- THE SECOND FORM's CARD OF 'laws.FnExactMirrorWalk'. -/
def fnExactMirrorWalkUptoCard : Claim7 := { stood := { row := fnExactMirrorWalkUptoRow, standIns := [], harness := (true, "60c4429d754dc42039e1069a9847a88d69239606673fb917d8fd30c9a49ea671"), looks := false }, kinds := [], alts := [], laidByText := true, laidKinds := [.data, .pinned], laidTests := true, laidLooks := .later }
def FnExactMirrorWalkUptoCardSaid : Prop := Claim7.holds Tryd.pinned (.plain (OpenSpec.upto fnExactMirrorWalkSpec)) fnExactMirrorWalkUptoCard

/-- THE SECOND FORM's CARD OF 'laws.FnExactNextKeys'. -/
def fnExactNextKeysUptoCard : Claim7 := { stood := { row := fnExactNextKeysUptoRow, standIns := [], harness := (true, "60c4429d754dc42039e1069a9847a88d69239606673fb917d8fd30c9a49ea671"), looks := false }, kinds := [], alts := [], laidByText := true, laidKinds := [.data, .pinned], laidTests := true, laidLooks := .later }
def FnExactNextKeysUptoCardSaid : Prop := Claim7.holds Tryd.pinned (.plain (OpenSpec.upto fnExactNextKeysSpec)) fnExactNextKeysUptoCard

/-- THE SECOND FORM's CARD OF 'laws.FnExactIsWalk'. -/
def fnExactIsWalkUptoCard : Claim7 := { stood := { row := fnExactIsWalkUptoRow, standIns := [], harness := (true, "60c4429d754dc42039e1069a9847a88d69239606673fb917d8fd30c9a49ea671"), looks := false }, kinds := [], alts := [], laidByText := true, laidKinds := [.data, .pinned], laidTests := true, laidLooks := .later }
def FnExactIsWalkUptoCardSaid : Prop := Claim7.holds Tryd.pinned (.plain (OpenSpec.upto fnExactIsWalkSpec)) fnExactIsWalkUptoCard

/-- THE SECOND FORM's CARD OF 'laws.FnExactWhoDials'. -/
def fnExactWhoDialsUptoCard : Claim7 := { stood := { row := fnExactWhoDialsUptoRow, standIns := [], harness := (true, "60c4429d754dc42039e1069a9847a88d69239606673fb917d8fd30c9a49ea671"), looks := false }, kinds := [], alts := [], laidByText := true, laidKinds := [.data, .pinned], laidTests := true, laidLooks := .later }
def FnExactWhoDialsUptoCardSaid : Prop := Claim7.holds Tryd.pinned (.plain (OpenSpec.upto fnExactWhoDialsSpec)) fnExactWhoDialsUptoCard

/-- THE SECOND FORM's CARD OF 'laws.FnExactCountNumbers'. -/
def fnExactCountNumbersUptoCard : Claim7 := { stood := { row := fnExactCountNumbersUptoRow, standIns := [], harness := (true, "60c4429d754dc42039e1069a9847a88d69239606673fb917d8fd30c9a49ea671"), looks := false }, kinds := [], alts := [], laidByText := true, laidKinds := [.data, .pinned], laidTests := true, laidLooks := .later }
def FnExactCountNumbersUptoCardSaid : Prop := Claim7.holds Tryd.pinned (.plain (OpenSpec.upto fnExactCountNumbersSpec)) fnExactCountNumbersUptoCard

/-- THE SECOND FORM's CARD OF 'laws.FnExactCountBetween'. -/
def fnExactCountBetweenUptoCard : Claim7 := { stood := { row := fnExactCountBetweenUptoRow, standIns := [], harness := (true, "60c4429d754dc42039e1069a9847a88d69239606673fb917d8fd30c9a49ea671"), looks := false }, kinds := [], alts := [], laidByText := true, laidKinds := [.data, .pinned], laidTests := true, laidLooks := .later }
def FnExactCountBetweenUptoCardSaid : Prop := Claim7.holds Tryd.pinned (.plain (OpenSpec.upto fnExactCountBetweenSpec)) fnExactCountBetweenUptoCard

/-- THE SECOND FORM's CARD OF 'laws.FnExactCountRounds'. -/
def fnExactCountRoundsUptoCard : Claim7 := { stood := { row := fnExactCountRoundsUptoRow, standIns := [], harness := (true, "60c4429d754dc42039e1069a9847a88d69239606673fb917d8fd30c9a49ea671"), looks := false }, kinds := [], alts := [], laidByText := true, laidKinds := [.data, .pinned], laidTests := true, laidLooks := .later }
def FnExactCountRoundsUptoCardSaid : Prop := Claim7.holds Tryd.pinned (.plain (OpenSpec.upto fnExactCountRoundsSpec)) fnExactCountRoundsUptoCard

/-- THE SECOND FORM's CARD OF 'laws.FnExactNumberOfRank'. -/
def fnExactNumberOfRankUptoCard : Claim7 := { stood := { row := fnExactNumberOfRankUptoRow, standIns := [], harness := (true, "60c4429d754dc42039e1069a9847a88d69239606673fb917d8fd30c9a49ea671"), looks := false }, kinds := [], alts := [], laidByText := true, laidKinds := [.data, .pinned], laidTests := true, laidLooks := .later }
def FnExactNumberOfRankUptoCardSaid : Prop := Claim7.holds Tryd.pinned (.plain (OpenSpec.upto fnExactNumberOfRankSpec)) fnExactNumberOfRankUptoCard

/-- THE SECOND FORM's CARD OF 'laws.FnExactRankOfNumber'. -/
def fnExactRankOfNumberUptoCard : Claim7 := { stood := { row := fnExactRankOfNumberUptoRow, standIns := [], harness := (true, "60c4429d754dc42039e1069a9847a88d69239606673fb917d8fd30c9a49ea671"), looks := false }, kinds := [], alts := [], laidByText := true, laidKinds := [.data, .pinned], laidTests := true, laidLooks := .later }
def FnExactRankOfNumberUptoCardSaid : Prop := Claim7.holds Tryd.pinned (.plain (OpenSpec.upto fnExactRankOfNumberSpec)) fnExactRankOfNumberUptoCard
end Rows
end Go.Proofs.YtbichbiiephmhaaDoor
