/-
  DERIVED. GIVEN WITH THE SEED: THE CARDS: each row of YtjjmbinhagaifaaDoorRows.lean that lists a variable, with what it lists TIED to the program's text (the seventh form; the later family's looks); each row that meets fmt, with fmt's text TOLD by the authors' own Lean function (tested against real Go, not proved from fmt's source: count such statements apart). THE CARD IS WHAT COUNTS. Prove the row's statement (the work); the ties are given (YtjjmbinhagaifaaDoorTie.lean); close each card by the builder's one call (the guide's Derived/Test/ToyasCard.lean, 'card_holds'). Laid BY PROGRAM, IN A SANDBOX (cutbox-door.mjs). By AI agents, Wed Nov 11 2026. No macro, syntax, notation, axiom, sorry.
-/
import Derived.Test.YtjjmbinhagaifaaDoorRows
import GoSem.ClaimSeven
namespace Go.Proofs.YtjjmbinhagaifaaDoor
namespace Rows

/-- THE TIED CARD OF 'laws.FnExactCountDrawn'. -/
def fnExactCountDrawnCard : Claim7 := { stood := { row := fnExactCountDrawnRow, standIns := [], harness := (true, "b9d15427ed251242a914b83faedb5cb33e9c8a368ba58045d4002b94443799b4"), looks := false }, kinds := [], alts := [], laidByText := true, laidKinds := [.data, .pinned], laidTests := true, laidLooks := .later }
def FnExactCountDrawnCardSaid : Prop := Claim7.holds Tryd.pinned (.plain (OpenSpec.ofChange fnExactCountDrawnSpec)) fnExactCountDrawnCard

/-- THE TIED CARD OF 'laws.FnExactFirstDrawn'. -/
def fnExactFirstDrawnCard : Claim7 := { stood := { row := fnExactFirstDrawnRow, standIns := [], harness := (true, "b9d15427ed251242a914b83faedb5cb33e9c8a368ba58045d4002b94443799b4"), looks := false }, kinds := [], alts := [], laidByText := true, laidKinds := [.data, .pinned], laidTests := true, laidLooks := .later }
def FnExactFirstDrawnCardSaid : Prop := Claim7.holds Tryd.pinned (.plain (OpenSpec.ofChange fnExactFirstDrawnSpec)) fnExactFirstDrawnCard

/-- THE TIED CARD OF 'laws.FnExactIsDrawn'. -/
def fnExactIsDrawnCard : Claim7 := { stood := { row := fnExactIsDrawnRow, standIns := [], harness := (true, "b9d15427ed251242a914b83faedb5cb33e9c8a368ba58045d4002b94443799b4"), looks := false }, kinds := [], alts := [], laidByText := true, laidKinds := [.data, .pinned], laidTests := true, laidLooks := .later }
def FnExactIsDrawnCardSaid : Prop := Claim7.holds Tryd.pinned (.plain (OpenSpec.ofChange fnExactIsDrawnSpec)) fnExactIsDrawnCard

/-- THE TIED CARD OF 'laws.FnExactNextPoints'. -/
def fnExactNextPointsCard : Claim7 := { stood := { row := fnExactNextPointsRow, standIns := [], harness := (true, "b9d15427ed251242a914b83faedb5cb33e9c8a368ba58045d4002b94443799b4"), looks := false }, kinds := [], alts := [], laidByText := true, laidKinds := [.data, .pinned], laidTests := true, laidLooks := .later }
def FnExactNextPointsCardSaid : Prop := Claim7.holds Tryd.pinned (.plain (OpenSpec.ofChange fnExactNextPointsSpec)) fnExactNextPointsCard

/-- THE TIED CARD OF 'laws.FnExactMirrorDrawn'. -/
def fnExactMirrorDrawnCard : Claim7 := { stood := { row := fnExactMirrorDrawnRow, standIns := [], harness := (true, "b9d15427ed251242a914b83faedb5cb33e9c8a368ba58045d4002b94443799b4"), looks := false }, kinds := [], alts := [], laidByText := true, laidKinds := [.data, .pinned], laidTests := true, laidLooks := .later }
def FnExactMirrorDrawnCardSaid : Prop := Claim7.holds Tryd.pinned (.plain (OpenSpec.ofChange fnExactMirrorDrawnSpec)) fnExactMirrorDrawnCard

/-- THE TIED CARD OF 'laws.FnExactCountWorn'. -/
def fnExactCountWornCard : Claim7 := { stood := { row := fnExactCountWornRow, standIns := [], harness := (true, "b9d15427ed251242a914b83faedb5cb33e9c8a368ba58045d4002b94443799b4"), looks := false }, kinds := [], alts := [], laidByText := true, laidKinds := [.data, .pinned], laidTests := true, laidLooks := .later }
def FnExactCountWornCardSaid : Prop := Claim7.holds Tryd.pinned (.plain (OpenSpec.ofChange fnExactCountWornSpec)) fnExactCountWornCard

/-- THE SECOND FORM's CARD OF 'laws.FnExactCountDrawn'. -/
def fnExactCountDrawnUptoCard : Claim7 := { stood := { row := fnExactCountDrawnUptoRow, standIns := [], harness := (true, "b9d15427ed251242a914b83faedb5cb33e9c8a368ba58045d4002b94443799b4"), looks := false }, kinds := [], alts := [], laidByText := true, laidKinds := [.data, .pinned], laidTests := true, laidLooks := .later }
def FnExactCountDrawnUptoCardSaid : Prop := Claim7.holds Tryd.pinned (.plain (OpenSpec.upto fnExactCountDrawnSpec)) fnExactCountDrawnUptoCard

/-- THE SECOND FORM's CARD OF 'laws.FnExactFirstDrawn'. -/
def fnExactFirstDrawnUptoCard : Claim7 := { stood := { row := fnExactFirstDrawnUptoRow, standIns := [], harness := (true, "b9d15427ed251242a914b83faedb5cb33e9c8a368ba58045d4002b94443799b4"), looks := false }, kinds := [], alts := [], laidByText := true, laidKinds := [.data, .pinned], laidTests := true, laidLooks := .later }
def FnExactFirstDrawnUptoCardSaid : Prop := Claim7.holds Tryd.pinned (.plain (OpenSpec.upto fnExactFirstDrawnSpec)) fnExactFirstDrawnUptoCard

/-- THE SECOND FORM's CARD OF 'laws.FnExactIsDrawn'. -/
def fnExactIsDrawnUptoCard : Claim7 := { stood := { row := fnExactIsDrawnUptoRow, standIns := [], harness := (true, "b9d15427ed251242a914b83faedb5cb33e9c8a368ba58045d4002b94443799b4"), looks := false }, kinds := [], alts := [], laidByText := true, laidKinds := [.data, .pinned], laidTests := true, laidLooks := .later }
def FnExactIsDrawnUptoCardSaid : Prop := Claim7.holds Tryd.pinned (.plain (OpenSpec.upto fnExactIsDrawnSpec)) fnExactIsDrawnUptoCard

/-- THE SECOND FORM's CARD OF 'laws.FnExactNextPoints'. -/
def fnExactNextPointsUptoCard : Claim7 := { stood := { row := fnExactNextPointsUptoRow, standIns := [], harness := (true, "b9d15427ed251242a914b83faedb5cb33e9c8a368ba58045d4002b94443799b4"), looks := false }, kinds := [], alts := [], laidByText := true, laidKinds := [.data, .pinned], laidTests := true, laidLooks := .later }
def FnExactNextPointsUptoCardSaid : Prop := Claim7.holds Tryd.pinned (.plain (OpenSpec.upto fnExactNextPointsSpec)) fnExactNextPointsUptoCard

/-- THE SECOND FORM's CARD OF 'laws.FnExactMirrorDrawn'. -/
def fnExactMirrorDrawnUptoCard : Claim7 := { stood := { row := fnExactMirrorDrawnUptoRow, standIns := [], harness := (true, "b9d15427ed251242a914b83faedb5cb33e9c8a368ba58045d4002b94443799b4"), looks := false }, kinds := [], alts := [], laidByText := true, laidKinds := [.data, .pinned], laidTests := true, laidLooks := .later }
def FnExactMirrorDrawnUptoCardSaid : Prop := Claim7.holds Tryd.pinned (.plain (OpenSpec.upto fnExactMirrorDrawnSpec)) fnExactMirrorDrawnUptoCard

/-- THE SECOND FORM's CARD OF 'laws.FnExactCountWorn'. -/
def fnExactCountWornUptoCard : Claim7 := { stood := { row := fnExactCountWornUptoRow, standIns := [], harness := (true, "b9d15427ed251242a914b83faedb5cb33e9c8a368ba58045d4002b94443799b4"), looks := false }, kinds := [], alts := [], laidByText := true, laidKinds := [.data, .pinned], laidTests := true, laidLooks := .later }
def FnExactCountWornUptoCardSaid : Prop := Claim7.holds Tryd.pinned (.plain (OpenSpec.upto fnExactCountWornSpec)) fnExactCountWornUptoCard
end Rows
end Go.Proofs.YtjjmbinhagaifaaDoor
