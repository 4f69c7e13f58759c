/-
  DERIVED. GIVEN WITH THE SEED: THE CARDS: each row of YtkbgfaeohmnjpaaDoorRows.lean that lists a variable, with what it lists TIED to the program's text (the seventh form; the later family's looks); each row that meets fmt, with fmt's text TOLD by the authors' own Lean function (tested against real Go, not proved from fmt's source: count such statements apart). THE CARD IS WHAT COUNTS. Prove the row's statement (the work); the ties are given (YtkbgfaeohmnjpaaDoorTie.lean); close each card by the builder's one call (the guide's Derived/Test/ToyasCard.lean, 'card_holds'). Laid BY PROGRAM, IN A SANDBOX (cutbox-door.mjs). By AI agents, Wed Nov 11 2026. No macro, syntax, notation, axiom, sorry.
-/
import Derived.Test.YtkbgfaeohmnjpaaDoorRows
import GoSem.ClaimSeven
namespace Go.Proofs.YtkbgfaeohmnjpaaDoor
namespace Rows

/-- THE TIED CARD OF 'laws.FnExactKeyDistances'. -/
def fnExactKeyDistancesCard : Claim7 := { stood := { row := fnExactKeyDistancesRow, standIns := [], harness := (true, "f1359b9733b28c68ff5911f94ef50e19626b008ed7952287efa7b5444ce02548"), looks := false }, kinds := [], alts := [], laidByText := true, laidKinds := [.data, .pinned], laidTests := true, laidLooks := .later }
def FnExactKeyDistancesCardSaid : Prop := Claim7.holds Tryd.pinned (.plain (OpenSpec.ofChange fnExactKeyDistancesSpec)) fnExactKeyDistancesCard

/-- THE TIED CARD OF 'laws.FnExactReachedKeys'. -/
def fnExactReachedKeysCard : Claim7 := { stood := { row := fnExactReachedKeysRow, standIns := [], harness := (true, "f1359b9733b28c68ff5911f94ef50e19626b008ed7952287efa7b5444ce02548"), looks := false }, kinds := [], alts := [], laidByText := true, laidKinds := [.data, .pinned], laidTests := true, laidLooks := .later }
def FnExactReachedKeysCardSaid : Prop := Claim7.holds Tryd.pinned (.plain (OpenSpec.ofChange fnExactReachedKeysSpec)) fnExactReachedKeysCard

/-- THE TIED CARD OF 'laws.FnExactFirstWalk'. -/
def fnExactFirstWalkCard : Claim7 := { stood := { row := fnExactFirstWalkRow, standIns := [], harness := (true, "f1359b9733b28c68ff5911f94ef50e19626b008ed7952287efa7b5444ce02548"), looks := false }, kinds := [], alts := [], laidByText := true, laidKinds := [.data, .pinned], laidTests := true, laidLooks := .later }
def FnExactFirstWalkCardSaid : Prop := Claim7.holds Tryd.pinned (.plain (OpenSpec.ofChange fnExactFirstWalkSpec)) fnExactFirstWalkCard

/-- THE TIED CARD OF 'laws.FnExactCountShortest'. -/
def fnExactCountShortestCard : Claim7 := { stood := { row := fnExactCountShortestRow, standIns := [], harness := (true, "f1359b9733b28c68ff5911f94ef50e19626b008ed7952287efa7b5444ce02548"), looks := false }, kinds := [], alts := [], laidByText := true, laidKinds := [.data, .pinned], laidTests := true, laidLooks := .later }
def FnExactCountShortestCardSaid : Prop := Claim7.holds Tryd.pinned (.plain (OpenSpec.ofChange fnExactCountShortestSpec)) fnExactCountShortestCard

/-- THE TIED CARD OF 'laws.FnExactCountOnce'. -/
def fnExactCountOnceCard : Claim7 := { stood := { row := fnExactCountOnceRow, standIns := [], harness := (true, "f1359b9733b28c68ff5911f94ef50e19626b008ed7952287efa7b5444ce02548"), looks := false }, kinds := [], alts := [], laidByText := true, laidKinds := [.data, .pinned], laidTests := true, laidLooks := .later }
def FnExactCountOnceCardSaid : Prop := Claim7.holds Tryd.pinned (.plain (OpenSpec.ofChange fnExactCountOnceSpec)) fnExactCountOnceCard

/-- THE TIED CARD OF 'laws.FnExactLongestOnce'. -/
def fnExactLongestOnceCard : Claim7 := { stood := { row := fnExactLongestOnceRow, standIns := [], harness := (true, "f1359b9733b28c68ff5911f94ef50e19626b008ed7952287efa7b5444ce02548"), looks := false }, kinds := [], alts := [], laidByText := true, laidKinds := [.data, .pinned], laidTests := true, laidLooks := .later }
def FnExactLongestOnceCardSaid : Prop := Claim7.holds Tryd.pinned (.plain (OpenSpec.ofChange fnExactLongestOnceSpec)) fnExactLongestOnceCard

/-- THE TIED CARD OF 'laws.FnExactWhoDials'. -/
def fnExactWhoDialsCard : Claim7 := { stood := { row := fnExactWhoDialsRow, standIns := [], harness := (true, "f1359b9733b28c68ff5911f94ef50e19626b008ed7952287efa7b5444ce02548"), looks := false }, kinds := [], alts := [], laidByText := true, laidKinds := [.data, .pinned], laidTests := true, laidLooks := .later }
def FnExactWhoDialsCardSaid : Prop := Claim7.holds Tryd.pinned (.plain (OpenSpec.ofChange fnExactWhoDialsSpec)) fnExactWhoDialsCard

/-- THE SECOND FORM's CARD OF 'laws.FnExactKeyDistances'. -/
def fnExactKeyDistancesUptoCard : Claim7 := { stood := { row := fnExactKeyDistancesUptoRow, standIns := [], harness := (true, "f1359b9733b28c68ff5911f94ef50e19626b008ed7952287efa7b5444ce02548"), looks := false }, kinds := [], alts := [], laidByText := true, laidKinds := [.data, .pinned], laidTests := true, laidLooks := .later }
def FnExactKeyDistancesUptoCardSaid : Prop := Claim7.holds Tryd.pinned (.plain (OpenSpec.upto fnExactKeyDistancesSpec)) fnExactKeyDistancesUptoCard

/-- THE SECOND FORM's CARD OF 'laws.FnExactReachedKeys'. -/
def fnExactReachedKeysUptoCard : Claim7 := { stood := { row := fnExactReachedKeysUptoRow, standIns := [], harness := (true, "f1359b9733b28c68ff5911f94ef50e19626b008ed7952287efa7b5444ce02548"), looks := false }, kinds := [], alts := [], laidByText := true, laidKinds := [.data, .pinned], laidTests := true, laidLooks := .later }
def FnExactReachedKeysUptoCardSaid : Prop := Claim7.holds Tryd.pinned (.plain (OpenSpec.upto fnExactReachedKeysSpec)) fnExactReachedKeysUptoCard

/-- THE SECOND FORM's CARD OF 'laws.FnExactFirstWalk'. -/
def fnExactFirstWalkUptoCard : Claim7 := { stood := { row := fnExactFirstWalkUptoRow, standIns := [], harness := (true, "f1359b9733b28c68ff5911f94ef50e19626b008ed7952287efa7b5444ce02548"), looks := false }, kinds := [], alts := [], laidByText := true, laidKinds := [.data, .pinned], laidTests := true, laidLooks := .later }
def FnExactFirstWalkUptoCardSaid : Prop := Claim7.holds Tryd.pinned (.plain (OpenSpec.upto fnExactFirstWalkSpec)) fnExactFirstWalkUptoCard

/-- THE SECOND FORM's CARD OF 'laws.FnExactCountShortest'. -/
def fnExactCountShortestUptoCard : Claim7 := { stood := { row := fnExactCountShortestUptoRow, standIns := [], harness := (true, "f1359b9733b28c68ff5911f94ef50e19626b008ed7952287efa7b5444ce02548"), looks := false }, kinds := [], alts := [], laidByText := true, laidKinds := [.data, .pinned], laidTests := true, laidLooks := .later }
def FnExactCountShortestUptoCardSaid : Prop := Claim7.holds Tryd.pinned (.plain (OpenSpec.upto fnExactCountShortestSpec)) fnExactCountShortestUptoCard

/-- THE SECOND FORM's CARD OF 'laws.FnExactCountOnce'. -/
def fnExactCountOnceUptoCard : Claim7 := { stood := { row := fnExactCountOnceUptoRow, standIns := [], harness := (true, "f1359b9733b28c68ff5911f94ef50e19626b008ed7952287efa7b5444ce02548"), looks := false }, kinds := [], alts := [], laidByText := true, laidKinds := [.data, .pinned], laidTests := true, laidLooks := .later }
def FnExactCountOnceUptoCardSaid : Prop := Claim7.holds Tryd.pinned (.plain (OpenSpec.upto fnExactCountOnceSpec)) fnExactCountOnceUptoCard

/-- THE SECOND FORM's CARD OF 'laws.FnExactLongestOnce'. -/
def fnExactLongestOnceUptoCard : Claim7 := { stood := { row := fnExactLongestOnceUptoRow, standIns := [], harness := (true, "f1359b9733b28c68ff5911f94ef50e19626b008ed7952287efa7b5444ce02548"), looks := false }, kinds := [], alts := [], laidByText := true, laidKinds := [.data, .pinned], laidTests := true, laidLooks := .later }
def FnExactLongestOnceUptoCardSaid : Prop := Claim7.holds Tryd.pinned (.plain (OpenSpec.upto fnExactLongestOnceSpec)) fnExactLongestOnceUptoCard

/-- THE SECOND FORM's CARD OF 'laws.FnExactWhoDials'. -/
def fnExactWhoDialsUptoCard : Claim7 := { stood := { row := fnExactWhoDialsUptoRow, standIns := [], harness := (true, "f1359b9733b28c68ff5911f94ef50e19626b008ed7952287efa7b5444ce02548"), looks := false }, kinds := [], alts := [], laidByText := true, laidKinds := [.data, .pinned], laidTests := true, laidLooks := .later }
def FnExactWhoDialsUptoCardSaid : Prop := Claim7.holds Tryd.pinned (.plain (OpenSpec.upto fnExactWhoDialsSpec)) fnExactWhoDialsUptoCard
end Rows
end Go.Proofs.YtkbgfaeohmnjpaaDoor
