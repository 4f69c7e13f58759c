/-
  NARROWER THAN 'FOR EVERY INPUT', by the rows' own cells (each row's printed sentence says how): FnExactMirrorWalk: laid · FnExactNextKeys: laid · FnExactIsWalk: laid · FnExactWhoDials: laid · FnExactCountNumbers: laid · FnExactCountBetween: laid · FnExactCountRounds: laid · FnExactNumberOfRank: laid · FnExactRankOfNumber: laid.
  DERIVED. THE GIVEN ROWS OF THIS SEAT. 9 by the template 'for every input the law returns true; each argument reads behind the call as it read before'; 0 by the template 'total and deterministic' (their statements: YtbichbiiephmhaaDoorTotals.lean).
  GIVEN WITH THE SEED: the statements are not yours to turn. If you find one false, say at which input.
  Laid BY PROGRAM, IN A SANDBOX (cutbox-rows.mjs): the forced cells as the released guide's own fill.sh prints them over the translation d4f0cade8644fa5b… (all of the seat's roots in one cut). By AI agents, Wed Nov 11 2026. No macro, syntax, notation, axiom, sorry.
-/
import Derived.Test.YtbichbiiephmhaaDoorChecked
import GoSem.PinnedTables
import GoSem.Claim
import GoSem.ClaimJoined
import GoSem.ClaimMapViews
import Derived.JoinedTies
import Derived.KernelRfl
namespace Go.Proofs.YtbichbiiephmhaaDoor
/- THE CELL 'sum', in the pinned program and in every row, IS THE sha256 OF THE DUMP (.gsa) THAT YtbichbiiephmhaaDoorProg.lean LOADS. Nothing in Lean hashes anything: it is a label: what it is worth is what the hold of that sum in a sandbox is worth. -/
noncomputable def Tryd.pinned : Pinned := { name := "ytbichbiiephmhaadoor", sum := "d4f0cade8644fa5b4cc321927819fe50d289ec798dfdbd7c61ad7de56884b5d3", checked := Tryd.checked }
namespace Rows
def none {H : Type} : Left H := { results := [], args := [] }

/- WHAT THE LISTED PACKAGE-LEVEL VARIABLES READ AS WHEN THE CALL BEGINS. Each datum BY PROGRAM (the guide's laid-datum.mjs) off the statement by which the dump's own 'gosem.cut.vars' lays the variable. In a bare row this is a premise. The card (YtbichbiiephmhaaDoorCards.lean) ties it to the program's text. -/
def laid_unicode_utf8_acceptRanges {H : Type} : DataW H := .agg [.agg [.lit (.int .u8 128), .lit (.int .u8 191)], .agg [.lit (.int .u8 160), .lit (.int .u8 191)], .agg [.lit (.int .u8 128), .lit (.int .u8 159)], .agg [.lit (.int .u8 144), .lit (.int .u8 191)], .agg [.lit (.int .u8 128), .lit (.int .u8 143)], .agg [.lit (.int .u8 0), .lit (.int .u8 0)], .agg [.lit (.int .u8 0), .lit (.int .u8 0)], .agg [.lit (.int .u8 0), .lit (.int .u8 0)], .agg [.lit (.int .u8 0), .lit (.int .u8 0)], .agg [.lit (.int .u8 0), .lit (.int .u8 0)], .agg [.lit (.int .u8 0), .lit (.int .u8 0)], .agg [.lit (.int .u8 0), .lit (.int .u8 0)], .agg [.lit (.int .u8 0), .lit (.int .u8 0)], .agg [.lit (.int .u8 0), .lit (.int .u8 0)], .agg [.lit (.int .u8 0), .lit (.int .u8 0)], .agg [.lit (.int .u8 0), .lit (.int .u8 0)]]
/-- One of Go's own tables, pinned by name: the form's constant. -/
def laid_unicode_utf8_first : DataW Unit := Go.Pinned.utf8First

/-- 'laws.FnExactMirrorWalk': WHATEVER THE INPUT: true; the input reads as it did. -/
def fnExactMirrorWalkSpec : ChangeSpec := { name := "fnExactMirrorWalk", fn := fun _ => fun
  | [d] => { results := [.lit (.bool true)], args := [d] }
  | _ => none }
def fnExactMirrorWalkRow : OpenClaim := { program := "ytbichbiiephmhaadoor", sum := "d4f0cade8644fa5b4cc321927819fe50d289ec798dfdbd7c61ad7de56884b5d3", func := "loop.example/g01350/laws.FnExactMirrorWalk", spec := "fnExactMirrorWalk", inPlace := ["internal/bytealg.IndexByteString", "internal/bytealg.IndexString"], named := ["unicode/utf8.first", "unicode/utf8.acceptRanges", "internal/bytealg.MaxLen"], apart := false, laid := [("unicode/utf8.acceptRanges", laid_unicode_utf8_acceptRanges), ("unicode/utf8.first", laid_unicode_utf8_first)] }
def FnExactMirrorWalkSaid : Prop := fnExactMirrorWalkRow.holds Tryd.pinned (OpenSpec.ofChange fnExactMirrorWalkSpec)

/-- ITS FALSE NEIGHBOUR: 'it returns false'. Refute it at one input. -/
def fnExactMirrorWalkWrong : ChangeSpec := { name := "fnExactMirrorWalk", fn := fun _ => fun
  | [d] => { results := [.lit (.bool false)], args := [d] }
  | _ => none }
def FnExactMirrorWalkWrongFalsely : Prop := fnExactMirrorWalkRow.holds Tryd.pinned (OpenSpec.ofChange fnExactMirrorWalkWrong)

/-- 'laws.FnExactNextKeys': WHATEVER THE INPUT: true; the input reads as it did. -/
def fnExactNextKeysSpec : ChangeSpec := { name := "fnExactNextKeys", fn := fun _ => fun
  | [d1, d2] => { results := [.lit (.bool true)], args := [d1, d2] }
  | _ => none }
def fnExactNextKeysRow : OpenClaim := { program := "ytbichbiiephmhaadoor", sum := "d4f0cade8644fa5b4cc321927819fe50d289ec798dfdbd7c61ad7de56884b5d3", func := "loop.example/g01350/laws.FnExactNextKeys", spec := "fnExactNextKeys", inPlace := ["internal/bytealg.IndexByteString", "internal/bytealg.IndexString"], recurses := true, named := ["internal/bytealg.MaxLen", "unicode/utf8.first", "unicode/utf8.acceptRanges"], apart := false, laid := [("unicode/utf8.acceptRanges", laid_unicode_utf8_acceptRanges), ("unicode/utf8.first", laid_unicode_utf8_first)] }
def FnExactNextKeysSaid : Prop := fnExactNextKeysRow.holds Tryd.pinned (OpenSpec.ofChange fnExactNextKeysSpec)

/-- ITS FALSE NEIGHBOUR: 'it returns false'. Refute it at one input. -/
def fnExactNextKeysWrong : ChangeSpec := { name := "fnExactNextKeys", fn := fun _ => fun
  | [d1, d2] => { results := [.lit (.bool false)], args := [d1, d2] }
  | _ => none }
def FnExactNextKeysWrongFalsely : Prop := fnExactNextKeysRow.holds Tryd.pinned (OpenSpec.ofChange fnExactNextKeysWrong)

/-- 'laws.FnExactIsWalk': WHATEVER THE INPUT: true; the input reads as it did. -/
def fnExactIsWalkSpec : ChangeSpec := { name := "fnExactIsWalk", fn := fun _ => fun
  | [d1, d2] => { results := [.lit (.bool true)], args := [d1, d2] }
  | _ => none }
def fnExactIsWalkRow : OpenClaim := { program := "ytbichbiiephmhaadoor", sum := "d4f0cade8644fa5b4cc321927819fe50d289ec798dfdbd7c61ad7de56884b5d3", func := "loop.example/g01350/laws.FnExactIsWalk", spec := "fnExactIsWalk", inPlace := ["internal/bytealg.IndexByteString", "internal/bytealg.IndexString"], recurses := true, named := ["internal/bytealg.MaxLen", "unicode/utf8.first", "unicode/utf8.acceptRanges"], apart := false, laid := [("unicode/utf8.acceptRanges", laid_unicode_utf8_acceptRanges), ("unicode/utf8.first", laid_unicode_utf8_first)] }
def FnExactIsWalkSaid : Prop := fnExactIsWalkRow.holds Tryd.pinned (OpenSpec.ofChange fnExactIsWalkSpec)

/-- ITS FALSE NEIGHBOUR: 'it returns false'. Refute it at one input. -/
def fnExactIsWalkWrong : ChangeSpec := { name := "fnExactIsWalk", fn := fun _ => fun
  | [d1, d2] => { results := [.lit (.bool false)], args := [d1, d2] }
  | _ => none }
def FnExactIsWalkWrongFalsely : Prop := fnExactIsWalkRow.holds Tryd.pinned (OpenSpec.ofChange fnExactIsWalkWrong)

/-- 'laws.FnExactWhoDials': WHATEVER THE INPUT: true; the input reads as it did. -/
def fnExactWhoDialsSpec : ChangeSpec := { name := "fnExactWhoDials", fn := fun _ => fun
  | [d] => { results := [.lit (.bool true)], args := [d] }
  | _ => none }
def fnExactWhoDialsRow : OpenClaim := { program := "ytbichbiiephmhaadoor", sum := "d4f0cade8644fa5b4cc321927819fe50d289ec798dfdbd7c61ad7de56884b5d3", func := "loop.example/g01350/laws.FnExactWhoDials", spec := "fnExactWhoDials", inPlace := ["internal/bytealg.IndexByteString", "internal/bytealg.IndexString"], recurses := true, named := ["unicode/utf8.first", "unicode/utf8.acceptRanges", "internal/bytealg.MaxLen"], apart := false, laid := [("unicode/utf8.acceptRanges", laid_unicode_utf8_acceptRanges), ("unicode/utf8.first", laid_unicode_utf8_first)] }
def FnExactWhoDialsSaid : Prop := fnExactWhoDialsRow.holds Tryd.pinned (OpenSpec.ofChange fnExactWhoDialsSpec)

/-- ITS FALSE NEIGHBOUR: 'it returns false'. Refute it at one input. -/
def fnExactWhoDialsWrong : ChangeSpec := { name := "fnExactWhoDials", fn := fun _ => fun
  | [d] => { results := [.lit (.bool false)], args := [d] }
  | _ => none }
def FnExactWhoDialsWrongFalsely : Prop := fnExactWhoDialsRow.holds Tryd.pinned (OpenSpec.ofChange fnExactWhoDialsWrong)

/-- 'laws.FnExactCountNumbers': WHATEVER THE INPUT: true; the input reads as it did. -/
def fnExactCountNumbersSpec : ChangeSpec := { name := "fnExactCountNumbers", fn := fun _ => fun
  | [d1, d2, d3] => { results := [.lit (.bool true)], args := [d1, d2, d3] }
  | _ => none }
def fnExactCountNumbersRow : OpenClaim := { program := "ytbichbiiephmhaadoor", sum := "d4f0cade8644fa5b4cc321927819fe50d289ec798dfdbd7c61ad7de56884b5d3", func := "loop.example/g01350/laws.FnExactCountNumbers", spec := "fnExactCountNumbers", inPlace := ["internal/bytealg.IndexByteString", "internal/bytealg.IndexString"], recurses := true, named := ["internal/bytealg.MaxLen", "unicode/utf8.first", "unicode/utf8.acceptRanges"], apart := false, laid := [("unicode/utf8.acceptRanges", laid_unicode_utf8_acceptRanges), ("unicode/utf8.first", laid_unicode_utf8_first)] }
def FnExactCountNumbersSaid : Prop := fnExactCountNumbersRow.holds Tryd.pinned (OpenSpec.ofChange fnExactCountNumbersSpec)

/-- ITS FALSE NEIGHBOUR: 'it returns false'. Refute it at one input. -/
def fnExactCountNumbersWrong : ChangeSpec := { name := "fnExactCountNumbers", fn := fun _ => fun
  | [d1, d2, d3] => { results := [.lit (.bool false)], args := [d1, d2, d3] }
  | _ => none }
def FnExactCountNumbersWrongFalsely : Prop := fnExactCountNumbersRow.holds Tryd.pinned (OpenSpec.ofChange fnExactCountNumbersWrong)

/-- 'laws.FnExactCountBetween': WHATEVER THE INPUT: true; the input reads as it did. -/
def fnExactCountBetweenSpec : ChangeSpec := { name := "fnExactCountBetween", fn := fun _ => fun
  | [d1, d2, d3, d4] => { results := [.lit (.bool true)], args := [d1, d2, d3, d4] }
  | _ => none }
def fnExactCountBetweenRow : OpenClaim := { program := "ytbichbiiephmhaadoor", sum := "d4f0cade8644fa5b4cc321927819fe50d289ec798dfdbd7c61ad7de56884b5d3", func := "loop.example/g01350/laws.FnExactCountBetween", spec := "fnExactCountBetween", inPlace := ["internal/bytealg.IndexByteString", "internal/bytealg.IndexString"], recurses := true, named := ["internal/bytealg.MaxLen", "unicode/utf8.first", "unicode/utf8.acceptRanges"], apart := false, laid := [("unicode/utf8.acceptRanges", laid_unicode_utf8_acceptRanges), ("unicode/utf8.first", laid_unicode_utf8_first)] }
def FnExactCountBetweenSaid : Prop := fnExactCountBetweenRow.holds Tryd.pinned (OpenSpec.ofChange fnExactCountBetweenSpec)

/-- ITS FALSE NEIGHBOUR: 'it returns false'. Refute it at one input. -/
def fnExactCountBetweenWrong : ChangeSpec := { name := "fnExactCountBetween", fn := fun _ => fun
  | [d1, d2, d3, d4] => { results := [.lit (.bool false)], args := [d1, d2, d3, d4] }
  | _ => none }
def FnExactCountBetweenWrongFalsely : Prop := fnExactCountBetweenRow.holds Tryd.pinned (OpenSpec.ofChange fnExactCountBetweenWrong)

/-- 'laws.FnExactCountRounds': WHATEVER THE INPUT: true; the input reads as it did. -/
def fnExactCountRoundsSpec : ChangeSpec := { name := "fnExactCountRounds", fn := fun _ => fun
  | [d1, d2, d3] => { results := [.lit (.bool true)], args := [d1, d2, d3] }
  | _ => none }
def fnExactCountRoundsRow : OpenClaim := { program := "ytbichbiiephmhaadoor", sum := "d4f0cade8644fa5b4cc321927819fe50d289ec798dfdbd7c61ad7de56884b5d3", func := "loop.example/g01350/laws.FnExactCountRounds", spec := "fnExactCountRounds", inPlace := ["internal/bytealg.IndexByteString", "internal/bytealg.IndexString"], recurses := true, named := ["internal/bytealg.MaxLen", "unicode/utf8.first", "unicode/utf8.acceptRanges"], apart := false, laid := [("unicode/utf8.acceptRanges", laid_unicode_utf8_acceptRanges), ("unicode/utf8.first", laid_unicode_utf8_first)] }
def FnExactCountRoundsSaid : Prop := fnExactCountRoundsRow.holds Tryd.pinned (OpenSpec.ofChange fnExactCountRoundsSpec)

/-- ITS FALSE NEIGHBOUR: 'it returns false'. Refute it at one input. -/
def fnExactCountRoundsWrong : ChangeSpec := { name := "fnExactCountRounds", fn := fun _ => fun
  | [d1, d2, d3] => { results := [.lit (.bool false)], args := [d1, d2, d3] }
  | _ => none }
def FnExactCountRoundsWrongFalsely : Prop := fnExactCountRoundsRow.holds Tryd.pinned (OpenSpec.ofChange fnExactCountRoundsWrong)

/-- 'laws.FnExactNumberOfRank': WHATEVER THE INPUT: true; the input reads as it did. -/
def fnExactNumberOfRankSpec : ChangeSpec := { name := "fnExactNumberOfRank", fn := fun _ => fun
  | [d1, d2, d3, d4] => { results := [.lit (.bool true)], args := [d1, d2, d3, d4] }
  | _ => none }
def fnExactNumberOfRankRow : OpenClaim := { program := "ytbichbiiephmhaadoor", sum := "d4f0cade8644fa5b4cc321927819fe50d289ec798dfdbd7c61ad7de56884b5d3", func := "loop.example/g01350/laws.FnExactNumberOfRank", spec := "fnExactNumberOfRank", inPlace := ["internal/bytealg.IndexByteString", "internal/bytealg.IndexString"], recurses := true, named := ["internal/bytealg.MaxLen", "unicode/utf8.first", "unicode/utf8.acceptRanges"], apart := false, laid := [("unicode/utf8.acceptRanges", laid_unicode_utf8_acceptRanges), ("unicode/utf8.first", laid_unicode_utf8_first)] }
def FnExactNumberOfRankSaid : Prop := fnExactNumberOfRankRow.holds Tryd.pinned (OpenSpec.ofChange fnExactNumberOfRankSpec)

/-- ITS FALSE NEIGHBOUR: 'it returns false'. Refute it at one input. -/
def fnExactNumberOfRankWrong : ChangeSpec := { name := "fnExactNumberOfRank", fn := fun _ => fun
  | [d1, d2, d3, d4] => { results := [.lit (.bool false)], args := [d1, d2, d3, d4] }
  | _ => none }
def FnExactNumberOfRankWrongFalsely : Prop := fnExactNumberOfRankRow.holds Tryd.pinned (OpenSpec.ofChange fnExactNumberOfRankWrong)

/-- 'laws.FnExactRankOfNumber': WHATEVER THE INPUT: true; the input reads as it did. -/
def fnExactRankOfNumberSpec : ChangeSpec := { name := "fnExactRankOfNumber", fn := fun _ => fun
  | [d1, d2] => { results := [.lit (.bool true)], args := [d1, d2] }
  | _ => none }
def fnExactRankOfNumberRow : OpenClaim := { program := "ytbichbiiephmhaadoor", sum := "d4f0cade8644fa5b4cc321927819fe50d289ec798dfdbd7c61ad7de56884b5d3", func := "loop.example/g01350/laws.FnExactRankOfNumber", spec := "fnExactRankOfNumber", inPlace := ["internal/bytealg.IndexByteString", "internal/bytealg.IndexString"], recurses := true, named := ["internal/bytealg.MaxLen", "unicode/utf8.first", "unicode/utf8.acceptRanges"], apart := false, laid := [("unicode/utf8.acceptRanges", laid_unicode_utf8_acceptRanges), ("unicode/utf8.first", laid_unicode_utf8_first)] }
def FnExactRankOfNumberSaid : Prop := fnExactRankOfNumberRow.holds Tryd.pinned (OpenSpec.ofChange fnExactRankOfNumberSpec)

/-- ITS FALSE NEIGHBOUR: 'it returns false'. Refute it at one input. -/
def fnExactRankOfNumberWrong : ChangeSpec := { name := "fnExactRankOfNumber", fn := fun _ => fun
  | [d1, d2] => { results := [.lit (.bool false)], args := [d1, d2] }
  | _ => none }
def FnExactRankOfNumberWrongFalsely : Prop := fnExactRankOfNumberRow.holds Tryd.pinned (OpenSpec.ofChange fnExactRankOfNumberWrong)

/- THE SECOND FORM. 'bulk': how many values and letters a reading holds, each counted each time it is reached (what is shared counts as often as it is met; a slice's spare places count too). A statement '..UptoSaid' is the law's where the arguments, and the package variables that the reading takes, are together of bulk at most 1048576: NARROWER than '..Said'. Prove '..Said' where nothing that the law and all that it calls make is longer than what came in: it says more and counts as full. Else prove '..UptoSaid'. A law counts once. -/
mutual
def uptoBulk {H : Type} : DataW H → Nat
  | .lit (.string bytes) => bytes.length + 1
  | .lit _ => 1
  | .nil => 1
  | .ptr d => uptoBulk d + 1
  | .slice elems spare => uptoBulkAll elems + uptoBulkAll spare + 1
  | .agg parts => uptoBulkAll parts + 1
  | .iface _ d => uptoBulk d + 1
  | .map entries => uptoBulkEntries entries + 1
  | .held _ => 1
def uptoBulkAll {H : Type} : List (DataW H) → Nat
  | [] => 0
  | d :: r => uptoBulk d + uptoBulkAll r
def uptoBulkEntries {H : Type} : List (Lit × DataW H) → Nat
  | [] => 0
  | x :: r => uptoBulkEntry x + uptoBulkEntries r
def uptoBulkEntry {H : Type} : Lit × DataW H → Nat
  | (.string bytes, d) => bytes.length + uptoBulk d + 1
  | (_, d) => uptoBulk d + 1
 end
def uptoSmall : (H : Type) → List (DataW H) → Bool := fun _ ds => decide (uptoBulkAll ds ≤ 1048576)
def OpenSpec.upto (s : _root_.Go.ChangeSpec) : _root_.Go.OpenSpec := { _root_.Go.OpenSpec.ofChange s with cond := some uptoSmall }

/-- 'laws.FnExactMirrorWalk', WHERE WHAT IT READS IS OF BULK AT MOST 1048576: true; the input reads as it did. -/
def fnExactMirrorWalkUptoRow : OpenClaim := { program := "ytbichbiiephmhaadoor", sum := "d4f0cade8644fa5b4cc321927819fe50d289ec798dfdbd7c61ad7de56884b5d3", func := "loop.example/g01350/laws.FnExactMirrorWalk", spec := "fnExactMirrorWalk", inPlace := ["internal/bytealg.IndexByteString", "internal/bytealg.IndexString"], named := ["unicode/utf8.first", "unicode/utf8.acceptRanges", "internal/bytealg.MaxLen"], apart := false, laid := [("unicode/utf8.acceptRanges", laid_unicode_utf8_acceptRanges), ("unicode/utf8.first", laid_unicode_utf8_first)], narrowed := true }
def FnExactMirrorWalkUptoSaid : Prop := fnExactMirrorWalkUptoRow.holds Tryd.pinned (OpenSpec.upto fnExactMirrorWalkSpec)

/-- 'laws.FnExactNextKeys', WHERE WHAT IT READS IS OF BULK AT MOST 1048576: true; the input reads as it did. -/
def fnExactNextKeysUptoRow : OpenClaim := { program := "ytbichbiiephmhaadoor", sum := "d4f0cade8644fa5b4cc321927819fe50d289ec798dfdbd7c61ad7de56884b5d3", func := "loop.example/g01350/laws.FnExactNextKeys", spec := "fnExactNextKeys", inPlace := ["internal/bytealg.IndexByteString", "internal/bytealg.IndexString"], recurses := true, named := ["internal/bytealg.MaxLen", "unicode/utf8.first", "unicode/utf8.acceptRanges"], apart := false, laid := [("unicode/utf8.acceptRanges", laid_unicode_utf8_acceptRanges), ("unicode/utf8.first", laid_unicode_utf8_first)], narrowed := true }
def FnExactNextKeysUptoSaid : Prop := fnExactNextKeysUptoRow.holds Tryd.pinned (OpenSpec.upto fnExactNextKeysSpec)

/-- 'laws.FnExactIsWalk', WHERE WHAT IT READS IS OF BULK AT MOST 1048576: true; the input reads as it did. -/
def fnExactIsWalkUptoRow : OpenClaim := { program := "ytbichbiiephmhaadoor", sum := "d4f0cade8644fa5b4cc321927819fe50d289ec798dfdbd7c61ad7de56884b5d3", func := "loop.example/g01350/laws.FnExactIsWalk", spec := "fnExactIsWalk", inPlace := ["internal/bytealg.IndexByteString", "internal/bytealg.IndexString"], recurses := true, named := ["internal/bytealg.MaxLen", "unicode/utf8.first", "unicode/utf8.acceptRanges"], apart := false, laid := [("unicode/utf8.acceptRanges", laid_unicode_utf8_acceptRanges), ("unicode/utf8.first", laid_unicode_utf8_first)], narrowed := true }
def FnExactIsWalkUptoSaid : Prop := fnExactIsWalkUptoRow.holds Tryd.pinned (OpenSpec.upto fnExactIsWalkSpec)

/-- 'laws.FnExactWhoDials', WHERE WHAT IT READS IS OF BULK AT MOST 1048576: true; the input reads as it did. -/
def fnExactWhoDialsUptoRow : OpenClaim := { program := "ytbichbiiephmhaadoor", sum := "d4f0cade8644fa5b4cc321927819fe50d289ec798dfdbd7c61ad7de56884b5d3", func := "loop.example/g01350/laws.FnExactWhoDials", spec := "fnExactWhoDials", inPlace := ["internal/bytealg.IndexByteString", "internal/bytealg.IndexString"], recurses := true, named := ["unicode/utf8.first", "unicode/utf8.acceptRanges", "internal/bytealg.MaxLen"], apart := false, laid := [("unicode/utf8.acceptRanges", laid_unicode_utf8_acceptRanges), ("unicode/utf8.first", laid_unicode_utf8_first)], narrowed := true }
def FnExactWhoDialsUptoSaid : Prop := fnExactWhoDialsUptoRow.holds Tryd.pinned (OpenSpec.upto fnExactWhoDialsSpec)

/-- 'laws.FnExactCountNumbers', WHERE WHAT IT READS IS OF BULK AT MOST 1048576: true; the input reads as it did. -/
def fnExactCountNumbersUptoRow : OpenClaim := { program := "ytbichbiiephmhaadoor", sum := "d4f0cade8644fa5b4cc321927819fe50d289ec798dfdbd7c61ad7de56884b5d3", func := "loop.example/g01350/laws.FnExactCountNumbers", spec := "fnExactCountNumbers", inPlace := ["internal/bytealg.IndexByteString", "internal/bytealg.IndexString"], recurses := true, named := ["internal/bytealg.MaxLen", "unicode/utf8.first", "unicode/utf8.acceptRanges"], apart := false, laid := [("unicode/utf8.acceptRanges", laid_unicode_utf8_acceptRanges), ("unicode/utf8.first", laid_unicode_utf8_first)], narrowed := true }
def FnExactCountNumbersUptoSaid : Prop := fnExactCountNumbersUptoRow.holds Tryd.pinned (OpenSpec.upto fnExactCountNumbersSpec)

/-- 'laws.FnExactCountBetween', WHERE WHAT IT READS IS OF BULK AT MOST 1048576: true; the input reads as it did. -/
def fnExactCountBetweenUptoRow : OpenClaim := { program := "ytbichbiiephmhaadoor", sum := "d4f0cade8644fa5b4cc321927819fe50d289ec798dfdbd7c61ad7de56884b5d3", func := "loop.example/g01350/laws.FnExactCountBetween", spec := "fnExactCountBetween", inPlace := ["internal/bytealg.IndexByteString", "internal/bytealg.IndexString"], recurses := true, named := ["internal/bytealg.MaxLen", "unicode/utf8.first", "unicode/utf8.acceptRanges"], apart := false, laid := [("unicode/utf8.acceptRanges", laid_unicode_utf8_acceptRanges), ("unicode/utf8.first", laid_unicode_utf8_first)], narrowed := true }
def FnExactCountBetweenUptoSaid : Prop := fnExactCountBetweenUptoRow.holds Tryd.pinned (OpenSpec.upto fnExactCountBetweenSpec)

/-- 'laws.FnExactCountRounds', WHERE WHAT IT READS IS OF BULK AT MOST 1048576: true; the input reads as it did. -/
def fnExactCountRoundsUptoRow : OpenClaim := { program := "ytbichbiiephmhaadoor", sum := "d4f0cade8644fa5b4cc321927819fe50d289ec798dfdbd7c61ad7de56884b5d3", func := "loop.example/g01350/laws.FnExactCountRounds", spec := "fnExactCountRounds", inPlace := ["internal/bytealg.IndexByteString", "internal/bytealg.IndexString"], recurses := true, named := ["internal/bytealg.MaxLen", "unicode/utf8.first", "unicode/utf8.acceptRanges"], apart := false, laid := [("unicode/utf8.acceptRanges", laid_unicode_utf8_acceptRanges), ("unicode/utf8.first", laid_unicode_utf8_first)], narrowed := true }
def FnExactCountRoundsUptoSaid : Prop := fnExactCountRoundsUptoRow.holds Tryd.pinned (OpenSpec.upto fnExactCountRoundsSpec)

/-- 'laws.FnExactNumberOfRank', WHERE WHAT IT READS IS OF BULK AT MOST 1048576: true; the input reads as it did. -/
def fnExactNumberOfRankUptoRow : OpenClaim := { program := "ytbichbiiephmhaadoor", sum := "d4f0cade8644fa5b4cc321927819fe50d289ec798dfdbd7c61ad7de56884b5d3", func := "loop.example/g01350/laws.FnExactNumberOfRank", spec := "fnExactNumberOfRank", inPlace := ["internal/bytealg.IndexByteString", "internal/bytealg.IndexString"], recurses := true, named := ["internal/bytealg.MaxLen", "unicode/utf8.first", "unicode/utf8.acceptRanges"], apart := false, laid := [("unicode/utf8.acceptRanges", laid_unicode_utf8_acceptRanges), ("unicode/utf8.first", laid_unicode_utf8_first)], narrowed := true }
def FnExactNumberOfRankUptoSaid : Prop := fnExactNumberOfRankUptoRow.holds Tryd.pinned (OpenSpec.upto fnExactNumberOfRankSpec)

/-- 'laws.FnExactRankOfNumber', WHERE WHAT IT READS IS OF BULK AT MOST 1048576: true; the input reads as it did. -/
def fnExactRankOfNumberUptoRow : OpenClaim := { program := "ytbichbiiephmhaadoor", sum := "d4f0cade8644fa5b4cc321927819fe50d289ec798dfdbd7c61ad7de56884b5d3", func := "loop.example/g01350/laws.FnExactRankOfNumber", spec := "fnExactRankOfNumber", inPlace := ["internal/bytealg.IndexByteString", "internal/bytealg.IndexString"], recurses := true, named := ["internal/bytealg.MaxLen", "unicode/utf8.first", "unicode/utf8.acceptRanges"], apart := false, laid := [("unicode/utf8.acceptRanges", laid_unicode_utf8_acceptRanges), ("unicode/utf8.first", laid_unicode_utf8_first)], narrowed := true }
def FnExactRankOfNumberUptoSaid : Prop := fnExactRankOfNumberUptoRow.holds Tryd.pinned (OpenSpec.upto fnExactRankOfNumberSpec)

end Rows
end Go.Proofs.YtbichbiiephmhaaDoor
