/-
  NARROWER THAN 'FOR EVERY INPUT', by the rows' own cells (each row's printed sentence says how): FnExactKeyDistances: laid · FnExactReachedKeys: laid · FnExactFirstWalk: laid · FnExactCountShortest: laid · FnExactCountOnce: laid · FnExactLongestOnce: laid · FnExactWhoDials: laid.
  DERIVED. THE GIVEN ROWS OF THIS SEAT. 7 by the template 'for every input the law returns true; each argument reads behind the call as it read before'; 0 by the template 'total and deterministic' (their statements: YtkbgfaeohmnjpaaDoorTotals.lean).
  GIVEN WITH THE SEED: the statements are not yours to turn. If you find one false, say at which input.
  Laid BY PROGRAM, IN A SANDBOX (cutbox-rows.mjs): the forced cells as the released guide's own fill.sh prints them over the translation ab227620222738a8… (all of the seat's roots in one cut). By AI agents, Wed Nov 11 2026. No macro, syntax, notation, axiom, sorry.
-/
import Derived.Test.YtkbgfaeohmnjpaaDoorChecked
import GoSem.PinnedTables
import GoSem.Claim
import GoSem.ClaimJoined
import GoSem.ClaimMapViews
import Derived.JoinedTies
import Derived.KernelRfl
namespace Go.Proofs.YtkbgfaeohmnjpaaDoor
/- THE CELL 'sum', in the pinned program and in every row, IS THE sha256 OF THE DUMP (.gsa) THAT YtkbgfaeohmnjpaaDoorProg.lean LOADS. Nothing in Lean hashes anything: it is a label: what it is worth is what the hold of that sum in a sandbox is worth. -/
noncomputable def Tryd.pinned : Pinned := { name := "ytkbgfaeohmnjpaadoor", sum := "ab227620222738a8070f8eab0ac5b210e850f3f34b1f6776e70019649ce6fec2", checked := Tryd.checked }
namespace Rows
def none {H : Type} : Left H := { results := [], args := [] }

/- WHAT THE LISTED PACKAGE-LEVEL VARIABLES READ AS WHEN THE CALL BEGINS. Each datum BY PROGRAM (the guide's laid-datum.mjs) off the statement by which the dump's own 'gosem.cut.vars' lays the variable. In a bare row this is a premise. The card (YtkbgfaeohmnjpaaDoorCards.lean) ties it to the program's text. -/
def laid_unicode_utf8_acceptRanges {H : Type} : DataW H := .agg [.agg [.lit (.int .u8 128), .lit (.int .u8 191)], .agg [.lit (.int .u8 160), .lit (.int .u8 191)], .agg [.lit (.int .u8 128), .lit (.int .u8 159)], .agg [.lit (.int .u8 144), .lit (.int .u8 191)], .agg [.lit (.int .u8 128), .lit (.int .u8 143)], .agg [.lit (.int .u8 0), .lit (.int .u8 0)], .agg [.lit (.int .u8 0), .lit (.int .u8 0)], .agg [.lit (.int .u8 0), .lit (.int .u8 0)], .agg [.lit (.int .u8 0), .lit (.int .u8 0)], .agg [.lit (.int .u8 0), .lit (.int .u8 0)], .agg [.lit (.int .u8 0), .lit (.int .u8 0)], .agg [.lit (.int .u8 0), .lit (.int .u8 0)], .agg [.lit (.int .u8 0), .lit (.int .u8 0)], .agg [.lit (.int .u8 0), .lit (.int .u8 0)], .agg [.lit (.int .u8 0), .lit (.int .u8 0)], .agg [.lit (.int .u8 0), .lit (.int .u8 0)]]
/-- One of Go's own tables, pinned by name: the form's constant. -/
def laid_unicode_utf8_first : DataW Unit := Go.Pinned.utf8First

/-- 'laws.FnExactKeyDistances': WHATEVER THE INPUT: true; the input reads as it did. -/
def fnExactKeyDistancesSpec : ChangeSpec := { name := "fnExactKeyDistances", fn := fun _ => fun
  | [d1, d2] => { results := [.lit (.bool true)], args := [d1, d2] }
  | _ => none }
def fnExactKeyDistancesRow : OpenClaim := { program := "ytkbgfaeohmnjpaadoor", sum := "ab227620222738a8070f8eab0ac5b210e850f3f34b1f6776e70019649ce6fec2", func := "loop.example/g01350/laws.FnExactKeyDistances", spec := "fnExactKeyDistances", inPlace := ["internal/bytealg.IndexByteString", "internal/bytealg.IndexString"], recurses := true, named := ["internal/bytealg.MaxLen", "unicode/utf8.first", "unicode/utf8.acceptRanges"], apart := false, laid := [("unicode/utf8.acceptRanges", laid_unicode_utf8_acceptRanges), ("unicode/utf8.first", laid_unicode_utf8_first)] }
def FnExactKeyDistancesSaid : Prop := fnExactKeyDistancesRow.holds Tryd.pinned (OpenSpec.ofChange fnExactKeyDistancesSpec)

/-- ITS FALSE NEIGHBOUR: 'it returns false'. Refute it at one input. -/
def fnExactKeyDistancesWrong : ChangeSpec := { name := "fnExactKeyDistances", fn := fun _ => fun
  | [d1, d2] => { results := [.lit (.bool false)], args := [d1, d2] }
  | _ => none }
def FnExactKeyDistancesWrongFalsely : Prop := fnExactKeyDistancesRow.holds Tryd.pinned (OpenSpec.ofChange fnExactKeyDistancesWrong)

/-- 'laws.FnExactReachedKeys': WHATEVER THE INPUT: true; the input reads as it did. -/
def fnExactReachedKeysSpec : ChangeSpec := { name := "fnExactReachedKeys", fn := fun _ => fun
  | [d1, d2] => { results := [.lit (.bool true)], args := [d1, d2] }
  | _ => none }
def fnExactReachedKeysRow : OpenClaim := { program := "ytkbgfaeohmnjpaadoor", sum := "ab227620222738a8070f8eab0ac5b210e850f3f34b1f6776e70019649ce6fec2", func := "loop.example/g01350/laws.FnExactReachedKeys", spec := "fnExactReachedKeys", inPlace := ["internal/bytealg.IndexByteString", "internal/bytealg.IndexString"], recurses := true, named := ["internal/bytealg.MaxLen", "unicode/utf8.first", "unicode/utf8.acceptRanges"], apart := false, laid := [("unicode/utf8.acceptRanges", laid_unicode_utf8_acceptRanges), ("unicode/utf8.first", laid_unicode_utf8_first)] }
def FnExactReachedKeysSaid : Prop := fnExactReachedKeysRow.holds Tryd.pinned (OpenSpec.ofChange fnExactReachedKeysSpec)

/-- ITS FALSE NEIGHBOUR: 'it returns false'. Refute it at one input. -/
def fnExactReachedKeysWrong : ChangeSpec := { name := "fnExactReachedKeys", fn := fun _ => fun
  | [d1, d2] => { results := [.lit (.bool false)], args := [d1, d2] }
  | _ => none }
def FnExactReachedKeysWrongFalsely : Prop := fnExactReachedKeysRow.holds Tryd.pinned (OpenSpec.ofChange fnExactReachedKeysWrong)

/-- 'laws.FnExactFirstWalk': WHATEVER THE INPUT: true; the input reads as it did. -/
def fnExactFirstWalkSpec : ChangeSpec := { name := "fnExactFirstWalk", fn := fun _ => fun
  | [d1, d2, d3] => { results := [.lit (.bool true)], args := [d1, d2, d3] }
  | _ => none }
def fnExactFirstWalkRow : OpenClaim := { program := "ytkbgfaeohmnjpaadoor", sum := "ab227620222738a8070f8eab0ac5b210e850f3f34b1f6776e70019649ce6fec2", func := "loop.example/g01350/laws.FnExactFirstWalk", spec := "fnExactFirstWalk", inPlace := ["internal/bytealg.IndexByteString", "internal/bytealg.IndexString"], unfollowed := true, recurses := true, named := ["internal/bytealg.MaxLen", "unicode/utf8.first", "unicode/utf8.acceptRanges"], apart := false, laid := [("unicode/utf8.acceptRanges", laid_unicode_utf8_acceptRanges), ("unicode/utf8.first", laid_unicode_utf8_first)] }
def FnExactFirstWalkSaid : Prop := fnExactFirstWalkRow.holds Tryd.pinned (OpenSpec.ofChange fnExactFirstWalkSpec)

/-- ITS FALSE NEIGHBOUR: 'it returns false'. Refute it at one input. -/
def fnExactFirstWalkWrong : ChangeSpec := { name := "fnExactFirstWalk", fn := fun _ => fun
  | [d1, d2, d3] => { results := [.lit (.bool false)], args := [d1, d2, d3] }
  | _ => none }
def FnExactFirstWalkWrongFalsely : Prop := fnExactFirstWalkRow.holds Tryd.pinned (OpenSpec.ofChange fnExactFirstWalkWrong)

/-- 'laws.FnExactCountShortest': WHATEVER THE INPUT: true; the input reads as it did. -/
def fnExactCountShortestSpec : ChangeSpec := { name := "fnExactCountShortest", fn := fun _ => fun
  | [d1, d2, d3] => { results := [.lit (.bool true)], args := [d1, d2, d3] }
  | _ => none }
def fnExactCountShortestRow : OpenClaim := { program := "ytkbgfaeohmnjpaadoor", sum := "ab227620222738a8070f8eab0ac5b210e850f3f34b1f6776e70019649ce6fec2", func := "loop.example/g01350/laws.FnExactCountShortest", spec := "fnExactCountShortest", inPlace := ["internal/bytealg.IndexByteString", "internal/bytealg.IndexString"], unfollowed := true, recurses := true, named := ["internal/bytealg.MaxLen", "unicode/utf8.first", "unicode/utf8.acceptRanges"], apart := false, laid := [("unicode/utf8.acceptRanges", laid_unicode_utf8_acceptRanges), ("unicode/utf8.first", laid_unicode_utf8_first)] }
def FnExactCountShortestSaid : Prop := fnExactCountShortestRow.holds Tryd.pinned (OpenSpec.ofChange fnExactCountShortestSpec)

/-- ITS FALSE NEIGHBOUR: 'it returns false'. Refute it at one input. -/
def fnExactCountShortestWrong : ChangeSpec := { name := "fnExactCountShortest", fn := fun _ => fun
  | [d1, d2, d3] => { results := [.lit (.bool false)], args := [d1, d2, d3] }
  | _ => none }
def FnExactCountShortestWrongFalsely : Prop := fnExactCountShortestRow.holds Tryd.pinned (OpenSpec.ofChange fnExactCountShortestWrong)

/-- 'laws.FnExactCountOnce': WHATEVER THE INPUT: true; the input reads as it did. -/
def fnExactCountOnceSpec : ChangeSpec := { name := "fnExactCountOnce", fn := fun _ => fun
  | [d1, d2, d3] => { results := [.lit (.bool true)], args := [d1, d2, d3] }
  | _ => none }
def fnExactCountOnceRow : OpenClaim := { program := "ytkbgfaeohmnjpaadoor", sum := "ab227620222738a8070f8eab0ac5b210e850f3f34b1f6776e70019649ce6fec2", func := "loop.example/g01350/laws.FnExactCountOnce", spec := "fnExactCountOnce", inPlace := ["internal/bytealg.IndexByteString", "internal/bytealg.IndexString"], unfollowed := true, recurses := true, named := ["internal/bytealg.MaxLen", "unicode/utf8.first", "unicode/utf8.acceptRanges"], apart := false, laid := [("unicode/utf8.acceptRanges", laid_unicode_utf8_acceptRanges), ("unicode/utf8.first", laid_unicode_utf8_first)] }
def FnExactCountOnceSaid : Prop := fnExactCountOnceRow.holds Tryd.pinned (OpenSpec.ofChange fnExactCountOnceSpec)

/-- ITS FALSE NEIGHBOUR: 'it returns false'. Refute it at one input. -/
def fnExactCountOnceWrong : ChangeSpec := { name := "fnExactCountOnce", fn := fun _ => fun
  | [d1, d2, d3] => { results := [.lit (.bool false)], args := [d1, d2, d3] }
  | _ => none }
def FnExactCountOnceWrongFalsely : Prop := fnExactCountOnceRow.holds Tryd.pinned (OpenSpec.ofChange fnExactCountOnceWrong)

/-- 'laws.FnExactLongestOnce': WHATEVER THE INPUT: true; the input reads as it did. -/
def fnExactLongestOnceSpec : ChangeSpec := { name := "fnExactLongestOnce", fn := fun _ => fun
  | [d1, d2] => { results := [.lit (.bool true)], args := [d1, d2] }
  | _ => none }
def fnExactLongestOnceRow : OpenClaim := { program := "ytkbgfaeohmnjpaadoor", sum := "ab227620222738a8070f8eab0ac5b210e850f3f34b1f6776e70019649ce6fec2", func := "loop.example/g01350/laws.FnExactLongestOnce", spec := "fnExactLongestOnce", inPlace := ["internal/bytealg.IndexByteString", "internal/bytealg.IndexString"], unfollowed := true, recurses := true, named := ["internal/bytealg.MaxLen", "unicode/utf8.first", "unicode/utf8.acceptRanges"], apart := false, laid := [("unicode/utf8.acceptRanges", laid_unicode_utf8_acceptRanges), ("unicode/utf8.first", laid_unicode_utf8_first)] }
def FnExactLongestOnceSaid : Prop := fnExactLongestOnceRow.holds Tryd.pinned (OpenSpec.ofChange fnExactLongestOnceSpec)

/-- ITS FALSE NEIGHBOUR: 'it returns false'. Refute it at one input. -/
def fnExactLongestOnceWrong : ChangeSpec := { name := "fnExactLongestOnce", fn := fun _ => fun
  | [d1, d2] => { results := [.lit (.bool false)], args := [d1, d2] }
  | _ => none }
def FnExactLongestOnceWrongFalsely : Prop := fnExactLongestOnceRow.holds Tryd.pinned (OpenSpec.ofChange fnExactLongestOnceWrong)

/-- 'laws.FnExactWhoDials': WHATEVER THE INPUT: true; the input reads as it did. -/
def fnExactWhoDialsSpec : ChangeSpec := { name := "fnExactWhoDials", fn := fun _ => fun
  | [d] => { results := [.lit (.bool true)], args := [d] }
  | _ => none }
def fnExactWhoDialsRow : OpenClaim := { program := "ytkbgfaeohmnjpaadoor", sum := "ab227620222738a8070f8eab0ac5b210e850f3f34b1f6776e70019649ce6fec2", func := "loop.example/g01350/laws.FnExactWhoDials", spec := "fnExactWhoDials", inPlace := ["internal/bytealg.IndexByteString", "internal/bytealg.IndexString"], recurses := true, named := ["unicode/utf8.first", "unicode/utf8.acceptRanges", "internal/bytealg.MaxLen"], apart := false, laid := [("unicode/utf8.acceptRanges", laid_unicode_utf8_acceptRanges), ("unicode/utf8.first", laid_unicode_utf8_first)] }
def FnExactWhoDialsSaid : Prop := fnExactWhoDialsRow.holds Tryd.pinned (OpenSpec.ofChange fnExactWhoDialsSpec)

/-- ITS FALSE NEIGHBOUR: 'it returns false'. Refute it at one input. -/
def fnExactWhoDialsWrong : ChangeSpec := { name := "fnExactWhoDials", fn := fun _ => fun
  | [d] => { results := [.lit (.bool false)], args := [d] }
  | _ => none }
def FnExactWhoDialsWrongFalsely : Prop := fnExactWhoDialsRow.holds Tryd.pinned (OpenSpec.ofChange fnExactWhoDialsWrong)

/- THE SECOND FORM. 'bulk': how many values and letters a reading holds, each counted each time it is reached (what is shared counts as often as it is met; a slice's spare places count too). A statement '..UptoSaid' is the law's where the arguments, and the package variables that the reading takes, are together of bulk at most 1048576: NARROWER than '..Said'. Prove '..Said' where nothing that the law and all that it calls make is longer than what came in: it says more and counts as full. Else prove '..UptoSaid'. A law counts once. -/
mutual
def uptoBulk {H : Type} : DataW H → Nat
  | .lit (.string bytes) => bytes.length + 1
  | .lit _ => 1
  | .nil => 1
  | .ptr d => uptoBulk d + 1
  | .slice elems spare => uptoBulkAll elems + uptoBulkAll spare + 1
  | .agg parts => uptoBulkAll parts + 1
  | .iface _ d => uptoBulk d + 1
  | .map entries => uptoBulkEntries entries + 1
  | .held _ => 1
def uptoBulkAll {H : Type} : List (DataW H) → Nat
  | [] => 0
  | d :: r => uptoBulk d + uptoBulkAll r
def uptoBulkEntries {H : Type} : List (Lit × DataW H) → Nat
  | [] => 0
  | x :: r => uptoBulkEntry x + uptoBulkEntries r
def uptoBulkEntry {H : Type} : Lit × DataW H → Nat
  | (.string bytes, d) => bytes.length + uptoBulk d + 1
  | (_, d) => uptoBulk d + 1
 end
def uptoSmall : (H : Type) → List (DataW H) → Bool := fun _ ds => decide (uptoBulkAll ds ≤ 1048576)
def OpenSpec.upto (s : _root_.Go.ChangeSpec) : _root_.Go.OpenSpec := { _root_.Go.OpenSpec.ofChange s with cond := some uptoSmall }

/-- 'laws.FnExactKeyDistances', WHERE WHAT IT READS IS OF BULK AT MOST 1048576: true; the input reads as it did. -/
def fnExactKeyDistancesUptoRow : OpenClaim := { program := "ytkbgfaeohmnjpaadoor", sum := "ab227620222738a8070f8eab0ac5b210e850f3f34b1f6776e70019649ce6fec2", func := "loop.example/g01350/laws.FnExactKeyDistances", spec := "fnExactKeyDistances", inPlace := ["internal/bytealg.IndexByteString", "internal/bytealg.IndexString"], recurses := true, named := ["internal/bytealg.MaxLen", "unicode/utf8.first", "unicode/utf8.acceptRanges"], apart := false, laid := [("unicode/utf8.acceptRanges", laid_unicode_utf8_acceptRanges), ("unicode/utf8.first", laid_unicode_utf8_first)], narrowed := true }
def FnExactKeyDistancesUptoSaid : Prop := fnExactKeyDistancesUptoRow.holds Tryd.pinned (OpenSpec.upto fnExactKeyDistancesSpec)

/-- 'laws.FnExactReachedKeys', WHERE WHAT IT READS IS OF BULK AT MOST 1048576: true; the input reads as it did. -/
def fnExactReachedKeysUptoRow : OpenClaim := { program := "ytkbgfaeohmnjpaadoor", sum := "ab227620222738a8070f8eab0ac5b210e850f3f34b1f6776e70019649ce6fec2", func := "loop.example/g01350/laws.FnExactReachedKeys", spec := "fnExactReachedKeys", inPlace := ["internal/bytealg.IndexByteString", "internal/bytealg.IndexString"], recurses := true, named := ["internal/bytealg.MaxLen", "unicode/utf8.first", "unicode/utf8.acceptRanges"], apart := false, laid := [("unicode/utf8.acceptRanges", laid_unicode_utf8_acceptRanges), ("unicode/utf8.first", laid_unicode_utf8_first)], narrowed := true }
def FnExactReachedKeysUptoSaid : Prop := fnExactReachedKeysUptoRow.holds Tryd.pinned (OpenSpec.upto fnExactReachedKeysSpec)

/-- 'laws.FnExactFirstWalk', WHERE WHAT IT READS IS OF BULK AT MOST 1048576: true; the input reads as it did. -/
def fnExactFirstWalkUptoRow : OpenClaim := { program := "ytkbgfaeohmnjpaadoor", sum := "ab227620222738a8070f8eab0ac5b210e850f3f34b1f6776e70019649ce6fec2", func := "loop.example/g01350/laws.FnExactFirstWalk", spec := "fnExactFirstWalk", inPlace := ["internal/bytealg.IndexByteString", "internal/bytealg.IndexString"], unfollowed := true, recurses := true, named := ["internal/bytealg.MaxLen", "unicode/utf8.first", "unicode/utf8.acceptRanges"], apart := false, laid := [("unicode/utf8.acceptRanges", laid_unicode_utf8_acceptRanges), ("unicode/utf8.first", laid_unicode_utf8_first)], narrowed := true }
def FnExactFirstWalkUptoSaid : Prop := fnExactFirstWalkUptoRow.holds Tryd.pinned (OpenSpec.upto fnExactFirstWalkSpec)

/-- 'laws.FnExactCountShortest', WHERE WHAT IT READS IS OF BULK AT MOST 1048576: true; the input reads as it did. -/
def fnExactCountShortestUptoRow : OpenClaim := { program := "ytkbgfaeohmnjpaadoor", sum := "ab227620222738a8070f8eab0ac5b210e850f3f34b1f6776e70019649ce6fec2", func := "loop.example/g01350/laws.FnExactCountShortest", spec := "fnExactCountShortest", inPlace := ["internal/bytealg.IndexByteString", "internal/bytealg.IndexString"], unfollowed := true, recurses := true, named := ["internal/bytealg.MaxLen", "unicode/utf8.first", "unicode/utf8.acceptRanges"], apart := false, laid := [("unicode/utf8.acceptRanges", laid_unicode_utf8_acceptRanges), ("unicode/utf8.first", laid_unicode_utf8_first)], narrowed := true }
def FnExactCountShortestUptoSaid : Prop := fnExactCountShortestUptoRow.holds Tryd.pinned (OpenSpec.upto fnExactCountShortestSpec)

/-- 'laws.FnExactCountOnce', WHERE WHAT IT READS IS OF BULK AT MOST 1048576: true; the input reads as it did. -/
def fnExactCountOnceUptoRow : OpenClaim := { program := "ytkbgfaeohmnjpaadoor", sum := "ab227620222738a8070f8eab0ac5b210e850f3f34b1f6776e70019649ce6fec2", func := "loop.example/g01350/laws.FnExactCountOnce", spec := "fnExactCountOnce", inPlace := ["internal/bytealg.IndexByteString", "internal/bytealg.IndexString"], unfollowed := true, recurses := true, named := ["internal/bytealg.MaxLen", "unicode/utf8.first", "unicode/utf8.acceptRanges"], apart := false, laid := [("unicode/utf8.acceptRanges", laid_unicode_utf8_acceptRanges), ("unicode/utf8.first", laid_unicode_utf8_first)], narrowed := true }
def FnExactCountOnceUptoSaid : Prop := fnExactCountOnceUptoRow.holds Tryd.pinned (OpenSpec.upto fnExactCountOnceSpec)

/-- 'laws.FnExactLongestOnce', WHERE WHAT IT READS IS OF BULK AT MOST 1048576: true; the input reads as it did. -/
def fnExactLongestOnceUptoRow : OpenClaim := { program := "ytkbgfaeohmnjpaadoor", sum := "ab227620222738a8070f8eab0ac5b210e850f3f34b1f6776e70019649ce6fec2", func := "loop.example/g01350/laws.FnExactLongestOnce", spec := "fnExactLongestOnce", inPlace := ["internal/bytealg.IndexByteString", "internal/bytealg.IndexString"], unfollowed := true, recurses := true, named := ["internal/bytealg.MaxLen", "unicode/utf8.first", "unicode/utf8.acceptRanges"], apart := false, laid := [("unicode/utf8.acceptRanges", laid_unicode_utf8_acceptRanges), ("unicode/utf8.first", laid_unicode_utf8_first)], narrowed := true }
def FnExactLongestOnceUptoSaid : Prop := fnExactLongestOnceUptoRow.holds Tryd.pinned (OpenSpec.upto fnExactLongestOnceSpec)

/-- 'laws.FnExactWhoDials', WHERE WHAT IT READS IS OF BULK AT MOST 1048576: true; the input reads as it did. -/
def fnExactWhoDialsUptoRow : OpenClaim := { program := "ytkbgfaeohmnjpaadoor", sum := "ab227620222738a8070f8eab0ac5b210e850f3f34b1f6776e70019649ce6fec2", func := "loop.example/g01350/laws.FnExactWhoDials", spec := "fnExactWhoDials", inPlace := ["internal/bytealg.IndexByteString", "internal/bytealg.IndexString"], recurses := true, named := ["unicode/utf8.first", "unicode/utf8.acceptRanges", "internal/bytealg.MaxLen"], apart := false, laid := [("unicode/utf8.acceptRanges", laid_unicode_utf8_acceptRanges), ("unicode/utf8.first", laid_unicode_utf8_first)], narrowed := true }
def FnExactWhoDialsUptoSaid : Prop := fnExactWhoDialsUptoRow.holds Tryd.pinned (OpenSpec.upto fnExactWhoDialsSpec)

end Rows
end Go.Proofs.YtkbgfaeohmnjpaaDoor
