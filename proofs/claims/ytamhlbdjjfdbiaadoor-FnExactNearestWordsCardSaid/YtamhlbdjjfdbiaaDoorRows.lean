/-
  NARROWER THAN 'FOR EVERY INPUT', by the rows' own cells (each row's printed sentence says how): FnExactTypoDistance: laid · FnExactIsOneTypo: laid · FnExactFirstTypos: laid · FnExactApplyTypos: laid · FnExactCommonLength: laid · FnExactFirstCommon: laid · FnExactUnstuckText: laid · FnExactWordsWithin: laid · FnExactNearestWords: laid.
  DERIVED. THE GIVEN ROWS OF THIS SEAT. 9 by the template 'for every input the law returns true; each argument reads behind the call as it read before'; 0 by the template 'total and deterministic' (their statements: YtamhlbdjjfdbiaaDoorTotals.lean).
  GIVEN WITH THE SEED: the statements are not yours to turn. If you find one false, say at which input.
  Laid BY PROGRAM, IN A SANDBOX (cutbox-rows.mjs): the forced cells as the released guide's own fill.sh prints them over the translation f0c16b585c7dbc87… (all of the seat's roots in one cut). By AI agents, Wed Nov 11 2026. No macro, syntax, notation, axiom, sorry.
-/
import Derived.Test.YtamhlbdjjfdbiaaDoorChecked
import GoSem.PinnedTables
import GoSem.Claim
import GoSem.ClaimJoined
import GoSem.ClaimMapViews
import Derived.JoinedTies
import Derived.KernelRfl
namespace Go.Proofs.YtamhlbdjjfdbiaaDoor
/- THE CELL 'sum', in the pinned program and in every row, IS THE sha256 OF THE DUMP (.gsa) THAT YtamhlbdjjfdbiaaDoorProg.lean LOADS. Nothing in Lean hashes anything: it is a label: what it is worth is what the hold of that sum in a sandbox is worth. -/
noncomputable def Tryd.pinned : Pinned := { name := "ytamhlbdjjfdbiaadoor", sum := "f0c16b585c7dbc871db1eb2674695ca580ae1bed72ff959868e23dc3a4ade673", checked := Tryd.checked }
namespace Rows
def none {H : Type} : Left H := { results := [], args := [] }

/- WHAT THE LISTED PACKAGE-LEVEL VARIABLES READ AS WHEN THE CALL BEGINS. Each datum BY PROGRAM (the guide's laid-datum.mjs) off the statement by which the dump's own 'gosem.cut.vars' lays the variable. In a bare row this is a premise. The card (YtamhlbdjjfdbiaaDoorCards.lean) ties it to the program's text. -/
def laid_unicode_utf8_acceptRanges {H : Type} : DataW H := .agg [.agg [.lit (.int .u8 128), .lit (.int .u8 191)], .agg [.lit (.int .u8 160), .lit (.int .u8 191)], .agg [.lit (.int .u8 128), .lit (.int .u8 159)], .agg [.lit (.int .u8 144), .lit (.int .u8 191)], .agg [.lit (.int .u8 128), .lit (.int .u8 143)], .agg [.lit (.int .u8 0), .lit (.int .u8 0)], .agg [.lit (.int .u8 0), .lit (.int .u8 0)], .agg [.lit (.int .u8 0), .lit (.int .u8 0)], .agg [.lit (.int .u8 0), .lit (.int .u8 0)], .agg [.lit (.int .u8 0), .lit (.int .u8 0)], .agg [.lit (.int .u8 0), .lit (.int .u8 0)], .agg [.lit (.int .u8 0), .lit (.int .u8 0)], .agg [.lit (.int .u8 0), .lit (.int .u8 0)], .agg [.lit (.int .u8 0), .lit (.int .u8 0)], .agg [.lit (.int .u8 0), .lit (.int .u8 0)], .agg [.lit (.int .u8 0), .lit (.int .u8 0)]]
/-- One of Go's own tables, pinned by name: the form's constant. -/
def laid_unicode_utf8_first : DataW Unit := Go.Pinned.utf8First

/-- 'laws.FnExactTypoDistance': WHATEVER THE INPUT: true; the input reads as it did. -/
def fnExactTypoDistanceSpec : ChangeSpec := { name := "fnExactTypoDistance", fn := fun _ => fun
  | [d1, d2] => { results := [.lit (.bool true)], args := [d1, d2] }
  | _ => none }
def fnExactTypoDistanceRow : OpenClaim := { program := "ytamhlbdjjfdbiaadoor", sum := "f0c16b585c7dbc871db1eb2674695ca580ae1bed72ff959868e23dc3a4ade673", func := "loop.example/g01350/laws.FnExactTypoDistance", spec := "fnExactTypoDistance", inPlace := ["internal/bytealg.IndexByteString", "internal/bytealg.IndexString"], named := ["unicode/utf8.first", "unicode/utf8.acceptRanges", "internal/bytealg.MaxLen"], apart := false, laid := [("unicode/utf8.acceptRanges", laid_unicode_utf8_acceptRanges), ("unicode/utf8.first", laid_unicode_utf8_first)] }
def FnExactTypoDistanceSaid : Prop := fnExactTypoDistanceRow.holds Tryd.pinned (OpenSpec.ofChange fnExactTypoDistanceSpec)

/-- ITS FALSE NEIGHBOUR: 'it returns false'. Refute it at one input. -/
def fnExactTypoDistanceWrong : ChangeSpec := { name := "fnExactTypoDistance", fn := fun _ => fun
  | [d1, d2] => { results := [.lit (.bool false)], args := [d1, d2] }
  | _ => none }
def FnExactTypoDistanceWrongFalsely : Prop := fnExactTypoDistanceRow.holds Tryd.pinned (OpenSpec.ofChange fnExactTypoDistanceWrong)

/-- 'laws.FnExactIsOneTypo': WHATEVER THE INPUT: true; the input reads as it did. -/
def fnExactIsOneTypoSpec : ChangeSpec := { name := "fnExactIsOneTypo", fn := fun _ => fun
  | [d1, d2] => { results := [.lit (.bool true)], args := [d1, d2] }
  | _ => none }
def fnExactIsOneTypoRow : OpenClaim := { program := "ytamhlbdjjfdbiaadoor", sum := "f0c16b585c7dbc871db1eb2674695ca580ae1bed72ff959868e23dc3a4ade673", func := "loop.example/g01350/laws.FnExactIsOneTypo", spec := "fnExactIsOneTypo", inPlace := ["internal/bytealg.IndexByteString", "internal/bytealg.IndexString"], named := ["unicode/utf8.first", "unicode/utf8.acceptRanges", "internal/bytealg.MaxLen"], apart := false, laid := [("unicode/utf8.acceptRanges", laid_unicode_utf8_acceptRanges), ("unicode/utf8.first", laid_unicode_utf8_first)] }
def FnExactIsOneTypoSaid : Prop := fnExactIsOneTypoRow.holds Tryd.pinned (OpenSpec.ofChange fnExactIsOneTypoSpec)

/-- ITS FALSE NEIGHBOUR: 'it returns false'. Refute it at one input. -/
def fnExactIsOneTypoWrong : ChangeSpec := { name := "fnExactIsOneTypo", fn := fun _ => fun
  | [d1, d2] => { results := [.lit (.bool false)], args := [d1, d2] }
  | _ => none }
def FnExactIsOneTypoWrongFalsely : Prop := fnExactIsOneTypoRow.holds Tryd.pinned (OpenSpec.ofChange fnExactIsOneTypoWrong)

/-- 'laws.FnExactFirstTypos': WHATEVER THE INPUT: true; the input reads as it did. -/
def fnExactFirstTyposSpec : ChangeSpec := { name := "fnExactFirstTypos", fn := fun _ => fun
  | [d1, d2] => { results := [.lit (.bool true)], args := [d1, d2] }
  | _ => none }
def fnExactFirstTyposRow : OpenClaim := { program := "ytamhlbdjjfdbiaadoor", sum := "f0c16b585c7dbc871db1eb2674695ca580ae1bed72ff959868e23dc3a4ade673", func := "loop.example/g01350/laws.FnExactFirstTypos", spec := "fnExactFirstTypos", inPlace := ["internal/bytealg.IndexByteString", "internal/bytealg.IndexString"], named := ["unicode/utf8.first", "unicode/utf8.acceptRanges", "internal/bytealg.MaxLen"], apart := false, laid := [("unicode/utf8.acceptRanges", laid_unicode_utf8_acceptRanges), ("unicode/utf8.first", laid_unicode_utf8_first)] }
def FnExactFirstTyposSaid : Prop := fnExactFirstTyposRow.holds Tryd.pinned (OpenSpec.ofChange fnExactFirstTyposSpec)

/-- ITS FALSE NEIGHBOUR: 'it returns false'. Refute it at one input. -/
def fnExactFirstTyposWrong : ChangeSpec := { name := "fnExactFirstTypos", fn := fun _ => fun
  | [d1, d2] => { results := [.lit (.bool false)], args := [d1, d2] }
  | _ => none }
def FnExactFirstTyposWrongFalsely : Prop := fnExactFirstTyposRow.holds Tryd.pinned (OpenSpec.ofChange fnExactFirstTyposWrong)

/-- 'laws.FnExactApplyTypos': WHATEVER THE INPUT: true; the input reads as it did. -/
def fnExactApplyTyposSpec : ChangeSpec := { name := "fnExactApplyTypos", fn := fun _ => fun
  | [d1, d2, d3] => { results := [.lit (.bool true)], args := [d1, d2, d3] }
  | _ => none }
def fnExactApplyTyposRow : OpenClaim := { program := "ytamhlbdjjfdbiaadoor", sum := "f0c16b585c7dbc871db1eb2674695ca580ae1bed72ff959868e23dc3a4ade673", func := "loop.example/g01350/laws.FnExactApplyTypos", spec := "fnExactApplyTypos", inPlace := ["internal/bytealg.IndexByteString", "internal/bytealg.IndexString"], named := ["unicode/utf8.first", "unicode/utf8.acceptRanges", "internal/bytealg.MaxLen"], apart := false, laid := [("unicode/utf8.acceptRanges", laid_unicode_utf8_acceptRanges), ("unicode/utf8.first", laid_unicode_utf8_first)] }
def FnExactApplyTyposSaid : Prop := fnExactApplyTyposRow.holds Tryd.pinned (OpenSpec.ofChange fnExactApplyTyposSpec)

/-- ITS FALSE NEIGHBOUR: 'it returns false'. Refute it at one input. -/
def fnExactApplyTyposWrong : ChangeSpec := { name := "fnExactApplyTypos", fn := fun _ => fun
  | [d1, d2, d3] => { results := [.lit (.bool false)], args := [d1, d2, d3] }
  | _ => none }
def FnExactApplyTyposWrongFalsely : Prop := fnExactApplyTyposRow.holds Tryd.pinned (OpenSpec.ofChange fnExactApplyTyposWrong)

/-- 'laws.FnExactCommonLength': WHATEVER THE INPUT: true; the input reads as it did. -/
def fnExactCommonLengthSpec : ChangeSpec := { name := "fnExactCommonLength", fn := fun _ => fun
  | [d1, d2] => { results := [.lit (.bool true)], args := [d1, d2] }
  | _ => none }
def fnExactCommonLengthRow : OpenClaim := { program := "ytamhlbdjjfdbiaadoor", sum := "f0c16b585c7dbc871db1eb2674695ca580ae1bed72ff959868e23dc3a4ade673", func := "loop.example/g01350/laws.FnExactCommonLength", spec := "fnExactCommonLength", inPlace := ["internal/bytealg.IndexByteString", "internal/bytealg.IndexString", "internal/bytealg.abigen_runtime_cmpstring"], unfollowed := true, recurses := true, named := ["unicode/utf8.first", "unicode/utf8.acceptRanges", "internal/bytealg.MaxLen"], apart := false, laid := [("unicode/utf8.acceptRanges", laid_unicode_utf8_acceptRanges), ("unicode/utf8.first", laid_unicode_utf8_first)] }
def FnExactCommonLengthSaid : Prop := fnExactCommonLengthRow.holds Tryd.pinned (OpenSpec.ofChange fnExactCommonLengthSpec)

/-- ITS FALSE NEIGHBOUR: 'it returns false'. Refute it at one input. -/
def fnExactCommonLengthWrong : ChangeSpec := { name := "fnExactCommonLength", fn := fun _ => fun
  | [d1, d2] => { results := [.lit (.bool false)], args := [d1, d2] }
  | _ => none }
def FnExactCommonLengthWrongFalsely : Prop := fnExactCommonLengthRow.holds Tryd.pinned (OpenSpec.ofChange fnExactCommonLengthWrong)

/-- 'laws.FnExactFirstCommon': WHATEVER THE INPUT: true; the input reads as it did. -/
def fnExactFirstCommonSpec : ChangeSpec := { name := "fnExactFirstCommon", fn := fun _ => fun
  | [d1, d2] => { results := [.lit (.bool true)], args := [d1, d2] }
  | _ => none }
def fnExactFirstCommonRow : OpenClaim := { program := "ytamhlbdjjfdbiaadoor", sum := "f0c16b585c7dbc871db1eb2674695ca580ae1bed72ff959868e23dc3a4ade673", func := "loop.example/g01350/laws.FnExactFirstCommon", spec := "fnExactFirstCommon", inPlace := ["internal/bytealg.IndexByteString", "internal/bytealg.IndexString", "internal/bytealg.abigen_runtime_cmpstring"], unfollowed := true, recurses := true, named := ["unicode/utf8.first", "unicode/utf8.acceptRanges", "internal/bytealg.MaxLen"], apart := false, laid := [("unicode/utf8.acceptRanges", laid_unicode_utf8_acceptRanges), ("unicode/utf8.first", laid_unicode_utf8_first)] }
def FnExactFirstCommonSaid : Prop := fnExactFirstCommonRow.holds Tryd.pinned (OpenSpec.ofChange fnExactFirstCommonSpec)

/-- ITS FALSE NEIGHBOUR: 'it returns false'. Refute it at one input. -/
def fnExactFirstCommonWrong : ChangeSpec := { name := "fnExactFirstCommon", fn := fun _ => fun
  | [d1, d2] => { results := [.lit (.bool false)], args := [d1, d2] }
  | _ => none }
def FnExactFirstCommonWrongFalsely : Prop := fnExactFirstCommonRow.holds Tryd.pinned (OpenSpec.ofChange fnExactFirstCommonWrong)

/-- 'laws.FnExactUnstuckText': WHATEVER THE INPUT: true; the input reads as it did. -/
def fnExactUnstuckTextSpec : ChangeSpec := { name := "fnExactUnstuckText", fn := fun _ => fun
  | [d1, d2] => { results := [.lit (.bool true)], args := [d1, d2] }
  | _ => none }
def fnExactUnstuckTextRow : OpenClaim := { program := "ytamhlbdjjfdbiaadoor", sum := "f0c16b585c7dbc871db1eb2674695ca580ae1bed72ff959868e23dc3a4ade673", func := "loop.example/g01350/laws.FnExactUnstuckText", spec := "fnExactUnstuckText", inPlace := ["internal/bytealg.IndexByteString", "internal/bytealg.IndexString"], named := ["unicode/utf8.first", "unicode/utf8.acceptRanges", "internal/bytealg.MaxLen"], apart := false, laid := [("unicode/utf8.acceptRanges", laid_unicode_utf8_acceptRanges), ("unicode/utf8.first", laid_unicode_utf8_first)] }
def FnExactUnstuckTextSaid : Prop := fnExactUnstuckTextRow.holds Tryd.pinned (OpenSpec.ofChange fnExactUnstuckTextSpec)

/-- ITS FALSE NEIGHBOUR: 'it returns false'. Refute it at one input. -/
def fnExactUnstuckTextWrong : ChangeSpec := { name := "fnExactUnstuckText", fn := fun _ => fun
  | [d1, d2] => { results := [.lit (.bool false)], args := [d1, d2] }
  | _ => none }
def FnExactUnstuckTextWrongFalsely : Prop := fnExactUnstuckTextRow.holds Tryd.pinned (OpenSpec.ofChange fnExactUnstuckTextWrong)

/-- 'laws.FnExactWordsWithin': WHATEVER THE INPUT: true; the input reads as it did. -/
def fnExactWordsWithinSpec : ChangeSpec := { name := "fnExactWordsWithin", fn := fun _ => fun
  | [d1, d2, d3] => { results := [.lit (.bool true)], args := [d1, d2, d3] }
  | _ => none }
def fnExactWordsWithinRow : OpenClaim := { program := "ytamhlbdjjfdbiaadoor", sum := "f0c16b585c7dbc871db1eb2674695ca580ae1bed72ff959868e23dc3a4ade673", func := "loop.example/g01350/laws.FnExactWordsWithin", spec := "fnExactWordsWithin", inPlace := ["internal/bytealg.IndexByteString", "internal/bytealg.IndexString"], unfollowed := true, recurses := true, named := ["unicode/utf8.first", "unicode/utf8.acceptRanges", "internal/bytealg.MaxLen"], apart := false, laid := [("unicode/utf8.acceptRanges", laid_unicode_utf8_acceptRanges), ("unicode/utf8.first", laid_unicode_utf8_first)] }
def FnExactWordsWithinSaid : Prop := fnExactWordsWithinRow.holds Tryd.pinned (OpenSpec.ofChange fnExactWordsWithinSpec)

/-- ITS FALSE NEIGHBOUR: 'it returns false'. Refute it at one input. -/
def fnExactWordsWithinWrong : ChangeSpec := { name := "fnExactWordsWithin", fn := fun _ => fun
  | [d1, d2, d3] => { results := [.lit (.bool false)], args := [d1, d2, d3] }
  | _ => none }
def FnExactWordsWithinWrongFalsely : Prop := fnExactWordsWithinRow.holds Tryd.pinned (OpenSpec.ofChange fnExactWordsWithinWrong)

/-- 'laws.FnExactNearestWords': WHATEVER THE INPUT: true; the input reads as it did. -/
def fnExactNearestWordsSpec : ChangeSpec := { name := "fnExactNearestWords", fn := fun _ => fun
  | [d1, d2] => { results := [.lit (.bool true)], args := [d1, d2] }
  | _ => none }
def fnExactNearestWordsRow : OpenClaim := { program := "ytamhlbdjjfdbiaadoor", sum := "f0c16b585c7dbc871db1eb2674695ca580ae1bed72ff959868e23dc3a4ade673", func := "loop.example/g01350/laws.FnExactNearestWords", spec := "fnExactNearestWords", inPlace := ["internal/bytealg.IndexByteString", "internal/bytealg.IndexString"], unfollowed := true, recurses := true, named := ["unicode/utf8.first", "unicode/utf8.acceptRanges", "internal/bytealg.MaxLen"], apart := false, laid := [("unicode/utf8.acceptRanges", laid_unicode_utf8_acceptRanges), ("unicode/utf8.first", laid_unicode_utf8_first)] }
def FnExactNearestWordsSaid : Prop := fnExactNearestWordsRow.holds Tryd.pinned (OpenSpec.ofChange fnExactNearestWordsSpec)

/-- ITS FALSE NEIGHBOUR: 'it returns false'. Refute it at one input. -/
def fnExactNearestWordsWrong : ChangeSpec := { name := "fnExactNearestWords", fn := fun _ => fun
  | [d1, d2] => { results := [.lit (.bool false)], args := [d1, d2] }
  | _ => none }
def FnExactNearestWordsWrongFalsely : Prop := fnExactNearestWordsRow.holds Tryd.pinned (OpenSpec.ofChange fnExactNearestWordsWrong)

/- THE SECOND FORM. 'bulk': how many values and letters a reading holds, each counted each time it is reached (what is shared counts as often as it is met; a slice's spare places count too). A statement '..UptoSaid' is the law's where the arguments, and the package variables that the reading takes, are together of bulk at most 1048576: NARROWER than '..Said'. Prove '..Said' where nothing that the law and all that it calls make is longer than what came in: it says more and counts as full. Else prove '..UptoSaid'. A law counts once. -/
mutual
def uptoBulk {H : Type} : DataW H → Nat
  | .lit (.string bytes) => bytes.length + 1
  | .lit _ => 1
  | .nil => 1
  | .ptr d => uptoBulk d + 1
  | .slice elems spare => uptoBulkAll elems + uptoBulkAll spare + 1
  | .agg parts => uptoBulkAll parts + 1
  | .iface _ d => uptoBulk d + 1
  | .map entries => uptoBulkEntries entries + 1
  | .held _ => 1
def uptoBulkAll {H : Type} : List (DataW H) → Nat
  | [] => 0
  | d :: r => uptoBulk d + uptoBulkAll r
def uptoBulkEntries {H : Type} : List (Lit × DataW H) → Nat
  | [] => 0
  | x :: r => uptoBulkEntry x + uptoBulkEntries r
def uptoBulkEntry {H : Type} : Lit × DataW H → Nat
  | (.string bytes, d) => bytes.length + uptoBulk d + 1
  | (_, d) => uptoBulk d + 1
 end
def uptoSmall : (H : Type) → List (DataW H) → Bool := fun _ ds => decide (uptoBulkAll ds ≤ 1048576)
def OpenSpec.upto (s : _root_.Go.ChangeSpec) : _root_.Go.OpenSpec := { _root_.Go.OpenSpec.ofChange s with cond := some uptoSmall }

/-- 'laws.FnExactTypoDistance', WHERE WHAT IT READS IS OF BULK AT MOST 1048576: true; the input reads as it did. -/
def fnExactTypoDistanceUptoRow : OpenClaim := { program := "ytamhlbdjjfdbiaadoor", sum := "f0c16b585c7dbc871db1eb2674695ca580ae1bed72ff959868e23dc3a4ade673", func := "loop.example/g01350/laws.FnExactTypoDistance", spec := "fnExactTypoDistance", inPlace := ["internal/bytealg.IndexByteString", "internal/bytealg.IndexString"], named := ["unicode/utf8.first", "unicode/utf8.acceptRanges", "internal/bytealg.MaxLen"], apart := false, laid := [("unicode/utf8.acceptRanges", laid_unicode_utf8_acceptRanges), ("unicode/utf8.first", laid_unicode_utf8_first)], narrowed := true }
def FnExactTypoDistanceUptoSaid : Prop := fnExactTypoDistanceUptoRow.holds Tryd.pinned (OpenSpec.upto fnExactTypoDistanceSpec)

/-- 'laws.FnExactIsOneTypo', WHERE WHAT IT READS IS OF BULK AT MOST 1048576: true; the input reads as it did. -/
def fnExactIsOneTypoUptoRow : OpenClaim := { program := "ytamhlbdjjfdbiaadoor", sum := "f0c16b585c7dbc871db1eb2674695ca580ae1bed72ff959868e23dc3a4ade673", func := "loop.example/g01350/laws.FnExactIsOneTypo", spec := "fnExactIsOneTypo", inPlace := ["internal/bytealg.IndexByteString", "internal/bytealg.IndexString"], named := ["unicode/utf8.first", "unicode/utf8.acceptRanges", "internal/bytealg.MaxLen"], apart := false, laid := [("unicode/utf8.acceptRanges", laid_unicode_utf8_acceptRanges), ("unicode/utf8.first", laid_unicode_utf8_first)], narrowed := true }
def FnExactIsOneTypoUptoSaid : Prop := fnExactIsOneTypoUptoRow.holds Tryd.pinned (OpenSpec.upto fnExactIsOneTypoSpec)

/-- 'laws.FnExactFirstTypos', WHERE WHAT IT READS IS OF BULK AT MOST 1048576: true; the input reads as it did. -/
def fnExactFirstTyposUptoRow : OpenClaim := { program := "ytamhlbdjjfdbiaadoor", sum := "f0c16b585c7dbc871db1eb2674695ca580ae1bed72ff959868e23dc3a4ade673", func := "loop.example/g01350/laws.FnExactFirstTypos", spec := "fnExactFirstTypos", inPlace := ["internal/bytealg.IndexByteString", "internal/bytealg.IndexString"], named := ["unicode/utf8.first", "unicode/utf8.acceptRanges", "internal/bytealg.MaxLen"], apart := false, laid := [("unicode/utf8.acceptRanges", laid_unicode_utf8_acceptRanges), ("unicode/utf8.first", laid_unicode_utf8_first)], narrowed := true }
def FnExactFirstTyposUptoSaid : Prop := fnExactFirstTyposUptoRow.holds Tryd.pinned (OpenSpec.upto fnExactFirstTyposSpec)

/-- 'laws.FnExactApplyTypos', WHERE WHAT IT READS IS OF BULK AT MOST 1048576: true; the input reads as it did. -/
def fnExactApplyTyposUptoRow : OpenClaim := { program := "ytamhlbdjjfdbiaadoor", sum := "f0c16b585c7dbc871db1eb2674695ca580ae1bed72ff959868e23dc3a4ade673", func := "loop.example/g01350/laws.FnExactApplyTypos", spec := "fnExactApplyTypos", inPlace := ["internal/bytealg.IndexByteString", "internal/bytealg.IndexString"], named := ["unicode/utf8.first", "unicode/utf8.acceptRanges", "internal/bytealg.MaxLen"], apart := false, laid := [("unicode/utf8.acceptRanges", laid_unicode_utf8_acceptRanges), ("unicode/utf8.first", laid_unicode_utf8_first)], narrowed := true }
def FnExactApplyTyposUptoSaid : Prop := fnExactApplyTyposUptoRow.holds Tryd.pinned (OpenSpec.upto fnExactApplyTyposSpec)

/-- 'laws.FnExactCommonLength', WHERE WHAT IT READS IS OF BULK AT MOST 1048576: true; the input reads as it did. -/
def fnExactCommonLengthUptoRow : OpenClaim := { program := "ytamhlbdjjfdbiaadoor", sum := "f0c16b585c7dbc871db1eb2674695ca580ae1bed72ff959868e23dc3a4ade673", func := "loop.example/g01350/laws.FnExactCommonLength", spec := "fnExactCommonLength", inPlace := ["internal/bytealg.IndexByteString", "internal/bytealg.IndexString", "internal/bytealg.abigen_runtime_cmpstring"], unfollowed := true, recurses := true, named := ["unicode/utf8.first", "unicode/utf8.acceptRanges", "internal/bytealg.MaxLen"], apart := false, laid := [("unicode/utf8.acceptRanges", laid_unicode_utf8_acceptRanges), ("unicode/utf8.first", laid_unicode_utf8_first)], narrowed := true }
def FnExactCommonLengthUptoSaid : Prop := fnExactCommonLengthUptoRow.holds Tryd.pinned (OpenSpec.upto fnExactCommonLengthSpec)

/-- 'laws.FnExactFirstCommon', WHERE WHAT IT READS IS OF BULK AT MOST 1048576: true; the input reads as it did. -/
def fnExactFirstCommonUptoRow : OpenClaim := { program := "ytamhlbdjjfdbiaadoor", sum := "f0c16b585c7dbc871db1eb2674695ca580ae1bed72ff959868e23dc3a4ade673", func := "loop.example/g01350/laws.FnExactFirstCommon", spec := "fnExactFirstCommon", inPlace := ["internal/bytealg.IndexByteString", "internal/bytealg.IndexString", "internal/bytealg.abigen_runtime_cmpstring"], unfollowed := true, recurses := true, named := ["unicode/utf8.first", "unicode/utf8.acceptRanges", "internal/bytealg.MaxLen"], apart := false, laid := [("unicode/utf8.acceptRanges", laid_unicode_utf8_acceptRanges), ("unicode/utf8.first", laid_unicode_utf8_first)], narrowed := true }
def FnExactFirstCommonUptoSaid : Prop := fnExactFirstCommonUptoRow.holds Tryd.pinned (OpenSpec.upto fnExactFirstCommonSpec)

/-- 'laws.FnExactUnstuckText', WHERE WHAT IT READS IS OF BULK AT MOST 1048576: true; the input reads as it did. -/
def fnExactUnstuckTextUptoRow : OpenClaim := { program := "ytamhlbdjjfdbiaadoor", sum := "f0c16b585c7dbc871db1eb2674695ca580ae1bed72ff959868e23dc3a4ade673", func := "loop.example/g01350/laws.FnExactUnstuckText", spec := "fnExactUnstuckText", inPlace := ["internal/bytealg.IndexByteString", "internal/bytealg.IndexString"], named := ["unicode/utf8.first", "unicode/utf8.acceptRanges", "internal/bytealg.MaxLen"], apart := false, laid := [("unicode/utf8.acceptRanges", laid_unicode_utf8_acceptRanges), ("unicode/utf8.first", laid_unicode_utf8_first)], narrowed := true }
def FnExactUnstuckTextUptoSaid : Prop := fnExactUnstuckTextUptoRow.holds Tryd.pinned (OpenSpec.upto fnExactUnstuckTextSpec)

/-- 'laws.FnExactWordsWithin', WHERE WHAT IT READS IS OF BULK AT MOST 1048576: true; the input reads as it did. -/
def fnExactWordsWithinUptoRow : OpenClaim := { program := "ytamhlbdjjfdbiaadoor", sum := "f0c16b585c7dbc871db1eb2674695ca580ae1bed72ff959868e23dc3a4ade673", func := "loop.example/g01350/laws.FnExactWordsWithin", spec := "fnExactWordsWithin", inPlace := ["internal/bytealg.IndexByteString", "internal/bytealg.IndexString"], unfollowed := true, recurses := true, named := ["unicode/utf8.first", "unicode/utf8.acceptRanges", "internal/bytealg.MaxLen"], apart := false, laid := [("unicode/utf8.acceptRanges", laid_unicode_utf8_acceptRanges), ("unicode/utf8.first", laid_unicode_utf8_first)], narrowed := true }
def FnExactWordsWithinUptoSaid : Prop := fnExactWordsWithinUptoRow.holds Tryd.pinned (OpenSpec.upto fnExactWordsWithinSpec)

/-- 'laws.FnExactNearestWords', WHERE WHAT IT READS IS OF BULK AT MOST 1048576: true; the input reads as it did. -/
def fnExactNearestWordsUptoRow : OpenClaim := { program := "ytamhlbdjjfdbiaadoor", sum := "f0c16b585c7dbc871db1eb2674695ca580ae1bed72ff959868e23dc3a4ade673", func := "loop.example/g01350/laws.FnExactNearestWords", spec := "fnExactNearestWords", inPlace := ["internal/bytealg.IndexByteString", "internal/bytealg.IndexString"], unfollowed := true, recurses := true, named := ["unicode/utf8.first", "unicode/utf8.acceptRanges", "internal/bytealg.MaxLen"], apart := false, laid := [("unicode/utf8.acceptRanges", laid_unicode_utf8_acceptRanges), ("unicode/utf8.first", laid_unicode_utf8_first)], narrowed := true }
def FnExactNearestWordsUptoSaid : Prop := fnExactNearestWordsUptoRow.holds Tryd.pinned (OpenSpec.upto fnExactNearestWordsSpec)

end Rows
end Go.Proofs.YtamhlbdjjfdbiaaDoor
