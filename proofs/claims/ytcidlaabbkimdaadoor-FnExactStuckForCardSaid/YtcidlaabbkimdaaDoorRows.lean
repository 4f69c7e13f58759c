/-
  NARROWER THAN 'FOR EVERY INPUT', by the rows' own cells (each row's printed sentence says how): FnExactLettersOf: laid · FnExactCountShown: laid · FnExactCanShow: laid · FnExactDeadFor: laid · FnExactStuckFor: laid · FnExactSwapsOf: laid · FnExactWrongOnKey: laid.
  DERIVED. THE GIVEN ROWS OF THIS SEAT. 7 by the template 'for every input the law returns true; each argument reads behind the call as it read before'; 0 by the template 'total and deterministic' (their statements: YtcidlaabbkimdaaDoorTotals.lean).
  GIVEN WITH THE SEED: the statements are not yours to turn. If you find one false, say at which input.
  Laid BY PROGRAM, IN A SANDBOX (cutbox-rows.mjs): the forced cells as the released guide's own fill.sh prints them over the translation 3ca04b19388ef51b… (all of the seat's roots in one cut). By AI agents, Wed Nov 11 2026. No macro, syntax, notation, axiom, sorry.
-/
import Derived.Test.YtcidlaabbkimdaaDoorChecked
import GoSem.PinnedTables
import GoSem.Claim
import GoSem.ClaimJoined
import GoSem.ClaimMapViews
import Derived.JoinedTies
import Derived.KernelRfl
namespace Go.Proofs.YtcidlaabbkimdaaDoor
/- THE CELL 'sum', in the pinned program and in every row, IS THE sha256 OF THE DUMP (.gsa) THAT YtcidlaabbkimdaaDoorProg.lean LOADS. Nothing in Lean hashes anything: it is a label: what it is worth is what the hold of that sum in a sandbox is worth. -/
noncomputable def Tryd.pinned : Pinned := { name := "ytcidlaabbkimdaadoor", sum := "3ca04b19388ef51bb4a2dcb869e1413767e9ad46247e6d7c2b81fa6a9ed3b57b", checked := Tryd.checked }
namespace Rows
def none {H : Type} : Left H := { results := [], args := [] }

/- WHAT THE LISTED PACKAGE-LEVEL VARIABLES READ AS WHEN THE CALL BEGINS. Each datum BY PROGRAM (the guide's laid-datum.mjs) off the statement by which the dump's own 'gosem.cut.vars' lays the variable. In a bare row this is a premise. The card (YtcidlaabbkimdaaDoorCards.lean) ties it to the program's text. -/
def laid_unicode_utf8_acceptRanges {H : Type} : DataW H := .agg [.agg [.lit (.int .u8 128), .lit (.int .u8 191)], .agg [.lit (.int .u8 160), .lit (.int .u8 191)], .agg [.lit (.int .u8 128), .lit (.int .u8 159)], .agg [.lit (.int .u8 144), .lit (.int .u8 191)], .agg [.lit (.int .u8 128), .lit (.int .u8 143)], .agg [.lit (.int .u8 0), .lit (.int .u8 0)], .agg [.lit (.int .u8 0), .lit (.int .u8 0)], .agg [.lit (.int .u8 0), .lit (.int .u8 0)], .agg [.lit (.int .u8 0), .lit (.int .u8 0)], .agg [.lit (.int .u8 0), .lit (.int .u8 0)], .agg [.lit (.int .u8 0), .lit (.int .u8 0)], .agg [.lit (.int .u8 0), .lit (.int .u8 0)], .agg [.lit (.int .u8 0), .lit (.int .u8 0)], .agg [.lit (.int .u8 0), .lit (.int .u8 0)], .agg [.lit (.int .u8 0), .lit (.int .u8 0)], .agg [.lit (.int .u8 0), .lit (.int .u8 0)]]
/-- One of Go's own tables, pinned by name: the form's constant. -/
def laid_unicode_utf8_first : DataW Unit := Go.Pinned.utf8First

/-- 'laws.FnExactLettersOf': WHATEVER THE INPUT: true; the input reads as it did. -/
def fnExactLettersOfSpec : ChangeSpec := { name := "fnExactLettersOf", fn := fun _ => fun
  | [d] => { results := [.lit (.bool true)], args := [d] }
  | _ => none }
def fnExactLettersOfRow : OpenClaim := { program := "ytcidlaabbkimdaadoor", sum := "3ca04b19388ef51bb4a2dcb869e1413767e9ad46247e6d7c2b81fa6a9ed3b57b", func := "loop.example/g01350/laws.FnExactLettersOf", spec := "fnExactLettersOf", inPlace := ["internal/bytealg.IndexByteString", "internal/bytealg.IndexString"], recurses := true, named := ["unicode/utf8.first", "unicode/utf8.acceptRanges", "internal/bytealg.MaxLen"], apart := false, laid := [("unicode/utf8.acceptRanges", laid_unicode_utf8_acceptRanges), ("unicode/utf8.first", laid_unicode_utf8_first)] }
def FnExactLettersOfSaid : Prop := fnExactLettersOfRow.holds Tryd.pinned (OpenSpec.ofChange fnExactLettersOfSpec)

/-- ITS FALSE NEIGHBOUR: 'it returns false'. Refute it at one input. -/
def fnExactLettersOfWrong : ChangeSpec := { name := "fnExactLettersOf", fn := fun _ => fun
  | [d] => { results := [.lit (.bool false)], args := [d] }
  | _ => none }
def FnExactLettersOfWrongFalsely : Prop := fnExactLettersOfRow.holds Tryd.pinned (OpenSpec.ofChange fnExactLettersOfWrong)

/-- 'laws.FnExactCountShown': WHATEVER THE INPUT: true; the input reads as it did. -/
def fnExactCountShownSpec : ChangeSpec := { name := "fnExactCountShown", fn := fun _ => fun
  | [d] => { results := [.lit (.bool true)], args := [d] }
  | _ => none }
def fnExactCountShownRow : OpenClaim := { program := "ytcidlaabbkimdaadoor", sum := "3ca04b19388ef51bb4a2dcb869e1413767e9ad46247e6d7c2b81fa6a9ed3b57b", func := "loop.example/g01350/laws.FnExactCountShown", spec := "fnExactCountShown", inPlace := ["internal/bytealg.IndexByteString", "internal/bytealg.IndexString"], recurses := true, named := ["unicode/utf8.first", "unicode/utf8.acceptRanges", "internal/bytealg.MaxLen"], apart := false, laid := [("unicode/utf8.acceptRanges", laid_unicode_utf8_acceptRanges), ("unicode/utf8.first", laid_unicode_utf8_first)] }
def FnExactCountShownSaid : Prop := fnExactCountShownRow.holds Tryd.pinned (OpenSpec.ofChange fnExactCountShownSpec)

/-- ITS FALSE NEIGHBOUR: 'it returns false'. Refute it at one input. -/
def fnExactCountShownWrong : ChangeSpec := { name := "fnExactCountShown", fn := fun _ => fun
  | [d] => { results := [.lit (.bool false)], args := [d] }
  | _ => none }
def FnExactCountShownWrongFalsely : Prop := fnExactCountShownRow.holds Tryd.pinned (OpenSpec.ofChange fnExactCountShownWrong)

/-- 'laws.FnExactCanShow': WHATEVER THE INPUT: true; the input reads as it did. -/
def fnExactCanShowSpec : ChangeSpec := { name := "fnExactCanShow", fn := fun _ => fun
  | [d1, d2] => { results := [.lit (.bool true)], args := [d1, d2] }
  | _ => none }
def fnExactCanShowRow : OpenClaim := { program := "ytcidlaabbkimdaadoor", sum := "3ca04b19388ef51bb4a2dcb869e1413767e9ad46247e6d7c2b81fa6a9ed3b57b", func := "loop.example/g01350/laws.FnExactCanShow", spec := "fnExactCanShow", inPlace := ["internal/bytealg.IndexByteString", "internal/bytealg.IndexString", "internal/bytealg.CountString"], recurses := true, named := ["unicode/utf8.first", "unicode/utf8.acceptRanges", "internal/bytealg.MaxLen"], apart := false, laid := [("unicode/utf8.acceptRanges", laid_unicode_utf8_acceptRanges), ("unicode/utf8.first", laid_unicode_utf8_first)] }
def FnExactCanShowSaid : Prop := fnExactCanShowRow.holds Tryd.pinned (OpenSpec.ofChange fnExactCanShowSpec)

/-- ITS FALSE NEIGHBOUR: 'it returns false'. Refute it at one input. -/
def fnExactCanShowWrong : ChangeSpec := { name := "fnExactCanShow", fn := fun _ => fun
  | [d1, d2] => { results := [.lit (.bool false)], args := [d1, d2] }
  | _ => none }
def FnExactCanShowWrongFalsely : Prop := fnExactCanShowRow.holds Tryd.pinned (OpenSpec.ofChange fnExactCanShowWrong)

/-- 'laws.FnExactDeadFor': WHATEVER THE INPUT: true; the input reads as it did. -/
def fnExactDeadForSpec : ChangeSpec := { name := "fnExactDeadFor", fn := fun _ => fun
  | [d1, d2] => { results := [.lit (.bool true)], args := [d1, d2] }
  | _ => none }
def fnExactDeadForRow : OpenClaim := { program := "ytcidlaabbkimdaadoor", sum := "3ca04b19388ef51bb4a2dcb869e1413767e9ad46247e6d7c2b81fa6a9ed3b57b", func := "loop.example/g01350/laws.FnExactDeadFor", spec := "fnExactDeadFor", inPlace := ["internal/bytealg.IndexByteString", "internal/bytealg.IndexString", "internal/bytealg.CountString"], recurses := true, named := ["unicode/utf8.first", "unicode/utf8.acceptRanges", "internal/bytealg.MaxLen"], apart := false, laid := [("unicode/utf8.acceptRanges", laid_unicode_utf8_acceptRanges), ("unicode/utf8.first", laid_unicode_utf8_first)] }
def FnExactDeadForSaid : Prop := fnExactDeadForRow.holds Tryd.pinned (OpenSpec.ofChange fnExactDeadForSpec)

/-- ITS FALSE NEIGHBOUR: 'it returns false'. Refute it at one input. -/
def fnExactDeadForWrong : ChangeSpec := { name := "fnExactDeadFor", fn := fun _ => fun
  | [d1, d2] => { results := [.lit (.bool false)], args := [d1, d2] }
  | _ => none }
def FnExactDeadForWrongFalsely : Prop := fnExactDeadForRow.holds Tryd.pinned (OpenSpec.ofChange fnExactDeadForWrong)

/-- 'laws.FnExactStuckFor': WHATEVER THE INPUT: true; the input reads as it did. -/
def fnExactStuckForSpec : ChangeSpec := { name := "fnExactStuckFor", fn := fun _ => fun
  | [d1, d2] => { results := [.lit (.bool true)], args := [d1, d2] }
  | _ => none }
def fnExactStuckForRow : OpenClaim := { program := "ytcidlaabbkimdaadoor", sum := "3ca04b19388ef51bb4a2dcb869e1413767e9ad46247e6d7c2b81fa6a9ed3b57b", func := "loop.example/g01350/laws.FnExactStuckFor", spec := "fnExactStuckFor", inPlace := ["internal/bytealg.IndexByteString", "internal/bytealg.IndexString", "internal/bytealg.CountString"], recurses := true, named := ["unicode/utf8.first", "unicode/utf8.acceptRanges", "internal/bytealg.MaxLen"], apart := false, laid := [("unicode/utf8.acceptRanges", laid_unicode_utf8_acceptRanges), ("unicode/utf8.first", laid_unicode_utf8_first)] }
def FnExactStuckForSaid : Prop := fnExactStuckForRow.holds Tryd.pinned (OpenSpec.ofChange fnExactStuckForSpec)

/-- ITS FALSE NEIGHBOUR: 'it returns false'. Refute it at one input. -/
def fnExactStuckForWrong : ChangeSpec := { name := "fnExactStuckFor", fn := fun _ => fun
  | [d1, d2] => { results := [.lit (.bool false)], args := [d1, d2] }
  | _ => none }
def FnExactStuckForWrongFalsely : Prop := fnExactStuckForRow.holds Tryd.pinned (OpenSpec.ofChange fnExactStuckForWrong)

/-- 'laws.FnExactSwapsOf': WHATEVER THE INPUT: true; the input reads as it did. -/
def fnExactSwapsOfSpec : ChangeSpec := { name := "fnExactSwapsOf", fn := fun _ => fun
  | [d] => { results := [.lit (.bool true)], args := [d] }
  | _ => none }
def fnExactSwapsOfRow : OpenClaim := { program := "ytcidlaabbkimdaadoor", sum := "3ca04b19388ef51bb4a2dcb869e1413767e9ad46247e6d7c2b81fa6a9ed3b57b", func := "loop.example/g01350/laws.FnExactSwapsOf", spec := "fnExactSwapsOf", inPlace := ["internal/bytealg.IndexByteString", "internal/bytealg.IndexString"], recurses := true, named := ["unicode/utf8.first", "unicode/utf8.acceptRanges", "internal/bytealg.MaxLen"], apart := false, laid := [("unicode/utf8.acceptRanges", laid_unicode_utf8_acceptRanges), ("unicode/utf8.first", laid_unicode_utf8_first)] }
def FnExactSwapsOfSaid : Prop := fnExactSwapsOfRow.holds Tryd.pinned (OpenSpec.ofChange fnExactSwapsOfSpec)

/-- ITS FALSE NEIGHBOUR: 'it returns false'. Refute it at one input. -/
def fnExactSwapsOfWrong : ChangeSpec := { name := "fnExactSwapsOf", fn := fun _ => fun
  | [d] => { results := [.lit (.bool false)], args := [d] }
  | _ => none }
def FnExactSwapsOfWrongFalsely : Prop := fnExactSwapsOfRow.holds Tryd.pinned (OpenSpec.ofChange fnExactSwapsOfWrong)

/-- 'laws.FnExactWrongOnKey': WHATEVER THE INPUT: true; the input reads as it did. -/
def fnExactWrongOnKeySpec : ChangeSpec := { name := "fnExactWrongOnKey", fn := fun _ => fun
  | [d] => { results := [.lit (.bool true)], args := [d] }
  | _ => none }
def fnExactWrongOnKeyRow : OpenClaim := { program := "ytcidlaabbkimdaadoor", sum := "3ca04b19388ef51bb4a2dcb869e1413767e9ad46247e6d7c2b81fa6a9ed3b57b", func := "loop.example/g01350/laws.FnExactWrongOnKey", spec := "fnExactWrongOnKey", inPlace := ["internal/bytealg.IndexByteString", "internal/bytealg.IndexString"], recurses := true, named := ["unicode/utf8.first", "unicode/utf8.acceptRanges", "internal/bytealg.MaxLen"], apart := false, laid := [("unicode/utf8.acceptRanges", laid_unicode_utf8_acceptRanges), ("unicode/utf8.first", laid_unicode_utf8_first)] }
def FnExactWrongOnKeySaid : Prop := fnExactWrongOnKeyRow.holds Tryd.pinned (OpenSpec.ofChange fnExactWrongOnKeySpec)

/-- ITS FALSE NEIGHBOUR: 'it returns false'. Refute it at one input. -/
def fnExactWrongOnKeyWrong : ChangeSpec := { name := "fnExactWrongOnKey", fn := fun _ => fun
  | [d] => { results := [.lit (.bool false)], args := [d] }
  | _ => none }
def FnExactWrongOnKeyWrongFalsely : Prop := fnExactWrongOnKeyRow.holds Tryd.pinned (OpenSpec.ofChange fnExactWrongOnKeyWrong)

/- THE SECOND FORM. 'bulk': how many values and letters a reading holds, each counted each time it is reached (what is shared counts as often as it is met; a slice's spare places count too). A statement '..UptoSaid' is the law's where the arguments, and the package variables that the reading takes, are together of bulk at most 1048576: NARROWER than '..Said'. Prove '..Said' where nothing that the law and all that it calls make is longer than what came in: it says more and counts as full. Else prove '..UptoSaid'. A law counts once. -/
mutual
def uptoBulk {H : Type} : DataW H → Nat
  | .lit (.string bytes) => bytes.length + 1
  | .lit _ => 1
  | .nil => 1
  | .ptr d => uptoBulk d + 1
  | .slice elems spare => uptoBulkAll elems + uptoBulkAll spare + 1
  | .agg parts => uptoBulkAll parts + 1
  | .iface _ d => uptoBulk d + 1
  | .map entries => uptoBulkEntries entries + 1
  | .held _ => 1
def uptoBulkAll {H : Type} : List (DataW H) → Nat
  | [] => 0
  | d :: r => uptoBulk d + uptoBulkAll r
def uptoBulkEntries {H : Type} : List (Lit × DataW H) → Nat
  | [] => 0
  | x :: r => uptoBulkEntry x + uptoBulkEntries r
def uptoBulkEntry {H : Type} : Lit × DataW H → Nat
  | (.string bytes, d) => bytes.length + uptoBulk d + 1
  | (_, d) => uptoBulk d + 1
 end
def uptoSmall : (H : Type) → List (DataW H) → Bool := fun _ ds => decide (uptoBulkAll ds ≤ 1048576)
def OpenSpec.upto (s : _root_.Go.ChangeSpec) : _root_.Go.OpenSpec := { _root_.Go.OpenSpec.ofChange s with cond := some uptoSmall }

/-- 'laws.FnExactLettersOf', WHERE WHAT IT READS IS OF BULK AT MOST 1048576: true; the input reads as it did. -/
def fnExactLettersOfUptoRow : OpenClaim := { program := "ytcidlaabbkimdaadoor", sum := "3ca04b19388ef51bb4a2dcb869e1413767e9ad46247e6d7c2b81fa6a9ed3b57b", func := "loop.example/g01350/laws.FnExactLettersOf", spec := "fnExactLettersOf", inPlace := ["internal/bytealg.IndexByteString", "internal/bytealg.IndexString"], recurses := true, named := ["unicode/utf8.first", "unicode/utf8.acceptRanges", "internal/bytealg.MaxLen"], apart := false, laid := [("unicode/utf8.acceptRanges", laid_unicode_utf8_acceptRanges), ("unicode/utf8.first", laid_unicode_utf8_first)], narrowed := true }
def FnExactLettersOfUptoSaid : Prop := fnExactLettersOfUptoRow.holds Tryd.pinned (OpenSpec.upto fnExactLettersOfSpec)

/-- 'laws.FnExactCountShown', WHERE WHAT IT READS IS OF BULK AT MOST 1048576: true; the input reads as it did. -/
def fnExactCountShownUptoRow : OpenClaim := { program := "ytcidlaabbkimdaadoor", sum := "3ca04b19388ef51bb4a2dcb869e1413767e9ad46247e6d7c2b81fa6a9ed3b57b", func := "loop.example/g01350/laws.FnExactCountShown", spec := "fnExactCountShown", inPlace := ["internal/bytealg.IndexByteString", "internal/bytealg.IndexString"], recurses := true, named := ["unicode/utf8.first", "unicode/utf8.acceptRanges", "internal/bytealg.MaxLen"], apart := false, laid := [("unicode/utf8.acceptRanges", laid_unicode_utf8_acceptRanges), ("unicode/utf8.first", laid_unicode_utf8_first)], narrowed := true }
def FnExactCountShownUptoSaid : Prop := fnExactCountShownUptoRow.holds Tryd.pinned (OpenSpec.upto fnExactCountShownSpec)

/-- 'laws.FnExactCanShow', WHERE WHAT IT READS IS OF BULK AT MOST 1048576: true; the input reads as it did. -/
def fnExactCanShowUptoRow : OpenClaim := { program := "ytcidlaabbkimdaadoor", sum := "3ca04b19388ef51bb4a2dcb869e1413767e9ad46247e6d7c2b81fa6a9ed3b57b", func := "loop.example/g01350/laws.FnExactCanShow", spec := "fnExactCanShow", inPlace := ["internal/bytealg.IndexByteString", "internal/bytealg.IndexString", "internal/bytealg.CountString"], recurses := true, named := ["unicode/utf8.first", "unicode/utf8.acceptRanges", "internal/bytealg.MaxLen"], apart := false, laid := [("unicode/utf8.acceptRanges", laid_unicode_utf8_acceptRanges), ("unicode/utf8.first", laid_unicode_utf8_first)], narrowed := true }
def FnExactCanShowUptoSaid : Prop := fnExactCanShowUptoRow.holds Tryd.pinned (OpenSpec.upto fnExactCanShowSpec)

/-- 'laws.FnExactDeadFor', WHERE WHAT IT READS IS OF BULK AT MOST 1048576: true; the input reads as it did. -/
def fnExactDeadForUptoRow : OpenClaim := { program := "ytcidlaabbkimdaadoor", sum := "3ca04b19388ef51bb4a2dcb869e1413767e9ad46247e6d7c2b81fa6a9ed3b57b", func := "loop.example/g01350/laws.FnExactDeadFor", spec := "fnExactDeadFor", inPlace := ["internal/bytealg.IndexByteString", "internal/bytealg.IndexString", "internal/bytealg.CountString"], recurses := true, named := ["unicode/utf8.first", "unicode/utf8.acceptRanges", "internal/bytealg.MaxLen"], apart := false, laid := [("unicode/utf8.acceptRanges", laid_unicode_utf8_acceptRanges), ("unicode/utf8.first", laid_unicode_utf8_first)], narrowed := true }
def FnExactDeadForUptoSaid : Prop := fnExactDeadForUptoRow.holds Tryd.pinned (OpenSpec.upto fnExactDeadForSpec)

/-- 'laws.FnExactStuckFor', WHERE WHAT IT READS IS OF BULK AT MOST 1048576: true; the input reads as it did. -/
def fnExactStuckForUptoRow : OpenClaim := { program := "ytcidlaabbkimdaadoor", sum := "3ca04b19388ef51bb4a2dcb869e1413767e9ad46247e6d7c2b81fa6a9ed3b57b", func := "loop.example/g01350/laws.FnExactStuckFor", spec := "fnExactStuckFor", inPlace := ["internal/bytealg.IndexByteString", "internal/bytealg.IndexString", "internal/bytealg.CountString"], recurses := true, named := ["unicode/utf8.first", "unicode/utf8.acceptRanges", "internal/bytealg.MaxLen"], apart := false, laid := [("unicode/utf8.acceptRanges", laid_unicode_utf8_acceptRanges), ("unicode/utf8.first", laid_unicode_utf8_first)], narrowed := true }
def FnExactStuckForUptoSaid : Prop := fnExactStuckForUptoRow.holds Tryd.pinned (OpenSpec.upto fnExactStuckForSpec)

/-- 'laws.FnExactSwapsOf', WHERE WHAT IT READS IS OF BULK AT MOST 1048576: true; the input reads as it did. -/
def fnExactSwapsOfUptoRow : OpenClaim := { program := "ytcidlaabbkimdaadoor", sum := "3ca04b19388ef51bb4a2dcb869e1413767e9ad46247e6d7c2b81fa6a9ed3b57b", func := "loop.example/g01350/laws.FnExactSwapsOf", spec := "fnExactSwapsOf", inPlace := ["internal/bytealg.IndexByteString", "internal/bytealg.IndexString"], recurses := true, named := ["unicode/utf8.first", "unicode/utf8.acceptRanges", "internal/bytealg.MaxLen"], apart := false, laid := [("unicode/utf8.acceptRanges", laid_unicode_utf8_acceptRanges), ("unicode/utf8.first", laid_unicode_utf8_first)], narrowed := true }
def FnExactSwapsOfUptoSaid : Prop := fnExactSwapsOfUptoRow.holds Tryd.pinned (OpenSpec.upto fnExactSwapsOfSpec)

/-- 'laws.FnExactWrongOnKey', WHERE WHAT IT READS IS OF BULK AT MOST 1048576: true; the input reads as it did. -/
def fnExactWrongOnKeyUptoRow : OpenClaim := { program := "ytcidlaabbkimdaadoor", sum := "3ca04b19388ef51bb4a2dcb869e1413767e9ad46247e6d7c2b81fa6a9ed3b57b", func := "loop.example/g01350/laws.FnExactWrongOnKey", spec := "fnExactWrongOnKey", inPlace := ["internal/bytealg.IndexByteString", "internal/bytealg.IndexString"], recurses := true, named := ["unicode/utf8.first", "unicode/utf8.acceptRanges", "internal/bytealg.MaxLen"], apart := false, laid := [("unicode/utf8.acceptRanges", laid_unicode_utf8_acceptRanges), ("unicode/utf8.first", laid_unicode_utf8_first)], narrowed := true }
def FnExactWrongOnKeyUptoSaid : Prop := fnExactWrongOnKeyUptoRow.holds Tryd.pinned (OpenSpec.upto fnExactWrongOnKeySpec)

end Rows
end Go.Proofs.YtcidlaabbkimdaaDoor
