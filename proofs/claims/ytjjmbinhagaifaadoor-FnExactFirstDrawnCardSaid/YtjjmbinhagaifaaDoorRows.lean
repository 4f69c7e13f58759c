/-
  NARROWER THAN 'FOR EVERY INPUT', by the rows' own cells (each row's printed sentence says how): FnExactCountDrawn: laid · FnExactFirstDrawn: laid · FnExactIsDrawn: laid · FnExactNextPoints: laid · FnExactMirrorDrawn: laid · FnExactCountWorn: laid.
  DERIVED. THE GIVEN ROWS OF THIS SEAT. 6 by the template 'for every input the law returns true; each argument reads behind the call as it read before'; 0 by the template 'total and deterministic' (their statements: YtjjmbinhagaifaaDoorTotals.lean).
  GIVEN WITH THE SEED: the statements are not yours to turn. If you find one false, say at which input.
  Laid BY PROGRAM, IN A SANDBOX (cutbox-rows.mjs): the forced cells as the released guide's own fill.sh prints them over the translation 74d21e9d88d0e755… (all of the seat's roots in one cut). By AI agents, Wed Nov 11 2026. No macro, syntax, notation, axiom, sorry.
-/
import Derived.Test.YtjjmbinhagaifaaDoorChecked
import GoSem.PinnedTables
import GoSem.Claim
import GoSem.ClaimJoined
import GoSem.ClaimMapViews
import Derived.JoinedTies
import Derived.KernelRfl
namespace Go.Proofs.YtjjmbinhagaifaaDoor
/- THE CELL 'sum', in the pinned program and in every row, IS THE sha256 OF THE DUMP (.gsa) THAT YtjjmbinhagaifaaDoorProg.lean LOADS. Nothing in Lean hashes anything: it is a label: what it is worth is what the hold of that sum in a sandbox is worth. -/
noncomputable def Tryd.pinned : Pinned := { name := "ytjjmbinhagaifaadoor", sum := "74d21e9d88d0e75508ae031e24baf9ac0fb6c2ad92c633ad7d012e02a4fadbba", checked := Tryd.checked }
namespace Rows
def none {H : Type} : Left H := { results := [], args := [] }

/- WHAT THE LISTED PACKAGE-LEVEL VARIABLES READ AS WHEN THE CALL BEGINS. Each datum BY PROGRAM (the guide's laid-datum.mjs) off the statement by which the dump's own 'gosem.cut.vars' lays the variable. In a bare row this is a premise. The card (YtjjmbinhagaifaaDoorCards.lean) ties it to the program's text. -/
def laid_unicode_utf8_acceptRanges {H : Type} : DataW H := .agg [.agg [.lit (.int .u8 128), .lit (.int .u8 191)], .agg [.lit (.int .u8 160), .lit (.int .u8 191)], .agg [.lit (.int .u8 128), .lit (.int .u8 159)], .agg [.lit (.int .u8 144), .lit (.int .u8 191)], .agg [.lit (.int .u8 128), .lit (.int .u8 143)], .agg [.lit (.int .u8 0), .lit (.int .u8 0)], .agg [.lit (.int .u8 0), .lit (.int .u8 0)], .agg [.lit (.int .u8 0), .lit (.int .u8 0)], .agg [.lit (.int .u8 0), .lit (.int .u8 0)], .agg [.lit (.int .u8 0), .lit (.int .u8 0)], .agg [.lit (.int .u8 0), .lit (.int .u8 0)], .agg [.lit (.int .u8 0), .lit (.int .u8 0)], .agg [.lit (.int .u8 0), .lit (.int .u8 0)], .agg [.lit (.int .u8 0), .lit (.int .u8 0)], .agg [.lit (.int .u8 0), .lit (.int .u8 0)], .agg [.lit (.int .u8 0), .lit (.int .u8 0)]]
/-- One of Go's own tables, pinned by name: the form's constant. -/
def laid_unicode_utf8_first : DataW Unit := Go.Pinned.utf8First

/-- 'laws.FnExactCountDrawn': WHATEVER THE INPUT: true; the input reads as it did. -/
def fnExactCountDrawnSpec : ChangeSpec := { name := "fnExactCountDrawn", fn := fun _ => fun
  | [d1, d2] => { results := [.lit (.bool true)], args := [d1, d2] }
  | _ => none }
def fnExactCountDrawnRow : OpenClaim := { program := "ytjjmbinhagaifaadoor", sum := "74d21e9d88d0e75508ae031e24baf9ac0fb6c2ad92c633ad7d012e02a4fadbba", func := "loop.example/g01350/laws.FnExactCountDrawn", spec := "fnExactCountDrawn", inPlace := ["internal/bytealg.IndexByteString", "internal/bytealg.IndexString"], unfollowed := true, recurses := true, named := ["unicode/utf8.first", "unicode/utf8.acceptRanges", "internal/bytealg.MaxLen"], apart := false, laid := [("unicode/utf8.acceptRanges", laid_unicode_utf8_acceptRanges), ("unicode/utf8.first", laid_unicode_utf8_first)] }
def FnExactCountDrawnSaid : Prop := fnExactCountDrawnRow.holds Tryd.pinned (OpenSpec.ofChange fnExactCountDrawnSpec)

/-- ITS FALSE NEIGHBOUR: 'it returns false'. Refute it at one input. -/
def fnExactCountDrawnWrong : ChangeSpec := { name := "fnExactCountDrawn", fn := fun _ => fun
  | [d1, d2] => { results := [.lit (.bool false)], args := [d1, d2] }
  | _ => none }
def FnExactCountDrawnWrongFalsely : Prop := fnExactCountDrawnRow.holds Tryd.pinned (OpenSpec.ofChange fnExactCountDrawnWrong)

/-- 'laws.FnExactFirstDrawn': WHATEVER THE INPUT: true; the input reads as it did. -/
def fnExactFirstDrawnSpec : ChangeSpec := { name := "fnExactFirstDrawn", fn := fun _ => fun
  | [d1, d2] => { results := [.lit (.bool true)], args := [d1, d2] }
  | _ => none }
def fnExactFirstDrawnRow : OpenClaim := { program := "ytjjmbinhagaifaadoor", sum := "74d21e9d88d0e75508ae031e24baf9ac0fb6c2ad92c633ad7d012e02a4fadbba", func := "loop.example/g01350/laws.FnExactFirstDrawn", spec := "fnExactFirstDrawn", inPlace := ["internal/bytealg.IndexByteString", "internal/bytealg.IndexString"], unfollowed := true, recurses := true, named := ["unicode/utf8.first", "unicode/utf8.acceptRanges", "internal/bytealg.MaxLen"], apart := false, laid := [("unicode/utf8.acceptRanges", laid_unicode_utf8_acceptRanges), ("unicode/utf8.first", laid_unicode_utf8_first)] }
def FnExactFirstDrawnSaid : Prop := fnExactFirstDrawnRow.holds Tryd.pinned (OpenSpec.ofChange fnExactFirstDrawnSpec)

/-- ITS FALSE NEIGHBOUR: 'it returns false'. Refute it at one input. -/
def fnExactFirstDrawnWrong : ChangeSpec := { name := "fnExactFirstDrawn", fn := fun _ => fun
  | [d1, d2] => { results := [.lit (.bool false)], args := [d1, d2] }
  | _ => none }
def FnExactFirstDrawnWrongFalsely : Prop := fnExactFirstDrawnRow.holds Tryd.pinned (OpenSpec.ofChange fnExactFirstDrawnWrong)

/-- 'laws.FnExactIsDrawn': WHATEVER THE INPUT: true; the input reads as it did. -/
def fnExactIsDrawnSpec : ChangeSpec := { name := "fnExactIsDrawn", fn := fun _ => fun
  | [d] => { results := [.lit (.bool true)], args := [d] }
  | _ => none }
def fnExactIsDrawnRow : OpenClaim := { program := "ytjjmbinhagaifaadoor", sum := "74d21e9d88d0e75508ae031e24baf9ac0fb6c2ad92c633ad7d012e02a4fadbba", func := "loop.example/g01350/laws.FnExactIsDrawn", spec := "fnExactIsDrawn", inPlace := ["internal/bytealg.IndexByteString", "internal/bytealg.IndexString"], recurses := true, named := ["unicode/utf8.first", "unicode/utf8.acceptRanges", "internal/bytealg.MaxLen"], apart := false, laid := [("unicode/utf8.acceptRanges", laid_unicode_utf8_acceptRanges), ("unicode/utf8.first", laid_unicode_utf8_first)] }
def FnExactIsDrawnSaid : Prop := fnExactIsDrawnRow.holds Tryd.pinned (OpenSpec.ofChange fnExactIsDrawnSpec)

/-- ITS FALSE NEIGHBOUR: 'it returns false'. Refute it at one input. -/
def fnExactIsDrawnWrong : ChangeSpec := { name := "fnExactIsDrawn", fn := fun _ => fun
  | [d] => { results := [.lit (.bool false)], args := [d] }
  | _ => none }
def FnExactIsDrawnWrongFalsely : Prop := fnExactIsDrawnRow.holds Tryd.pinned (OpenSpec.ofChange fnExactIsDrawnWrong)

/-- 'laws.FnExactNextPoints': WHATEVER THE INPUT: true; the input reads as it did. -/
def fnExactNextPointsSpec : ChangeSpec := { name := "fnExactNextPoints", fn := fun _ => fun
  | [d] => { results := [.lit (.bool true)], args := [d] }
  | _ => none }
def fnExactNextPointsRow : OpenClaim := { program := "ytjjmbinhagaifaadoor", sum := "74d21e9d88d0e75508ae031e24baf9ac0fb6c2ad92c633ad7d012e02a4fadbba", func := "loop.example/g01350/laws.FnExactNextPoints", spec := "fnExactNextPoints", inPlace := ["internal/bytealg.IndexByteString", "internal/bytealg.IndexString"], recurses := true, named := ["unicode/utf8.first", "unicode/utf8.acceptRanges", "internal/bytealg.MaxLen"], apart := false, laid := [("unicode/utf8.acceptRanges", laid_unicode_utf8_acceptRanges), ("unicode/utf8.first", laid_unicode_utf8_first)] }
def FnExactNextPointsSaid : Prop := fnExactNextPointsRow.holds Tryd.pinned (OpenSpec.ofChange fnExactNextPointsSpec)

/-- ITS FALSE NEIGHBOUR: 'it returns false'. Refute it at one input. -/
def fnExactNextPointsWrong : ChangeSpec := { name := "fnExactNextPoints", fn := fun _ => fun
  | [d] => { results := [.lit (.bool false)], args := [d] }
  | _ => none }
def FnExactNextPointsWrongFalsely : Prop := fnExactNextPointsRow.holds Tryd.pinned (OpenSpec.ofChange fnExactNextPointsWrong)

/-- 'laws.FnExactMirrorDrawn': WHATEVER THE INPUT: true; the input reads as it did. -/
def fnExactMirrorDrawnSpec : ChangeSpec := { name := "fnExactMirrorDrawn", fn := fun _ => fun
  | [d] => { results := [.lit (.bool true)], args := [d] }
  | _ => none }
def fnExactMirrorDrawnRow : OpenClaim := { program := "ytjjmbinhagaifaadoor", sum := "74d21e9d88d0e75508ae031e24baf9ac0fb6c2ad92c633ad7d012e02a4fadbba", func := "loop.example/g01350/laws.FnExactMirrorDrawn", spec := "fnExactMirrorDrawn", inPlace := ["internal/bytealg.IndexByteString", "internal/bytealg.IndexString"], recurses := true, named := ["unicode/utf8.first", "unicode/utf8.acceptRanges", "internal/bytealg.MaxLen"], apart := false, laid := [("unicode/utf8.acceptRanges", laid_unicode_utf8_acceptRanges), ("unicode/utf8.first", laid_unicode_utf8_first)] }
def FnExactMirrorDrawnSaid : Prop := fnExactMirrorDrawnRow.holds Tryd.pinned (OpenSpec.ofChange fnExactMirrorDrawnSpec)

/-- ITS FALSE NEIGHBOUR: 'it returns false'. Refute it at one input. -/
def fnExactMirrorDrawnWrong : ChangeSpec := { name := "fnExactMirrorDrawn", fn := fun _ => fun
  | [d] => { results := [.lit (.bool false)], args := [d] }
  | _ => none }
def FnExactMirrorDrawnWrongFalsely : Prop := fnExactMirrorDrawnRow.holds Tryd.pinned (OpenSpec.ofChange fnExactMirrorDrawnWrong)

/-- 'laws.FnExactCountWorn': WHATEVER THE INPUT: true; the input reads as it did. -/
def fnExactCountWornSpec : ChangeSpec := { name := "fnExactCountWorn", fn := fun _ => fun
  | [d1, d2] => { results := [.lit (.bool true)], args := [d1, d2] }
  | _ => none }
def fnExactCountWornRow : OpenClaim := { program := "ytjjmbinhagaifaadoor", sum := "74d21e9d88d0e75508ae031e24baf9ac0fb6c2ad92c633ad7d012e02a4fadbba", func := "loop.example/g01350/laws.FnExactCountWorn", spec := "fnExactCountWorn", inPlace := ["internal/bytealg.IndexByteString", "internal/bytealg.IndexString"], recurses := true, named := ["unicode/utf8.first", "unicode/utf8.acceptRanges", "internal/bytealg.MaxLen"], apart := false, laid := [("unicode/utf8.acceptRanges", laid_unicode_utf8_acceptRanges), ("unicode/utf8.first", laid_unicode_utf8_first)] }
def FnExactCountWornSaid : Prop := fnExactCountWornRow.holds Tryd.pinned (OpenSpec.ofChange fnExactCountWornSpec)

/-- ITS FALSE NEIGHBOUR: 'it returns false'. Refute it at one input. -/
def fnExactCountWornWrong : ChangeSpec := { name := "fnExactCountWorn", fn := fun _ => fun
  | [d1, d2] => { results := [.lit (.bool false)], args := [d1, d2] }
  | _ => none }
def FnExactCountWornWrongFalsely : Prop := fnExactCountWornRow.holds Tryd.pinned (OpenSpec.ofChange fnExactCountWornWrong)

/- THE SECOND FORM. 'bulk': how many values and letters a reading holds, each counted each time it is reached (what is shared counts as often as it is met; a slice's spare places count too). A statement '..UptoSaid' is the law's where the arguments, and the package variables that the reading takes, are together of bulk at most 1048576: NARROWER than '..Said'. Prove '..Said' where nothing that the law and all that it calls make is longer than what came in: it says more and counts as full. Else prove '..UptoSaid'. A law counts once. -/
mutual
def uptoBulk {H : Type} : DataW H → Nat
  | .lit (.string bytes) => bytes.length + 1
  | .lit _ => 1
  | .nil => 1
  | .ptr d => uptoBulk d + 1
  | .slice elems spare => uptoBulkAll elems + uptoBulkAll spare + 1
  | .agg parts => uptoBulkAll parts + 1
  | .iface _ d => uptoBulk d + 1
  | .map entries => uptoBulkEntries entries + 1
  | .held _ => 1
def uptoBulkAll {H : Type} : List (DataW H) → Nat
  | [] => 0
  | d :: r => uptoBulk d + uptoBulkAll r
def uptoBulkEntries {H : Type} : List (Lit × DataW H) → Nat
  | [] => 0
  | x :: r => uptoBulkEntry x + uptoBulkEntries r
def uptoBulkEntry {H : Type} : Lit × DataW H → Nat
  | (.string bytes, d) => bytes.length + uptoBulk d + 1
  | (_, d) => uptoBulk d + 1
 end
def uptoSmall : (H : Type) → List (DataW H) → Bool := fun _ ds => decide (uptoBulkAll ds ≤ 1048576)
def OpenSpec.upto (s : _root_.Go.ChangeSpec) : _root_.Go.OpenSpec := { _root_.Go.OpenSpec.ofChange s with cond := some uptoSmall }

/-- 'laws.FnExactCountDrawn', WHERE WHAT IT READS IS OF BULK AT MOST 1048576: true; the input reads as it did. -/
def fnExactCountDrawnUptoRow : OpenClaim := { program := "ytjjmbinhagaifaadoor", sum := "74d21e9d88d0e75508ae031e24baf9ac0fb6c2ad92c633ad7d012e02a4fadbba", func := "loop.example/g01350/laws.FnExactCountDrawn", spec := "fnExactCountDrawn", inPlace := ["internal/bytealg.IndexByteString", "internal/bytealg.IndexString"], unfollowed := true, recurses := true, named := ["unicode/utf8.first", "unicode/utf8.acceptRanges", "internal/bytealg.MaxLen"], apart := false, laid := [("unicode/utf8.acceptRanges", laid_unicode_utf8_acceptRanges), ("unicode/utf8.first", laid_unicode_utf8_first)], narrowed := true }
def FnExactCountDrawnUptoSaid : Prop := fnExactCountDrawnUptoRow.holds Tryd.pinned (OpenSpec.upto fnExactCountDrawnSpec)

/-- 'laws.FnExactFirstDrawn', WHERE WHAT IT READS IS OF BULK AT MOST 1048576: true; the input reads as it did. -/
def fnExactFirstDrawnUptoRow : OpenClaim := { program := "ytjjmbinhagaifaadoor", sum := "74d21e9d88d0e75508ae031e24baf9ac0fb6c2ad92c633ad7d012e02a4fadbba", func := "loop.example/g01350/laws.FnExactFirstDrawn", spec := "fnExactFirstDrawn", inPlace := ["internal/bytealg.IndexByteString", "internal/bytealg.IndexString"], unfollowed := true, recurses := true, named := ["unicode/utf8.first", "unicode/utf8.acceptRanges", "internal/bytealg.MaxLen"], apart := false, laid := [("unicode/utf8.acceptRanges", laid_unicode_utf8_acceptRanges), ("unicode/utf8.first", laid_unicode_utf8_first)], narrowed := true }
def FnExactFirstDrawnUptoSaid : Prop := fnExactFirstDrawnUptoRow.holds Tryd.pinned (OpenSpec.upto fnExactFirstDrawnSpec)

/-- 'laws.FnExactIsDrawn', WHERE WHAT IT READS IS OF BULK AT MOST 1048576: true; the input reads as it did. -/
def fnExactIsDrawnUptoRow : OpenClaim := { program := "ytjjmbinhagaifaadoor", sum := "74d21e9d88d0e75508ae031e24baf9ac0fb6c2ad92c633ad7d012e02a4fadbba", func := "loop.example/g01350/laws.FnExactIsDrawn", spec := "fnExactIsDrawn", inPlace := ["internal/bytealg.IndexByteString", "internal/bytealg.IndexString"], recurses := true, named := ["unicode/utf8.first", "unicode/utf8.acceptRanges", "internal/bytealg.MaxLen"], apart := false, laid := [("unicode/utf8.acceptRanges", laid_unicode_utf8_acceptRanges), ("unicode/utf8.first", laid_unicode_utf8_first)], narrowed := true }
def FnExactIsDrawnUptoSaid : Prop := fnExactIsDrawnUptoRow.holds Tryd.pinned (OpenSpec.upto fnExactIsDrawnSpec)

/-- 'laws.FnExactNextPoints', WHERE WHAT IT READS IS OF BULK AT MOST 1048576: true; the input reads as it did. -/
def fnExactNextPointsUptoRow : OpenClaim := { program := "ytjjmbinhagaifaadoor", sum := "74d21e9d88d0e75508ae031e24baf9ac0fb6c2ad92c633ad7d012e02a4fadbba", func := "loop.example/g01350/laws.FnExactNextPoints", spec := "fnExactNextPoints", inPlace := ["internal/bytealg.IndexByteString", "internal/bytealg.IndexString"], recurses := true, named := ["unicode/utf8.first", "unicode/utf8.acceptRanges", "internal/bytealg.MaxLen"], apart := false, laid := [("unicode/utf8.acceptRanges", laid_unicode_utf8_acceptRanges), ("unicode/utf8.first", laid_unicode_utf8_first)], narrowed := true }
def FnExactNextPointsUptoSaid : Prop := fnExactNextPointsUptoRow.holds Tryd.pinned (OpenSpec.upto fnExactNextPointsSpec)

/-- 'laws.FnExactMirrorDrawn', WHERE WHAT IT READS IS OF BULK AT MOST 1048576: true; the input reads as it did. -/
def fnExactMirrorDrawnUptoRow : OpenClaim := { program := "ytjjmbinhagaifaadoor", sum := "74d21e9d88d0e75508ae031e24baf9ac0fb6c2ad92c633ad7d012e02a4fadbba", func := "loop.example/g01350/laws.FnExactMirrorDrawn", spec := "fnExactMirrorDrawn", inPlace := ["internal/bytealg.IndexByteString", "internal/bytealg.IndexString"], recurses := true, named := ["unicode/utf8.first", "unicode/utf8.acceptRanges", "internal/bytealg.MaxLen"], apart := false, laid := [("unicode/utf8.acceptRanges", laid_unicode_utf8_acceptRanges), ("unicode/utf8.first", laid_unicode_utf8_first)], narrowed := true }
def FnExactMirrorDrawnUptoSaid : Prop := fnExactMirrorDrawnUptoRow.holds Tryd.pinned (OpenSpec.upto fnExactMirrorDrawnSpec)

/-- 'laws.FnExactCountWorn', WHERE WHAT IT READS IS OF BULK AT MOST 1048576: true; the input reads as it did. -/
def fnExactCountWornUptoRow : OpenClaim := { program := "ytjjmbinhagaifaadoor", sum := "74d21e9d88d0e75508ae031e24baf9ac0fb6c2ad92c633ad7d012e02a4fadbba", func := "loop.example/g01350/laws.FnExactCountWorn", spec := "fnExactCountWorn", inPlace := ["internal/bytealg.IndexByteString", "internal/bytealg.IndexString"], recurses := true, named := ["unicode/utf8.first", "unicode/utf8.acceptRanges", "internal/bytealg.MaxLen"], apart := false, laid := [("unicode/utf8.acceptRanges", laid_unicode_utf8_acceptRanges), ("unicode/utf8.first", laid_unicode_utf8_first)], narrowed := true }
def FnExactCountWornUptoSaid : Prop := fnExactCountWornUptoRow.holds Tryd.pinned (OpenSpec.upto fnExactCountWornSpec)

end Rows
end Go.Proofs.YtjjmbinhagaifaaDoor
