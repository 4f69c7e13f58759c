/-
  No cell of these rows narrows 'for every input' (looked for: loops, veiled, ifaces, maps, wideKeys, modest, calm, conditions, laid).
  DERIVED. THE GIVEN ROWS OF THIS SEAT. 2 by the template 'for every input the law returns true; each argument reads behind the call as it read before'; 0 by the template 'total and deterministic' (their statements: YtbichbiiephmhaaTotals.lean).
  GIVEN WITH THE SEED: the statements are not yours to turn. If you find one false, say at which input.
  Laid BY PROGRAM, IN A SANDBOX (cutbox-rows.mjs): the forced cells as the released guide's own fill.sh prints them over the translation df1f0d6037275b33… (all of the seat's roots in one cut). By AI agents, Wed Nov 11 2026. No macro, syntax, notation, axiom, sorry.
-/
import Derived.Test.YtbichbiiephmhaaChecked
import GoSem.Claim
import GoSem.ClaimJoined
import GoSem.ClaimMapViews
import Derived.JoinedTies
import Derived.KernelRfl
namespace Go.Proofs.Ytbichbiiephmhaa
/- THE CELL 'sum', in the pinned program and in every row, IS THE sha256 OF THE DUMP (.gsa) THAT YtbichbiiephmhaaProg.lean LOADS. Nothing in Lean hashes anything: it is a label: what it is worth is what the hold of that sum in a sandbox is worth. -/
noncomputable def Try.pinned : Pinned := { name := "ytbichbiiephmhaa", sum := "df1f0d6037275b33a72a5b6a9e65ed52e770bfb345affaf9f18b0f506d1b7b23", checked := Try.checked }
namespace Rows
def none {H : Type} : Left H := { results := [], args := [] }

/-- 'laws.FnExactCountAllNumbers': WHATEVER THE INPUT: true; the input reads as it did. -/
def fnExactCountAllNumbersSpec : ChangeSpec := { name := "fnExactCountAllNumbers", fn := fun _ => fun
  | [d1, d2] => { results := [.lit (.bool true)], args := [d1, d2] }
  | _ => none }
def fnExactCountAllNumbersRow : OpenClaim := { program := "ytbichbiiephmhaa", sum := "df1f0d6037275b33a72a5b6a9e65ed52e770bfb345affaf9f18b0f506d1b7b23", func := "loop.example/g01350/laws.FnExactCountAllNumbers", spec := "fnExactCountAllNumbers", inPlace := ["internal/bytealg.IndexByteString", "internal/bytealg.IndexString"], recurses := true, named := ["internal/bytealg.MaxLen"], apart := false }
def FnExactCountAllNumbersSaid : Prop := fnExactCountAllNumbersRow.holds Try.pinned (OpenSpec.ofChange fnExactCountAllNumbersSpec)

/-- ITS FALSE NEIGHBOUR: 'it returns false'. Refute it at one input. -/
def fnExactCountAllNumbersWrong : ChangeSpec := { name := "fnExactCountAllNumbers", fn := fun _ => fun
  | [d1, d2] => { results := [.lit (.bool false)], args := [d1, d2] }
  | _ => none }
def FnExactCountAllNumbersWrongFalsely : Prop := fnExactCountAllNumbersRow.holds Try.pinned (OpenSpec.ofChange fnExactCountAllNumbersWrong)

/-- 'laws.FnExactBusiestKey': WHATEVER THE INPUT: true; the input reads as it did. -/
def fnExactBusiestKeySpec : ChangeSpec := { name := "fnExactBusiestKey", fn := fun _ => fun
  | [d1, d2] => { results := [.lit (.bool true)], args := [d1, d2] }
  | _ => none }
def fnExactBusiestKeyRow : OpenClaim := { program := "ytbichbiiephmhaa", sum := "df1f0d6037275b33a72a5b6a9e65ed52e770bfb345affaf9f18b0f506d1b7b23", func := "loop.example/g01350/laws.FnExactBusiestKey", spec := "fnExactBusiestKey", inPlace := ["internal/bytealg.IndexByteString", "internal/bytealg.IndexString"], recurses := true, named := ["internal/bytealg.MaxLen"], apart := false }
def FnExactBusiestKeySaid : Prop := fnExactBusiestKeyRow.holds Try.pinned (OpenSpec.ofChange fnExactBusiestKeySpec)

/-- ITS FALSE NEIGHBOUR: 'it returns false'. Refute it at one input. -/
def fnExactBusiestKeyWrong : ChangeSpec := { name := "fnExactBusiestKey", fn := fun _ => fun
  | [d1, d2] => { results := [.lit (.bool false)], args := [d1, d2] }
  | _ => none }
def FnExactBusiestKeyWrongFalsely : Prop := fnExactBusiestKeyRow.holds Try.pinned (OpenSpec.ofChange fnExactBusiestKeyWrong)

/- THE SECOND FORM. 'bulk': how many values and letters a reading holds, each counted each time it is reached (what is shared counts as often as it is met; a slice's spare places count too). A statement '..UptoSaid' is the law's where the arguments, and the package variables that the reading takes, are together of bulk at most 1048576: NARROWER than '..Said'. Prove '..Said' where nothing that the law and all that it calls make is longer than what came in: it says more and counts as full. Else prove '..UptoSaid'. A law counts once. -/
mutual
def uptoBulk {H : Type} : DataW H → Nat
  | .lit (.string bytes) => bytes.length + 1
  | .lit _ => 1
  | .nil => 1
  | .ptr d => uptoBulk d + 1
  | .slice elems spare => uptoBulkAll elems + uptoBulkAll spare + 1
  | .agg parts => uptoBulkAll parts + 1
  | .iface _ d => uptoBulk d + 1
  | .map entries => uptoBulkEntries entries + 1
  | .held _ => 1
def uptoBulkAll {H : Type} : List (DataW H) → Nat
  | [] => 0
  | d :: r => uptoBulk d + uptoBulkAll r
def uptoBulkEntries {H : Type} : List (Lit × DataW H) → Nat
  | [] => 0
  | x :: r => uptoBulkEntry x + uptoBulkEntries r
def uptoBulkEntry {H : Type} : Lit × DataW H → Nat
  | (.string bytes, d) => bytes.length + uptoBulk d + 1
  | (_, d) => uptoBulk d + 1
 end
def uptoSmall : (H : Type) → List (DataW H) → Bool := fun _ ds => decide (uptoBulkAll ds ≤ 1048576)
def OpenSpec.upto (s : _root_.Go.ChangeSpec) : _root_.Go.OpenSpec := { _root_.Go.OpenSpec.ofChange s with cond := some uptoSmall }

/-- 'laws.FnExactCountAllNumbers', WHERE WHAT IT READS IS OF BULK AT MOST 1048576: true; the input reads as it did. -/
def fnExactCountAllNumbersUptoRow : OpenClaim := { program := "ytbichbiiephmhaa", sum := "df1f0d6037275b33a72a5b6a9e65ed52e770bfb345affaf9f18b0f506d1b7b23", func := "loop.example/g01350/laws.FnExactCountAllNumbers", spec := "fnExactCountAllNumbers", inPlace := ["internal/bytealg.IndexByteString", "internal/bytealg.IndexString"], recurses := true, named := ["internal/bytealg.MaxLen"], apart := false, narrowed := true }
def FnExactCountAllNumbersUptoSaid : Prop := fnExactCountAllNumbersUptoRow.holds Try.pinned (OpenSpec.upto fnExactCountAllNumbersSpec)

/-- 'laws.FnExactBusiestKey', WHERE WHAT IT READS IS OF BULK AT MOST 1048576: true; the input reads as it did. -/
def fnExactBusiestKeyUptoRow : OpenClaim := { program := "ytbichbiiephmhaa", sum := "df1f0d6037275b33a72a5b6a9e65ed52e770bfb345affaf9f18b0f506d1b7b23", func := "loop.example/g01350/laws.FnExactBusiestKey", spec := "fnExactBusiestKey", inPlace := ["internal/bytealg.IndexByteString", "internal/bytealg.IndexString"], recurses := true, named := ["internal/bytealg.MaxLen"], apart := false, narrowed := true }
def FnExactBusiestKeyUptoSaid : Prop := fnExactBusiestKeyUptoRow.holds Try.pinned (OpenSpec.upto fnExactBusiestKeySpec)

end Rows
end Go.Proofs.Ytbichbiiephmhaa
