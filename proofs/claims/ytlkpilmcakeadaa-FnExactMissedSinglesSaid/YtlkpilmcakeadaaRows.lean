/-
  No cell of these rows narrows 'for every input' (looked for: loops, veiled, ifaces, maps, wideKeys, modest, calm, conditions, laid).
  DERIVED. THE GIVEN ROWS OF THIS SEAT. 5 by the template 'for every input the law returns true; each argument reads behind the call as it read before'; 0 by the template 'total and deterministic' (their statements: YtlkpilmcakeadaaTotals.lean).
  GIVEN WITH THE SEED: the statements are not yours to turn. If you find one false, say at which input.
  Laid BY PROGRAM, IN A SANDBOX (cutbox-rows.mjs): the forced cells as the released guide's own fill.sh prints them over the translation b02275a12f49737c… (all of the seat's roots in one cut). By AI agents, Wed Nov 11 2026. No macro, syntax, notation, axiom, sorry.
-/
import Derived.Test.YtlkpilmcakeadaaChecked
import GoSem.Claim
import GoSem.ClaimJoined
import GoSem.ClaimMapViews
import Derived.JoinedTies
import Derived.KernelRfl
namespace Go.Proofs.Ytlkpilmcakeadaa
/- THE CELL 'sum', in the pinned program and in every row, IS THE sha256 OF THE DUMP (.gsa) THAT YtlkpilmcakeadaaProg.lean LOADS. Nothing in Lean hashes anything: it is a label: what it is worth is what the hold of that sum in a sandbox is worth. -/
noncomputable def Try.pinned : Pinned := { name := "ytlkpilmcakeadaa", sum := "b02275a12f49737cae80abe3436cd042b91690d4a4cc1592fc75c5395fc7711f", checked := Try.checked }
namespace Rows
def none {H : Type} : Left H := { results := [], args := [] }

/-- 'laws.FnExactDoubledMissed': WHATEVER THE INPUT: true; the input reads as it did. -/
def fnExactDoubledMissedSpec : ChangeSpec := { name := "fnExactDoubledMissed", fn := fun _ => fun
  | [] => { results := [.lit (.bool true)], args := [] }
  | _ => none }
def fnExactDoubledMissedRow : OpenClaim := { program := "ytlkpilmcakeadaa", sum := "b02275a12f49737cae80abe3436cd042b91690d4a4cc1592fc75c5395fc7711f", func := "loop.example/g01350/laws.FnExactDoubledMissed", spec := "fnExactDoubledMissed", unfollowed := true, recurses := true, apart := false }
def FnExactDoubledMissedSaid : Prop := fnExactDoubledMissedRow.holds Try.pinned (OpenSpec.ofChange fnExactDoubledMissedSpec)

/-- ITS FALSE NEIGHBOUR: 'it returns false'. Refute it at one input. -/
def fnExactDoubledMissedWrong : ChangeSpec := { name := "fnExactDoubledMissed", fn := fun _ => fun
  | [] => { results := [.lit (.bool false)], args := [] }
  | _ => none }
def FnExactDoubledMissedWrongFalsely : Prop := fnExactDoubledMissedRow.holds Try.pinned (OpenSpec.ofChange fnExactDoubledMissedWrong)

/-- 'laws.FnExactFindsAllSingles': WHATEVER THE INPUT: true; the input reads as it did. -/
def fnExactFindsAllSinglesSpec : ChangeSpec := { name := "fnExactFindsAllSingles", fn := fun _ => fun
  | [d] => { results := [.lit (.bool true)], args := [d] }
  | _ => none }
def fnExactFindsAllSinglesRow : OpenClaim := { program := "ytlkpilmcakeadaa", sum := "b02275a12f49737cae80abe3436cd042b91690d4a4cc1592fc75c5395fc7711f", func := "loop.example/g01350/laws.FnExactFindsAllSingles", spec := "fnExactFindsAllSingles", unfollowed := true, recurses := true, apart := false }
def FnExactFindsAllSinglesSaid : Prop := fnExactFindsAllSinglesRow.holds Try.pinned (OpenSpec.ofChange fnExactFindsAllSinglesSpec)

/-- ITS FALSE NEIGHBOUR: 'it returns false'. Refute it at one input. -/
def fnExactFindsAllSinglesWrong : ChangeSpec := { name := "fnExactFindsAllSingles", fn := fun _ => fun
  | [d] => { results := [.lit (.bool false)], args := [d] }
  | _ => none }
def FnExactFindsAllSinglesWrongFalsely : Prop := fnExactFindsAllSinglesRow.holds Try.pinned (OpenSpec.ofChange fnExactFindsAllSinglesWrong)

/-- 'laws.FnExactCountRight': WHATEVER THE INPUT: true; the input reads as it did. -/
def fnExactCountRightSpec : ChangeSpec := { name := "fnExactCountRight", fn := fun _ => fun
  | [d] => { results := [.lit (.bool true)], args := [d] }
  | _ => none }
def fnExactCountRightRow : OpenClaim := { program := "ytlkpilmcakeadaa", sum := "b02275a12f49737cae80abe3436cd042b91690d4a4cc1592fc75c5395fc7711f", func := "loop.example/g01350/laws.FnExactCountRight", spec := "fnExactCountRight", unfollowed := true, recurses := true, apart := false }
def FnExactCountRightSaid : Prop := fnExactCountRightRow.holds Try.pinned (OpenSpec.ofChange fnExactCountRightSpec)

/-- ITS FALSE NEIGHBOUR: 'it returns false'. Refute it at one input. -/
def fnExactCountRightWrong : ChangeSpec := { name := "fnExactCountRight", fn := fun _ => fun
  | [d] => { results := [.lit (.bool false)], args := [d] }
  | _ => none }
def FnExactCountRightWrongFalsely : Prop := fnExactCountRightRow.holds Try.pinned (OpenSpec.ofChange fnExactCountRightWrong)

/-- 'laws.FnExactFindsAllSwaps': WHATEVER THE INPUT: true; the input reads as it did. -/
def fnExactFindsAllSwapsSpec : ChangeSpec := { name := "fnExactFindsAllSwaps", fn := fun _ => fun
  | [d] => { results := [.lit (.bool true)], args := [d] }
  | _ => none }
def fnExactFindsAllSwapsRow : OpenClaim := { program := "ytlkpilmcakeadaa", sum := "b02275a12f49737cae80abe3436cd042b91690d4a4cc1592fc75c5395fc7711f", func := "loop.example/g01350/laws.FnExactFindsAllSwaps", spec := "fnExactFindsAllSwaps", unfollowed := true, recurses := true, apart := false }
def FnExactFindsAllSwapsSaid : Prop := fnExactFindsAllSwapsRow.holds Try.pinned (OpenSpec.ofChange fnExactFindsAllSwapsSpec)

/-- ITS FALSE NEIGHBOUR: 'it returns false'. Refute it at one input. -/
def fnExactFindsAllSwapsWrong : ChangeSpec := { name := "fnExactFindsAllSwaps", fn := fun _ => fun
  | [d] => { results := [.lit (.bool false)], args := [d] }
  | _ => none }
def FnExactFindsAllSwapsWrongFalsely : Prop := fnExactFindsAllSwapsRow.holds Try.pinned (OpenSpec.ofChange fnExactFindsAllSwapsWrong)

/-- 'laws.FnExactMissedSingles': WHATEVER THE INPUT: true; the input reads as it did. -/
def fnExactMissedSinglesSpec : ChangeSpec := { name := "fnExactMissedSingles", fn := fun _ => fun
  | [d1, d2] => { results := [.lit (.bool true)], args := [d1, d2] }
  | _ => none }
def fnExactMissedSinglesRow : OpenClaim := { program := "ytlkpilmcakeadaa", sum := "b02275a12f49737cae80abe3436cd042b91690d4a4cc1592fc75c5395fc7711f", func := "loop.example/g01350/laws.FnExactMissedSingles", spec := "fnExactMissedSingles", unfollowed := true, recurses := true, apart := false }
def FnExactMissedSinglesSaid : Prop := fnExactMissedSinglesRow.holds Try.pinned (OpenSpec.ofChange fnExactMissedSinglesSpec)

/-- ITS FALSE NEIGHBOUR: 'it returns false'. Refute it at one input. -/
def fnExactMissedSinglesWrong : ChangeSpec := { name := "fnExactMissedSingles", fn := fun _ => fun
  | [d1, d2] => { results := [.lit (.bool false)], args := [d1, d2] }
  | _ => none }
def FnExactMissedSinglesWrongFalsely : Prop := fnExactMissedSinglesRow.holds Try.pinned (OpenSpec.ofChange fnExactMissedSinglesWrong)

/- THE SECOND FORM. 'bulk': how many values and letters a reading holds, each counted each time it is reached (what is shared counts as often as it is met; a slice's spare places count too). A statement '..UptoSaid' is the law's where the arguments, and the package variables that the reading takes, are together of bulk at most 1048576: NARROWER than '..Said'. Prove '..Said' where nothing that the law and all that it calls make is longer than what came in: it says more and counts as full. Else prove '..UptoSaid'. A law counts once. -/
mutual
def uptoBulk {H : Type} : DataW H → Nat
  | .lit (.string bytes) => bytes.length + 1
  | .lit _ => 1
  | .nil => 1
  | .ptr d => uptoBulk d + 1
  | .slice elems spare => uptoBulkAll elems + uptoBulkAll spare + 1
  | .agg parts => uptoBulkAll parts + 1
  | .iface _ d => uptoBulk d + 1
  | .map entries => uptoBulkEntries entries + 1
  | .held _ => 1
def uptoBulkAll {H : Type} : List (DataW H) → Nat
  | [] => 0
  | d :: r => uptoBulk d + uptoBulkAll r
def uptoBulkEntries {H : Type} : List (Lit × DataW H) → Nat
  | [] => 0
  | x :: r => uptoBulkEntry x + uptoBulkEntries r
def uptoBulkEntry {H : Type} : Lit × DataW H → Nat
  | (.string bytes, d) => bytes.length + uptoBulk d + 1
  | (_, d) => uptoBulk d + 1
 end
def uptoSmall : (H : Type) → List (DataW H) → Bool := fun _ ds => decide (uptoBulkAll ds ≤ 1048576)
def OpenSpec.upto (s : _root_.Go.ChangeSpec) : _root_.Go.OpenSpec := { _root_.Go.OpenSpec.ofChange s with cond := some uptoSmall }

/-- 'laws.FnExactDoubledMissed', WHERE WHAT IT READS IS OF BULK AT MOST 1048576: true; the input reads as it did. -/
def fnExactDoubledMissedUptoRow : OpenClaim := { program := "ytlkpilmcakeadaa", sum := "b02275a12f49737cae80abe3436cd042b91690d4a4cc1592fc75c5395fc7711f", func := "loop.example/g01350/laws.FnExactDoubledMissed", spec := "fnExactDoubledMissed", unfollowed := true, recurses := true, apart := false, narrowed := true }
def FnExactDoubledMissedUptoSaid : Prop := fnExactDoubledMissedUptoRow.holds Try.pinned (OpenSpec.upto fnExactDoubledMissedSpec)

/-- 'laws.FnExactFindsAllSingles', WHERE WHAT IT READS IS OF BULK AT MOST 1048576: true; the input reads as it did. -/
def fnExactFindsAllSinglesUptoRow : OpenClaim := { program := "ytlkpilmcakeadaa", sum := "b02275a12f49737cae80abe3436cd042b91690d4a4cc1592fc75c5395fc7711f", func := "loop.example/g01350/laws.FnExactFindsAllSingles", spec := "fnExactFindsAllSingles", unfollowed := true, recurses := true, apart := false, narrowed := true }
def FnExactFindsAllSinglesUptoSaid : Prop := fnExactFindsAllSinglesUptoRow.holds Try.pinned (OpenSpec.upto fnExactFindsAllSinglesSpec)

/-- 'laws.FnExactCountRight', WHERE WHAT IT READS IS OF BULK AT MOST 1048576: true; the input reads as it did. -/
def fnExactCountRightUptoRow : OpenClaim := { program := "ytlkpilmcakeadaa", sum := "b02275a12f49737cae80abe3436cd042b91690d4a4cc1592fc75c5395fc7711f", func := "loop.example/g01350/laws.FnExactCountRight", spec := "fnExactCountRight", unfollowed := true, recurses := true, apart := false, narrowed := true }
def FnExactCountRightUptoSaid : Prop := fnExactCountRightUptoRow.holds Try.pinned (OpenSpec.upto fnExactCountRightSpec)

/-- 'laws.FnExactFindsAllSwaps', WHERE WHAT IT READS IS OF BULK AT MOST 1048576: true; the input reads as it did. -/
def fnExactFindsAllSwapsUptoRow : OpenClaim := { program := "ytlkpilmcakeadaa", sum := "b02275a12f49737cae80abe3436cd042b91690d4a4cc1592fc75c5395fc7711f", func := "loop.example/g01350/laws.FnExactFindsAllSwaps", spec := "fnExactFindsAllSwaps", unfollowed := true, recurses := true, apart := false, narrowed := true }
def FnExactFindsAllSwapsUptoSaid : Prop := fnExactFindsAllSwapsUptoRow.holds Try.pinned (OpenSpec.upto fnExactFindsAllSwapsSpec)

/-- 'laws.FnExactMissedSingles', WHERE WHAT IT READS IS OF BULK AT MOST 1048576: true; the input reads as it did. -/
def fnExactMissedSinglesUptoRow : OpenClaim := { program := "ytlkpilmcakeadaa", sum := "b02275a12f49737cae80abe3436cd042b91690d4a4cc1592fc75c5395fc7711f", func := "loop.example/g01350/laws.FnExactMissedSingles", spec := "fnExactMissedSingles", unfollowed := true, recurses := true, apart := false, narrowed := true }
def FnExactMissedSinglesUptoSaid : Prop := fnExactMissedSinglesUptoRow.holds Try.pinned (OpenSpec.upto fnExactMissedSinglesSpec)

end Rows
end Go.Proofs.Ytlkpilmcakeadaa
