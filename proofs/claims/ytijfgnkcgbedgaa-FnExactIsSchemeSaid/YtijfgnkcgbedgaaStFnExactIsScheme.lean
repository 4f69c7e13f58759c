import Derived.Test.YtijfgnkcgbedgaaPxlawsFnExactIsScheme
namespace Go.Proofs.Ytijfgnkcgbedgaa
open Go.RowKit Go.Proofs.Ytijfgnkcgbedgaa.P Go.Proofs.YtijfgnkcgbedgaaW.PrintWords Go.Proofs.YtijfgnkcgbedgaaW.PrintLast
/-- The pure statement of FnExactIsScheme. -/
def PureFnExactIsScheme : Prop := ∀ (a0_0 : Int) (l0_1 : List Int), (Lit.int .i64 a0_0).wf = true → (l0_1.length ≤ 9223372036854775807 ∧ ∀ x ∈ l0_1, (Lit.int .i64 x).wf = true) →  ∃ k, laws_FnExactIsScheme.f k a0_0 l0_1 = some true
end Go.Proofs.Ytijfgnkcgbedgaa
