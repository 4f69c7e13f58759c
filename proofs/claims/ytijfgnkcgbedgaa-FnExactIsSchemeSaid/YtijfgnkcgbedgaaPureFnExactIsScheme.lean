/- FnExactIsScheme: both sides say of every scheme the same, and it is left as it was: over the functions that the walk computes. -/
import Derived.Test.YtijfgnkcgbedgaaStFnExactIsScheme
import Derived.Test.YtijfgnkcgbedgaaLmScheme
namespace Go.Proofs.Ytijfgnkcgbedgaa
open Go.RowKit Go.Proofs.Ytijfgnkcgbedgaa.P Go.Proofs.YtijfgnkcgbedgaaW.PrintWords
theorem pure_FnExactIsScheme : PureFnExactIsScheme := by
  intro m l _ hl
  refine Ev.rounds (g := fun k => laws_FnExactIsScheme.f k m l) ?_
  unfold laws_FnExactIsScheme.f
  refine Ev.bindc (szScheme_eq m l hl.1) ?_
  by_cases c : l.length ≤ 1048576
  · rw [if_pos c]
    refine Ev.neg (by omega) (Ev.bind (toScheme_ev m l c) ?_)
    simp only [spec_IsScheme.f]
    refine Ev.bind (Ev.bind (ckGood_ev m l c) (Ev.now _)) (Ev.bind (toScheme_ev m l c) (Ev.bindc (implIsScheme_good m l) ?_))
    refine Ev.neg (by simp) (Ev.bind (toScheme_ev m l c) (Ev.bind (eqScheme_ev m l c) ?_))
    exact Ev.pos rfl (Ev.now _)
  · rw [if_neg c]
    exact Ev.pos (by omega) (Ev.now _)
end Go.Proofs.Ytijfgnkcgbedgaa
