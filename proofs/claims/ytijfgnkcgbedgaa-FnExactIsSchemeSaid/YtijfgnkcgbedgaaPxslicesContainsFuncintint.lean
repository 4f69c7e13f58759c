-- printed by xprint.py
import Derived.Test.YtijfgnkcgbedgaaPx0
import Derived.Test.YtijfgnkcgbedgaaPxslicesIndexFuncintint
namespace Go.Proofs.Ytijfgnkcgbedgaa.P
open Go.RowKit Go.Proofs.YtijfgnkcgbedgaaW.PrintWords Go.Proofs.YtijfgnkcgbedgaaW.PrintLast Go.Proofs.YtijfgnkcgbedgaaW.PrintMore
attribute [local go_sem] max2_int min2_int max_two min_two max_three min_three max_four min_four   -- for this text's walks alone
set_option linter.unusedVariables false
set_option linter.unusedSimpArgs false

/-! ### slices_ContainsFunc_int_int: function 31 -/
theorem ContainsFuncInt_calls (p : Int → Bool) (g : Nat) (lb : Array Value) (eg : ∀ args w, (callFunc g args).run Try.prog w = .ok (.enter g args) w) (A0 : Option Addr) (c0 : Nat) (l0 : List Int) (w : World)
    (hr0 : Kd.C (Kd.int .i64) w A0 l0.length l0) (hc0 : l0.length ≤ c0)
    (hp : ∀ (W : World) (x : Int), x ∈ l0 → Below w.heap.size w W → Calls Try.prog g (#[.int .i64 x] ++ lb) W fun e W' => e = .returned (.bool (p x)) ∧ Below W.heap.size W W') :
    Calls Try.prog 31 #[.slice A0 l0.length c0, .func (.func g) #[] lb] w fun e w' => e = .returned (.bool (l0.any p)) ∧ Below w.heap.size w w' := by
  have hcon := IndexFuncInt_calls p g lb eg A0 c0 l0 w hr0 hc0 hp
  have hi := idxP_nonneg p l0 0 (by omega)
  have he : l0.any p = decide (0 ≤ idxP p l0 0) := by
    rw [Bool.eq_iff_iff, decide_eq_true_iff]; exact hi.symm
  rw [he]
  clear hr0 hp hi he
  generalize idxP p l0 0 = r at hcon ⊢
  go_enter Try.func31, Try.ntmps31
  go_wp2_with (go_at_call 48; refine hcon.mono ?_; rintro e w' ⟨rfl, hb'⟩)
  go_ret
  exact ⟨rfl, hb'⟩

end Go.Proofs.Ytijfgnkcgbedgaa.P
