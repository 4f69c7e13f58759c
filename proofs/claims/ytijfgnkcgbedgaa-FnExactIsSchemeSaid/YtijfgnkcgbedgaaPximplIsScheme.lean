-- printed by xprint.py
import Derived.Test.YtijfgnkcgbedgaaPx0
import Derived.Test.YtijfgnkcgbedgaaPximplin
import Derived.Test.YtijfgnkcgbedgaaPxslicesContainsFuncintint
import Derived.Shelf.Abstract
namespace Go.Proofs.Ytijfgnkcgbedgaa.P
open Go.RowKit Go.Proofs.YtijfgnkcgbedgaaW.PrintWords Go.Proofs.YtijfgnkcgbedgaaW.PrintLast Go.Proofs.YtijfgnkcgbedgaaW.PrintMore
attribute [local go_sem] max2_int min2_int max_two min_two max_three min_three max_four min_four   -- for this text's walks alone
set_option linter.unusedVariables false
set_option linter.unusedSimpArgs false

/-! ### impl_IsScheme: function 12 -/
def impl_IsScheme.f (a0_0 : Int) (l0_1 : List Int) : Option Bool :=
  some (decide (2 ≤ a0_0) && decide (a0_0 ≤ 13) && decide (1 ≤ l0_1.length) && decide (l0_1.length ≤ 12) && !l0_1.any fun x => !(decide (0 ≤ x) && decide (x ≤ wrap64 (a0_0 - 1))))
theorem impl_IsScheme.clo (M x : Int) (B : Nat) (W : World) (h0 : W.cell? ⟨B, 0, none⟩ = some (.int .i64 M)) :
    Calls Try.prog 32 #[.int .i64 x, .pointer (some ⟨B, 0, none⟩)] W fun e W' => e = .returned (.bool (!(decide (0 ≤ x) && decide (x ≤ wrap64 (M - 1))))) ∧ Below W.heap.size W W' := by
  have hin : impl_in.f x 0 (wrap64 (M - 1)) = some (decide (0 ≤ x) && decide (x ≤ wrap64 (M - 1))) := by
    unfold impl_in.f; by_cases h : 0 ≤ x <;> simp [h]
  have hcon := fun W' => impl_in.calls x 0 (wrap64 (M - 1)) _ W' hin
  generalize (decide (0 ≤ x) && decide (x ≤ wrap64 (M - 1))) = r at hcon ⊢
  go_enter Try.func32, Try.ntmps32
  go_wp2_with (go_at_call 33; refine (hcon _).mono ?_; rintro e w' ⟨rfl, ⟨nd, rfl⟩⟩)
  go_ret
  exact ⟨rfl, pw_below_drewN (Below.refl _ _) _⟩
set_option maxHeartbeats 4000000 in
theorem impl_IsScheme.calls (a0_0 : Int) (A0_1 : Option Addr) (c0_1 : Nat) (l0_1 : List Int) (r : Bool) (w : World) (hr0_1 : Kd.C (Kd.int .i64) w A0_1 l0_1.length l0_1) (hc0_1 : l0_1.length ≤ c0_1) (h : impl_IsScheme.f a0_0 l0_1 = some r) :
    Calls Try.prog 12 #[.agg #[.int .i64 a0_0, .slice A0_1 l0_1.length c0_1]] w fun e w' => e = .returned (.bool r) ∧ Below w.heap.size w w' := by
  have eg : ∀ args w, (callFunc 32 args).run Try.prog w = .ok (.enter 32 args) w := enters_of Try.func32 (by kernel_rfl) rfl
  have hr1 : Kd.C (Kd.int .i64) (w.alloc (.cells #[.int .i64 a0_0, .slice A0_1 l0_1.length c0_1] 27)) A0_1 l0_1.length l0_1 := Kd.C_below hr0_1 ((Below.refl _ w).alloc (Nat.le_refl _) _)
  have hcon := ContainsFuncInt_calls (fun x => !(decide (0 ≤ x) && decide (x ≤ wrap64 (a0_0 - 1)))) 32 #[.pointer (some ⟨w.heap.size, 0, none⟩)] eg A0_1 c0_1 l0_1 _ hr1 hc0_1
    (fun W x hx hb => impl_IsScheme.clo a0_0 x w.heap.size W (by rw [hb.cell (p := ⟨w.heap.size, 0, none⟩) (by simp)]; simp))
  unfold impl_IsScheme.f at h
  clear hr0_1 hr1 hc0_1
  generalize (l0_1.any fun x => !(decide (0 ≤ x) && decide (x ≤ wrap64 (a0_0 - 1)))) = bad at hcon h
  obtain rfl := Option.some.inj h
  have hin1 : impl_in.f a0_0 2 13 = some (decide (2 ≤ a0_0) && decide (a0_0 ≤ 13)) := by
    unfold impl_in.f; by_cases h : 2 ≤ a0_0 <;> simp [h]
  have hin2 : impl_in.f (l0_1.length : Int) 1 12 = some (decide (1 ≤ l0_1.length) && decide (l0_1.length ≤ 12)) := by
    unfold impl_in.f
    by_cases h : 1 ≤ l0_1.length
    · have : (l0_1.length : Int) ≥ 1 := by omega
      rw [if_pos this]; simp only [h, decide_true, Bool.true_and]; congr 1; rw [decide_eq_decide]; omega
    · have : ¬ (l0_1.length : Int) ≥ 1 := by omega
      rw [if_neg this]; simp [h]
  have hc1 := fun W' => impl_in.calls a0_0 2 13 _ W' hin1
  have hc2 := fun W' => impl_in.calls (l0_1.length : Int) 1 12 _ W' hin2
  generalize (decide (2 ≤ a0_0) && decide (a0_0 ≤ 13)) = b1 at hc1 ⊢
  rw [Bool.and_assoc b1]
  generalize (decide (1 ≤ l0_1.length) && decide (l0_1.length ≤ 12)) = b2 at hc2 ⊢
  clear hin1 hin2 h
  have HC := Aside0.mk hcon
  clear hcon
  have H1 := Aside0.mk hc1
  have H2 := Aside0.mk hc2
  clear hc1 hc2
  have key : ∀ b1' b2' : Bool, b1 = b1' → b2 = b2' → Calls Try.prog 12 #[.agg #[.int .i64 a0_0, .slice A0_1 l0_1.length c0_1]] w fun e w' => e = .returned (.bool (b1' && b2' && !bad)) ∧ Below w.heap.size w w' := by
    intro b1' b2' e1 e2
    subst e1 e2
    cases b1 with
    | false =>
      go_enter Try.func12, Try.ntmps12
      go_wp2_with fail
      refine HC.out.mono ?_
      rintro e w' ⟨rfl, hb1⟩
      have hcA : w'.cell? ⟨w.heap.size, 0, none⟩ = some (.int .i64 a0_0) := by rw [hb1.cell (p := ⟨w.heap.size, 0, none⟩) (by simp)]; simp
      have hb0 := Aside0.mk (((Below.refl w.heap.size w).alloc (Nat.le_refl _) _).trans (hb1.mono (by simp)))
      clear hb1
      go_wp2_with fail
      refine (H1.out _).mono ?_
      rintro e w'' ⟨rfl, ⟨nd, rfl⟩⟩
      go_wp2_with fail
      go_ret
      exact ⟨rfl, pw_below_drewN hb0.out _⟩
    | true =>
      cases b2 with
      | false =>
        go_enter Try.func12, Try.ntmps12
        go_wp2_with fail
        refine HC.out.mono ?_
        rintro e w' ⟨rfl, hb1⟩
        have hcA : w'.cell? ⟨w.heap.size, 0, none⟩ = some (.int .i64 a0_0) := by rw [hb1.cell (p := ⟨w.heap.size, 0, none⟩) (by simp)]; simp
        have hcB : w'.cell? ⟨w.heap.size, 1, none⟩ = some (.slice A0_1 l0_1.length c0_1) := by rw [hb1.cell (p := ⟨w.heap.size, 1, none⟩) (by simp)]; simp
        have hb0 := Aside0.mk (((Below.refl w.heap.size w).alloc (Nat.le_refl _) _).trans (hb1.mono (by simp)))
        clear hb1
        go_wp2_with fail
        refine (H1.out _).mono ?_
        rintro e w'' ⟨rfl, ⟨nd, rfl⟩⟩
        go_wp2_with fail
        refine (H2.out _).mono ?_
        rintro e w'' ⟨rfl, ⟨nd2, rfl⟩⟩
        go_wp2_with fail
        go_ret
        exact ⟨rfl, pw_below_drewN hb0.out _⟩
      | true =>
        go_enter Try.func12, Try.ntmps12
        go_wp2_with fail
        refine HC.out.mono ?_
        rintro e w' ⟨rfl, hb1⟩
        have hcA : w'.cell? ⟨w.heap.size, 0, none⟩ = some (.int .i64 a0_0) := by rw [hb1.cell (p := ⟨w.heap.size, 0, none⟩) (by simp)]; simp
        have hcB : w'.cell? ⟨w.heap.size, 1, none⟩ = some (.slice A0_1 l0_1.length c0_1) := by rw [hb1.cell (p := ⟨w.heap.size, 1, none⟩) (by simp)]; simp
        have hb0 := Aside0.mk (((Below.refl w.heap.size w).alloc (Nat.le_refl _) _).trans (hb1.mono (by simp)))
        clear hb1
        go_wp2_with fail
        refine (H1.out _).mono ?_
        rintro e w'' ⟨rfl, ⟨nd, rfl⟩⟩
        go_wp2_with fail
        refine (H2.out _).mono ?_
        rintro e w'' ⟨rfl, ⟨nd2, rfl⟩⟩
        go_wp2_with fail
        go_ret
        exact ⟨by simp, pw_below_drewN hb0.out _⟩
  exact key b1 b2 rfl rfl

end Go.Proofs.Ytijfgnkcgbedgaa.P
