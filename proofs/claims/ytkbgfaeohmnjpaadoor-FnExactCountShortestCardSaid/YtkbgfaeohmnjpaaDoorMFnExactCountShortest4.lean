/- Part 4 of 4 of the proof of: FnExactCountShortestCardSaid: the law 'FnExactCountShortest' answers true for every input, and leaves its arguments as they were. The row and its tied card, over the walk of its calls and the pure statement. -/
import Derived.Test.YtkbgfaeohmnjpaaDoorMFnExactCountShortest1
import Derived.Test.YtkbgfaeohmnjpaaDoorMFnExactCountShortest3
import Derived.Test.YtkbgfaeohmnjpaaDoorWWords
import Derived.Test.YtkbgfaeohmnjpaaDoorWMore
import Derived.Laws.Strings
import Derived.Lib.SlTrimSet
import Derived.Lib.Bytealg
import Derived.WalkKit
import Derived.ProofKit
import Derived.OpenShut
import Derived.ShutString
import Derived.ChangeOld
import Derived.Below
import Derived.SizedLaws
import Derived.ChangeSlices
import Derived.SliceStrings
import Derived.Lib.SmallJoins
import Derived.LaidLaws
import Derived.LaidHandle
import Derived.LaidMore
import Derived.Test.YtkbgfaeohmnjpaaDoorRows
import Derived.Test.YtkbgfaeohmnjpaaDoorCards
import Derived.Test.YtkbgfaeohmnjpaaDoorTie
import Derived.Handed
import Derived.SevenTiedAt
import Derived.Stop.Joined
-- printed by xprint.py
namespace Go.Proofs.YtkbgfaeohmnjpaaDoor.P
open Go.RowKit Go.Proofs.YtkbgfaeohmnjpaaDoorW.PrintWords Go.Proofs.YtkbgfaeohmnjpaaDoorW.PrintLast Go.Proofs.YtkbgfaeohmnjpaaDoorW.PrintMore
attribute [local go_sem] max2_int min2_int max_two min_two max_three min_three max_four min_four   -- for this text's walks alone
set_option linter.unusedVariables false
set_option linter.unusedSimpArgs false

/-! ### spec_wkAsked: function 30 -/
def spec_wkAsked.f (k : Nat) (a0 : ByteArray) (a1 : ByteArray) : Option (Bool) := (spec_wkPiece.f a0).bind fun t101 => (if t101 = true then ((spec_wkDigits.f k a1).bind fun t102 => (if t102 = true then (some ((a1.size : Int) == 1)) else (some false))) else (some false))
theorem spec_wkAsked.mono : ∀ a0 a1 k, LeO (spec_wkAsked.f k a0 a1) (spec_wkAsked.f (k + 1) a0 a1) := by
 intro a0 a1 k
 unfold spec_wkAsked.f
 repeat' first
   | (with_reducible exact spec_wkDigits.mono _ _)
   | (with_reducible exact LeO.refl _)
   | (with_reducible exact LeO.none _)
   | (with_reducible refine LeO.ite ?_ ?_)
   | (with_reducible refine LeO.bind ?_ (fun _ => ?_))
   | exact spec_wkDigits.mono _ _
   | exact LeO.none _
   | refine LeO.ite ?_ ?_
   | refine LeO.bind ?_ (fun _ => ?_)
set_option maxHeartbeats 8000000 in
set_option maxRecDepth 100000 in
theorem spec_wkAsked.calls (k : Nat) (a0 : ByteArray) (a1 : ByteArray) (r : Bool) (w : World) (h : spec_wkAsked.f k a0 a1 = some r) :
  Calls Tryd.prog 30 #[.string a0, .string a1] w fun e w' => e = .returned (.bool r) ∧ Drawn0 w w' := by
 have H : ((spec_wkPiece.f a0).bind fun t101 => (if t101 = true then ((spec_wkDigits.f k a1).bind fun t102 => (if t102 = true then (some ((a1.size : Int) == 1)) else (some false))) else (some false))) = some r := h
 clear h
 replace H := Option.bind_eq_some_iff.mp H
 obtain ⟨t101, A30, H⟩ := H
 replace H : (if t101 = true then ((spec_wkDigits.f k a1).bind fun t102 => (if t102 = true then (some ((a1.size : Int) == 1)) else (some false))) else (some false)) = some r := H
 have A3 := Aside0.mk A30
 clear A30
 by_cases c4 : t101 = true
 ·
  subst c4
  have H1 : ((spec_wkDigits.f k a1).bind fun t102 => (if t102 = true then (some ((a1.size : Int) == 1)) else (some false))) = some r := by rw [if_pos rfl] at H; exact H
  clear H
  have H := H1
  clear H1
  replace H := Option.bind_eq_some_iff.mp H
  obtain ⟨t102, A50, H⟩ := H
  replace H : (if t102 = true then (some ((a1.size : Int) == 1)) else (some false)) = some r := H
  have A5 := Aside0.mk A50
  clear A50
  by_cases c6 : t102 = true
  ·
   subst c6
   have H1 : (some ((a1.size : Int) == 1)) = some r := by rw [if_pos rfl] at H; exact H
   clear H
   have H := H1
   clear H1
   obtain rfl := Option.some.inj H
   go_enter Tryd.func30, Tryd.ntmps30
   go_wp2_with (first | ((with_reducible refine gate_callee (f := 56) rfl ?_); refine goesL_ (some 6) rfl rfl Tryd.func56 (by kernel_rfl) rfl #[.string a0] rfl (by (try simp only [List.map_toArray, List.map_cons, List.map_nil]); first | done | rfl | (simp only [List.length_drop, List.length_take]; rfl)) ?_; (with_reducible refine (spec_wkPiece.calls a0 true _ A3.out).mono ?_); rintro e w' ⟨rfl, ⟨nd, rfl⟩⟩; refine ⟨_, rfl, ?_⟩) | (go_at_call 51; (with_reducible refine (spec_wkDigits.calls k a1 true _ A5.out).mono ?_); rintro e w' ⟨rfl, ⟨nd, rfl⟩⟩))
   go_ret
   exact ⟨by first | rfl | (simp; done) | (simp [*]; done), by repeat (first | exact Drawn0.refl _ | apply Drawn0.step)⟩
  ·
   replace c6 := Bool.eq_false_iff.mpr c6
   subst c6
   have H1 : (some false) = some r := by rw [if_neg (show ¬ (false = true) by decide)] at H; exact H
   clear H
   have H := H1
   clear H1
   obtain rfl := Option.some.inj H
   go_enter Tryd.func30, Tryd.ntmps30
   go_wp2_with (first | ((with_reducible refine gate_callee (f := 56) rfl ?_); refine goesL_ (some 6) rfl rfl Tryd.func56 (by kernel_rfl) rfl #[.string a0] rfl (by (try simp only [List.map_toArray, List.map_cons, List.map_nil]); first | done | rfl | (simp only [List.length_drop, List.length_take]; rfl)) ?_; (with_reducible refine (spec_wkPiece.calls a0 true _ A3.out).mono ?_); rintro e w' ⟨rfl, ⟨nd, rfl⟩⟩; refine ⟨_, rfl, ?_⟩) | (go_at_call 51; (with_reducible refine (spec_wkDigits.calls k a1 false _ A5.out).mono ?_); rintro e w' ⟨rfl, ⟨nd, rfl⟩⟩))
   go_ret
   exact ⟨by first | rfl | (simp; done) | (simp [*]; done), by repeat (first | exact Drawn0.refl _ | apply Drawn0.step)⟩
 ·
  replace c4 := Bool.eq_false_iff.mpr c4
  subst c4
  have H1 : (some false) = some r := by rw [if_neg (show ¬ (false = true) by decide)] at H; exact H
  clear H
  have H := H1
  clear H1
  obtain rfl := Option.some.inj H
  go_enter Tryd.func30, Tryd.ntmps30
  go_wp2_with (first | ((with_reducible refine gate_callee (f := 56) rfl ?_); refine goesL_ (some 6) rfl rfl Tryd.func56 (by kernel_rfl) rfl #[.string a0] rfl (by (try simp only [List.map_toArray, List.map_cons, List.map_nil]); first | done | rfl | (simp only [List.length_drop, List.length_take]; rfl)) ?_; (with_reducible refine (spec_wkPiece.calls a0 false _ A3.out).mono ?_); rintro e w' ⟨rfl, ⟨nd, rfl⟩⟩; refine ⟨_, rfl, ?_⟩))
  go_ret
  exact ⟨by first | rfl | (simp; done) | (simp [*]; done), by repeat (first | exact Drawn0.refl _ | apply Drawn0.step)⟩

end Go.Proofs.YtkbgfaeohmnjpaaDoor.P

-- printed by xprint.py
namespace Go.Proofs.YtkbgfaeohmnjpaaDoor.P
open Go.RowKit Go.Proofs.YtkbgfaeohmnjpaaDoorW.PrintWords Go.Proofs.YtkbgfaeohmnjpaaDoorW.PrintLast Go.Proofs.YtkbgfaeohmnjpaaDoorW.PrintMore
attribute [local go_sem] max2_int min2_int max_two min_two max_three min_three max_four min_four   -- for this text's walks alone
set_option linter.unusedVariables false
set_option linter.unusedSimpArgs false

/-! ### spec_wkAt: function 76 -/
def spec_wkAt.j0 : Nat → Int → Int → Bool → Option (Int)
 | 0, _, _, _ => none
 | k + 1, x0, x1, x5 => if x5 = true then (some 48) else ((spec_l1In.f x0 0 2).bind fun t101 => (if t101 = true then ((spec_l1In.f x1 0 2).bind fun t102 => (if t102 = true then (if 0 ≤ (wrap64 ((wrap64 (3 * x1)) + x0)) then (if (wrap64 ((wrap64 (3 * x1)) + x0)) < 9 then (some (bt (⟨#[49, 50, 51, 52, 53, 54, 55, 56, 57]⟩ : ByteArray) (wrap64 ((wrap64 (3 * x1)) + x0)))) else (none)) else (none)) else (some 32))) else (some 32)))
def spec_wkAt.f (k : Nat) (a0 : Int) (a1 : Int) : Option (Int) := if a0 = 1 then (spec_wkAt.j0 k a0 a1 (a1 == 3)) else (spec_wkAt.j0 k a0 a1 false)
theorem spec_wkAt.mono_l : ∀ k, (∀ y0 y1 y2, LeO (spec_wkAt.j0 k y0 y1 y2) (spec_wkAt.j0 (k + 1) y0 y1 y2))
 | 0 => fun _ _ _ r h => by simp [spec_wkAt.j0] at h
 | k + 1 => by
  have ih0 := spec_wkAt.mono_l k
  ·
   intro y0 y1 y2
   unfold spec_wkAt.j0
   repeat' first
   | (with_reducible exact ih0 _ _ _)
   | (with_reducible exact LeO.refl _)
   | (with_reducible exact LeO.none _)
   | (with_reducible refine LeO.ite ?_ ?_)
   | (with_reducible refine LeO.bind ?_ (fun _ => ?_))
   | exact ih0 _ _ _
   | exact LeO.none _
   | refine LeO.ite ?_ ?_
   | refine LeO.bind ?_ (fun _ => ?_)
theorem spec_wkAt.mono : ∀ a0 a1 k, LeO (spec_wkAt.f k a0 a1) (spec_wkAt.f (k + 1) a0 a1) := by
 intro a0 a1 k
 have ih0 := spec_wkAt.mono_l k
 unfold spec_wkAt.f
 repeat' first
   | (with_reducible exact ih0 _ _ _)
   | (with_reducible exact LeO.refl _)
   | (with_reducible exact LeO.none _)
   | (with_reducible refine LeO.ite ?_ ?_)
   | (with_reducible refine LeO.bind ?_ (fun _ => ?_))
   | exact ih0 _ _ _
   | exact LeO.none _
   | refine LeO.ite ?_ ?_
   | refine LeO.bind ?_ (fun _ => ?_)
set_option maxHeartbeats 8000000 in
set_option maxRecDepth 100000 in
theorem spec_wkAt.calls (k : Nat) (a0 : Int) (a1 : Int) (r : Int) (w : World) (h : spec_wkAt.f k a0 a1 = some r) :
  Calls Tryd.prog 76 #[.int .i64 a0, .int .i64 a1] w fun e w' => e = .returned (.int .u8 r) ∧ Drawn0 w w' := by
 have H : (if a0 = 1 then (spec_wkAt.j0 k a0 a1 (a1 == 3)) else (spec_wkAt.j0 k a0 a1 false)) = some r := h
 clear h
 have HC3 := Aside0.mk H
 clear H
 go_enter Tryd.func76, Tryd.ntmps76
 go_upto_region 1 with (fail)
 go_cut [5] (fun v5 wc => ∃ (kq : Nat) (x5_2 : Bool), v5 = .bool x5_2 ∧ Aside0 (spec_wkAt.j0 kq a0 a1 x5_2 = some r) ∧ Aside0 (kq ≤ k) ∧ Drawn0 w wc)
 case first =>
  have H := HC3.out
  clear HC3
  by_cases c4 : a0 = 1
  ·
   rw [if_pos c4] at H
   have c4b0 : (a0 == 1) = true := beq_iff_eq.mpr c4
   have c4b1 : (a0 != 1) = false := bne_eq_false_iff_eq.mpr c4
   clear c4
   (first | rw [c4b0] | (simp only [i64_w, i32_w]; rw [c4b0]) | skip)
   have H' := Aside0.mk H
   clear H
   go_wp2
   go_meet
   case rel => exact ⟨_, ((a1 == 3)), (by first | rfl | (simp; done) | (simp [*]; done)), H', ⟨by first | omega | exact Nat.le_refl _⟩, by repeat (first | exact Drawn0.refl _ | apply Drawn0.step)⟩
  ·
   rw [if_neg c4] at H
   have c4b0 : (a0 == 1) = false := beq_eq_false_iff_ne.mpr c4
   have c4b1 : (a0 != 1) = true := bne_iff_ne.mpr c4
   (first | rw [c4b0] | (simp only [i64_w, i32_w]; rw [c4b0]) | skip)
   have H' := Aside0.mk H
   clear H
   go_wp2
   go_meet
   case rel => exact ⟨_, (false), (by first | rfl | (simp; done) | (simp [*]; done)), H', ⟨by first | omega | exact Nat.le_refl _⟩, by repeat (first | exact Drawn0.refl _ | apply Drawn0.step)⟩
 case rest =>
  clear HC3
  try clear p2
  try clear c4
  try clear c4b0
  try clear c4b1
  obtain ⟨kq, x5_2, rfl, HA, HJ2, ⟨mc2, rfl⟩⟩ := hcut
  cases kq with
  | zero => exact absurd HA.out (by simp [spec_wkAt.j0])
  | succ kj2 =>
   have H := HA.out
   clear HA
   simp only [spec_wkAt.j0] at H
   by_cases c5 : x5_2 = true
   ·
    subst c5
    have H1 : (some 48) = some r := by rw [if_pos rfl] at H; exact H
    clear H
    have H := H1
    clear H1
    obtain rfl := Option.some.inj H
    go_wp2
    go_ret
    exact ⟨by first | rfl | (simp; done) | (simp [*]; done), by repeat (first | exact Drawn0.refl _ | apply Drawn0.step)⟩
   ·
    replace c5 := Bool.eq_false_iff.mpr c5
    subst c5
    have H1 : ((spec_l1In.f a0 0 2).bind fun t101 => (if t101 = true then ((spec_l1In.f a1 0 2).bind fun t102 => (if t102 = true then (if 0 ≤ (wrap64 ((wrap64 (3 * a1)) + a0)) then (if (wrap64 ((wrap64 (3 * a1)) + a0)) < 9 then (some (bt (⟨#[49, 50, 51, 52, 53, 54, 55, 56, 57]⟩ : ByteArray) (wrap64 ((wrap64 (3 * a1)) + a0)))) else (none)) else (none)) else (some 32))) else (some 32))) = some r := by rw [if_neg (show ¬ (false = true) by decide)] at H; exact H
    clear H
    have H := H1
    clear H1
    replace H := Option.bind_eq_some_iff.mp H
    obtain ⟨t101, A60, H⟩ := H
    replace H : (if t101 = true then ((spec_l1In.f a1 0 2).bind fun t102 => (if t102 = true then (if 0 ≤ (wrap64 ((wrap64 (3 * a1)) + a0)) then (if (wrap64 ((wrap64 (3 * a1)) + a0)) < 9 then (some (bt (⟨#[49, 50, 51, 52, 53, 54, 55, 56, 57]⟩ : ByteArray) (wrap64 ((wrap64 (3 * a1)) + a0)))) else (none)) else (none)) else (some 32))) else (some 32)) = some r := H
    have A6 := Aside0.mk A60
    clear A60
    by_cases c7 : t101 = true
    ·
     subst c7
     have H1 : ((spec_l1In.f a1 0 2).bind fun t102 => (if t102 = true then (if 0 ≤ (wrap64 ((wrap64 (3 * a1)) + a0)) then (if (wrap64 ((wrap64 (3 * a1)) + a0)) < 9 then (some (bt (⟨#[49, 50, 51, 52, 53, 54, 55, 56, 57]⟩ : ByteArray) (wrap64 ((wrap64 (3 * a1)) + a0)))) else (none)) else (none)) else (some 32))) = some r := by rw [if_pos rfl] at H; exact H
     clear H
     have H := H1
     clear H1
     replace H := Option.bind_eq_some_iff.mp H
     obtain ⟨t102, A80, H⟩ := H
     replace H : (if t102 = true then (if 0 ≤ (wrap64 ((wrap64 (3 * a1)) + a0)) then (if (wrap64 ((wrap64 (3 * a1)) + a0)) < 9 then (some (bt (⟨#[49, 50, 51, 52, 53, 54, 55, 56, 57]⟩ : ByteArray) (wrap64 ((wrap64 (3 * a1)) + a0)))) else (none)) else (none)) else (some 32)) = some r := H
     have A8 := Aside0.mk A80
     clear A80
     by_cases c9 : t102 = true
     ·
      subst c9
      have H1 : (if 0 ≤ (wrap64 ((wrap64 (3 * a1)) + a0)) then (if (wrap64 ((wrap64 (3 * a1)) + a0)) < 9 then (some (bt (⟨#[49, 50, 51, 52, 53, 54, 55, 56, 57]⟩ : ByteArray) (wrap64 ((wrap64 (3 * a1)) + a0)))) else (none)) else (none)) = some r := by rw [if_pos rfl] at H; exact H
      clear H
      have H := H1
      clear H1
      obtain ⟨ji10, hji10⟩ : ∃ j_ : Int, (wrap64 ((wrap64 (3 * a1)) + a0)) = j_ := ⟨_, rfl⟩
      replace H : (if 0 ≤ (ji10) then (if (ji10) < 9 then (some (bt (⟨#[49, 50, 51, 52, 53, 54, 55, 56, 57]⟩ : ByteArray) (ji10))) else (none)) else (none)) = some r := by first | (rw [hji10] at H; exact H) | (simp only [hji10] at H ⊢; exact H)
      (try rw [hji10] at A6)
      (try rw [hji10] at A8)
      have hji10w : (IntKind.i64.wrap ((wrap64 (3 * a1)) + a0)) = ji10 := (i64_w _).trans hji10
      by_cases c11 : 0 ≤ (ji10)
      ·
       rw [if_pos c11] at H
       have c11b0 : decide (0 ≤ (ji10)) = true := decide_eq_true c11
       clear c11
       by_cases c12 : (ji10) < 9
       ·
        rw [if_pos c12] at H
        have c12b0 : decide ((ji10) < 9) = true := decide_eq_true c12
        clear c12
        obtain rfl := Option.some.inj H
        go_wp2_with (first | ((with_reducible refine gate_callee (f := 43) rfl ?_); refine goesL_ (some 14) rfl rfl Tryd.func43 (by kernel_rfl) rfl #[.int .i64 a0, .int .i64 0, .int .i64 2] rfl (by (try simp only [List.map_toArray, List.map_cons, List.map_nil]); first | done | rfl | (simp only [List.length_drop, List.length_take]; rfl)) ?_; (with_reducible refine (spec_l1In.calls a0 0 2 true _ A6.out).mono ?_); rintro e w' ⟨rfl, ⟨nd, rfl⟩⟩; refine ⟨_, rfl, ?_⟩) | (go_at_call 43; (with_reducible refine (spec_l1In.calls a1 0 2 true _ A8.out).mono ?_); rintro e w' ⟨rfl, ⟨nd, rfl⟩⟩; have p13 : 0 ≤ ((ji10) : Int) := of_decide_eq_true (by first | (with_reducible assumption) | assumption); have q13 : (ji10) < (9 : Int) := of_decide_eq_true (by first | (with_reducible assumption) | assumption); have hx13 := bt_at (⟨#[49, 50, 51, 52, 53, 54, 55, 56, 57]⟩ : ByteArray) (ji10); replace p13 := eq_true p13; replace q13 := eq_true q13))
        go_ret
        exact ⟨by first | rfl | (simp; done) | (simp only [← hji10] <;> (first | rfl | simp)) | (simp [*]; done), by repeat (first | exact Drawn0.refl _ | apply Drawn0.step)⟩
       ·
        rw [if_neg c12] at H
        exact absurd H (by simp)
      ·
       rw [if_neg c11] at H
       exact absurd H (by simp)
     ·
      replace c9 := Bool.eq_false_iff.mpr c9
      subst c9
      have H1 : (some 32) = some r := by rw [if_neg (show ¬ (false = true) by decide)] at H; exact H
      clear H
      have H := H1
      clear H1
      obtain rfl := Option.some.inj H
      go_wp2_with (first | ((with_reducible refine gate_callee (f := 43) rfl ?_); refine goesL_ (some 14) rfl rfl Tryd.func43 (by kernel_rfl) rfl #[.int .i64 a0, .int .i64 0, .int .i64 2] rfl (by (try simp only [List.map_toArray, List.map_cons, List.map_nil]); first | done | rfl | (simp only [List.length_drop, List.length_take]; rfl)) ?_; (with_reducible refine (spec_l1In.calls a0 0 2 true _ A6.out).mono ?_); rintro e w' ⟨rfl, ⟨nd, rfl⟩⟩; refine ⟨_, rfl, ?_⟩) | (go_at_call 43; (with_reducible refine (spec_l1In.calls a1 0 2 false _ A8.out).mono ?_); rintro e w' ⟨rfl, ⟨nd, rfl⟩⟩))
      go_ret
      exact ⟨by first | rfl | (simp; done) | (simp [*]; done), by repeat (first | exact Drawn0.refl _ | apply Drawn0.step)⟩
    ·
     replace c7 := Bool.eq_false_iff.mpr c7
     subst c7
     have H1 : (some 32) = some r := by rw [if_neg (show ¬ (false = true) by decide)] at H; exact H
     clear H
     have H := H1
     clear H1
     obtain rfl := Option.some.inj H
     go_wp2_with (first | ((with_reducible refine gate_callee (f := 43) rfl ?_); refine goesL_ (some 14) rfl rfl Tryd.func43 (by kernel_rfl) rfl #[.int .i64 a0, .int .i64 0, .int .i64 2] rfl (by (try simp only [List.map_toArray, List.map_cons, List.map_nil]); first | done | rfl | (simp only [List.length_drop, List.length_take]; rfl)) ?_; (with_reducible refine (spec_l1In.calls a0 0 2 false _ A6.out).mono ?_); rintro e w' ⟨rfl, ⟨nd, rfl⟩⟩; refine ⟨_, rfl, ?_⟩))
     go_ret
     exact ⟨by first | rfl | (simp; done) | (simp [*]; done), by repeat (first | exact Drawn0.refl _ | apply Drawn0.step)⟩

end Go.Proofs.YtkbgfaeohmnjpaaDoor.P

-- printed by xprint.py
namespace Go.Proofs.YtkbgfaeohmnjpaaDoor.P
open Go.RowKit Go.Proofs.YtkbgfaeohmnjpaaDoorW.PrintWords Go.Proofs.YtkbgfaeohmnjpaaDoorW.PrintLast Go.Proofs.YtkbgfaeohmnjpaaDoorW.PrintMore
attribute [local go_sem] max2_int min2_int max_two min_two max_three min_three max_four min_four   -- for this text's walks alone
set_option linter.unusedVariables false
set_option linter.unusedSimpArgs false

/-! ### spec_l1Most: function 86 -/
def spec_l1Most.f (a0 : Int) (a1 : Int) : Option (Int) := if a0 > a1 then (some a0) else (some a1)
set_option maxHeartbeats 8000000 in
set_option maxRecDepth 100000 in
theorem spec_l1Most.calls (a0 : Int) (a1 : Int) (r : Int) (w : World) (h : spec_l1Most.f a0 a1 = some r) :
  Calls Tryd.prog 86 #[.int .i64 a0, .int .i64 a1] w fun e w' => e = .returned (.int .i64 r) ∧ Drawn0 w w' := by
 have H : (if a0 > a1 then (some a0) else (some a1)) = some r := h
 clear h
 by_cases c3 : a0 > a1
 ·
  rw [if_pos c3] at H
  have c3b0 : decide (a1 < a0) = true := decide_eq_true c3
  clear c3
  obtain rfl := Option.some.inj H
  go_enter Tryd.func86, Tryd.ntmps86
  go_wp2
  go_ret
  exact ⟨by first | rfl | (simp; done) | (simp [*]; done), by repeat (first | exact Drawn0.refl _ | apply Drawn0.step)⟩
 ·
  rw [if_neg c3] at H
  have c3b0 : decide (a1 < a0) = false := decide_eq_false c3
  clear c3
  obtain rfl := Option.some.inj H
  go_enter Tryd.func86, Tryd.ntmps86
  go_wp2
  go_ret
  exact ⟨by first | rfl | (simp; done) | (simp [*]; done), by repeat (first | exact Drawn0.refl _ | apply Drawn0.step)⟩

end Go.Proofs.YtkbgfaeohmnjpaaDoor.P

-- printed by xprint.py
namespace Go.Proofs.YtkbgfaeohmnjpaaDoor.P
open Go.RowKit Go.Proofs.YtkbgfaeohmnjpaaDoorW.PrintWords Go.Proofs.YtkbgfaeohmnjpaaDoorW.PrintLast Go.Proofs.YtkbgfaeohmnjpaaDoorW.PrintMore
attribute [local go_sem] max2_int min2_int max_two min_two max_three min_three max_four min_four   -- for this text's walks alone
set_option linter.unusedVariables false
set_option linter.unusedSimpArgs false

/-! ### spec_l1Abs: function 85 -/
def spec_l1Abs.f (a0 : Int) : Option (Int) := (spec_l1Most.f a0 (wrap64 (-a0))).bind fun t101 => (some t101)
set_option maxHeartbeats 8000000 in
set_option maxRecDepth 100000 in
theorem spec_l1Abs.calls (a0 : Int) (r : Int) (w : World) (h : spec_l1Abs.f a0 = some r) :
  Calls Tryd.prog 85 #[.int .i64 a0] w fun e w' => e = .returned (.int .i64 r) ∧ Drawn0 w w' := by
 have H : ((spec_l1Most.f a0 (wrap64 (-a0))).bind fun t101 => (some t101)) = some r := h
 clear h
 replace H := Option.bind_eq_some_iff.mp H
 obtain ⟨t101, A20, H⟩ := H
 replace H : (some t101) = some r := H
 have A2 := Aside0.mk A20
 clear A20
 obtain rfl := Option.some.inj H
 go_enter Tryd.func85, Tryd.ntmps85
 go_wp2_with (first | ((with_reducible refine gate_callee (f := 86) rfl ?_); refine goesL_ (some 6) rfl rfl Tryd.func86 (by kernel_rfl) rfl #[.int .i64 a0, .int .i64 (wrap64 (-a0))] rfl (by (try simp only [List.map_toArray, List.map_cons, List.map_nil]); first | done | rfl | (simp only [List.length_drop, List.length_take]; rfl)) ?_; (with_reducible refine (spec_l1Most.calls a0 (wrap64 (-a0)) t101 _ A2.out).mono ?_); rintro e w' ⟨rfl, ⟨nd, rfl⟩⟩; refine ⟨_, rfl, ?_⟩))
 go_ret
 exact ⟨by first | rfl | (simp; done) | (simp [*]; done), by repeat (first | exact Drawn0.refl _ | apply Drawn0.step)⟩

end Go.Proofs.YtkbgfaeohmnjpaaDoor.P

-- printed by xprint.py
namespace Go.Proofs.YtkbgfaeohmnjpaaDoor.P
open Go.RowKit Go.Proofs.YtkbgfaeohmnjpaaDoorW.PrintWords Go.Proofs.YtkbgfaeohmnjpaaDoorW.PrintLast Go.Proofs.YtkbgfaeohmnjpaaDoorW.PrintMore
attribute [local go_sem] max2_int min2_int max_two min_two max_three min_three max_four min_four   -- for this text's walks alone
set_option linter.unusedVariables false
set_option linter.unusedSimpArgs false

/-! ### spec_wkCan: function 74 -/
def spec_wkCan.f (a0 : ByteArray) (a1 : Int) (a2 : Int) : Option (Bool) := (spec_l1Abs.f a1).bind fun t101 => ((spec_l1Abs.f a2).bind fun t102 => (if a0.toList = ([110] : List UInt8) then (some ((wrap64 (t101 * t102)) == 2)) else (if a0.toList = ([107] : List UInt8) then ((spec_l1Most.f t101 t102).bind fun t103 => (some (t103 == 1))) else (if a0.toList = ([114] : List UInt8) then (if (wrap64 (t101 * t102)) = 0 then (some (decide ((wrap64 (t101 + t102)) > 0))) else (some false)) else (if t101 = t102 then (some (decide (t101 > 0))) else (some false))))))
set_option maxHeartbeats 8000000 in
set_option maxRecDepth 100000 in
theorem spec_wkCan.calls (a0 : ByteArray) (a1 : Int) (a2 : Int) (r : Bool) (w : World) (h : spec_wkCan.f a0 a1 a2 = some r) :
  Calls Tryd.prog 74 #[.string a0, .int .i64 a1, .int .i64 a2] w fun e w' => e = .returned (.bool r) ∧ Drawn0 w w' := by
 have H : ((spec_l1Abs.f a1).bind fun t101 => ((spec_l1Abs.f a2).bind fun t102 => (if a0.toList = ([110] : List UInt8) then (some ((wrap64 (t101 * t102)) == 2)) else (if a0.toList = ([107] : List UInt8) then ((spec_l1Most.f t101 t102).bind fun t103 => (some (t103 == 1))) else (if a0.toList = ([114] : List UInt8) then (if (wrap64 (t101 * t102)) = 0 then (some (decide ((wrap64 (t101 + t102)) > 0))) else (some false)) else (if t101 = t102 then (some (decide (t101 > 0))) else (some false))))))) = some r := h
 clear h
 replace H := Option.bind_eq_some_iff.mp H
 obtain ⟨t101, A40, H⟩ := H
 replace H : ((spec_l1Abs.f a2).bind fun t102 => (if a0.toList = ([110] : List UInt8) then (some ((wrap64 (t101 * t102)) == 2)) else (if a0.toList = ([107] : List UInt8) then ((spec_l1Most.f t101 t102).bind fun t103 => (some (t103 == 1))) else (if a0.toList = ([114] : List UInt8) then (if (wrap64 (t101 * t102)) = 0 then (some (decide ((wrap64 (t101 + t102)) > 0))) else (some false)) else (if t101 = t102 then (some (decide (t101 > 0))) else (some false)))))) = some r := H
 have A4 := Aside0.mk A40
 clear A40
 replace H := Option.bind_eq_some_iff.mp H
 obtain ⟨t102, A50, H⟩ := H
 replace H : (if a0.toList = ([110] : List UInt8) then (some ((wrap64 (t101 * t102)) == 2)) else (if a0.toList = ([107] : List UInt8) then ((spec_l1Most.f t101 t102).bind fun t103 => (some (t103 == 1))) else (if a0.toList = ([114] : List UInt8) then (if (wrap64 (t101 * t102)) = 0 then (some (decide ((wrap64 (t101 + t102)) > 0))) else (some false)) else (if t101 = t102 then (some (decide (t101 > 0))) else (some false))))) = some r := H
 have A5 := Aside0.mk A50
 clear A50
 by_cases c6 : a0.toList = ([110] : List UInt8)
 ·
  rw [if_pos c6] at H
  have c6b0 : (a0.toList == ([110] : List UInt8)) = true := beq_iff_eq.mpr c6
  have c6b1 : (a0.toList != ([110] : List UInt8)) = false := bne_eq_false_iff_eq.mpr c6
  clear c6
  obtain rfl := Option.some.inj H
  go_enter Tryd.func74, Tryd.ntmps74
  go_wp2_with (first | ((with_reducible refine gate_callee (f := 85) rfl ?_); refine goesL_ (some 8) rfl rfl Tryd.func85 (by kernel_rfl) rfl #[.int .i64 a1] rfl (by (try simp only [List.map_toArray, List.map_cons, List.map_nil]); first | done | rfl | (simp only [List.length_drop, List.length_take]; rfl)) ?_; (with_reducible refine (spec_l1Abs.calls a1 t101 _ A4.out).mono ?_); rintro e w' ⟨rfl, ⟨nd, rfl⟩⟩; refine ⟨_, rfl, ?_⟩) | ((with_reducible refine gate_callee (f := 85) rfl ?_); refine goesL_ (some 10) rfl rfl Tryd.func85 (by kernel_rfl) rfl #[.int .i64 a2] rfl (by (try simp only [List.map_toArray, List.map_cons, List.map_nil]); first | done | rfl | (simp only [List.length_drop, List.length_take]; rfl)) ?_; (with_reducible refine (spec_l1Abs.calls a2 t102 _ A5.out).mono ?_); rintro e w' ⟨rfl, ⟨nd, rfl⟩⟩; refine ⟨_, rfl, ?_⟩))
  go_ret
  exact ⟨by first | rfl | (simp; done) | (simp [*]; done), by repeat (first | exact Drawn0.refl _ | apply Drawn0.step)⟩
 ·
  rw [if_neg c6] at H
  have c6b0 : (a0.toList == ([110] : List UInt8)) = false := beq_eq_false_iff_ne.mpr c6
  have c6b1 : (a0.toList != ([110] : List UInt8)) = true := bne_iff_ne.mpr c6
  by_cases c7 : a0.toList = ([107] : List UInt8)
  ·
   rw [if_pos c7] at H
   have c7b0 : (a0.toList == ([107] : List UInt8)) = true := beq_iff_eq.mpr c7
   have c7b1 : (a0.toList != ([107] : List UInt8)) = false := bne_eq_false_iff_eq.mpr c7
   clear c7
   replace H := Option.bind_eq_some_iff.mp H
   obtain ⟨t103, A80, H⟩ := H
   replace H : (some (t103 == 1)) = some r := H
   have A8 := Aside0.mk A80
   clear A80
   obtain rfl := Option.some.inj H
   go_enter Tryd.func74, Tryd.ntmps74
   go_wp2_with (first | ((with_reducible refine gate_callee (f := 85) rfl ?_); refine goesL_ (some 8) rfl rfl Tryd.func85 (by kernel_rfl) rfl #[.int .i64 a1] rfl (by (try simp only [List.map_toArray, List.map_cons, List.map_nil]); first | done | rfl | (simp only [List.length_drop, List.length_take]; rfl)) ?_; (with_reducible refine (spec_l1Abs.calls a1 t101 _ A4.out).mono ?_); rintro e w' ⟨rfl, ⟨nd, rfl⟩⟩; refine ⟨_, rfl, ?_⟩) | ((with_reducible refine gate_callee (f := 85) rfl ?_); refine goesL_ (some 10) rfl rfl Tryd.func85 (by kernel_rfl) rfl #[.int .i64 a2] rfl (by (try simp only [List.map_toArray, List.map_cons, List.map_nil]); first | done | rfl | (simp only [List.length_drop, List.length_take]; rfl)) ?_; (with_reducible refine (spec_l1Abs.calls a2 t102 _ A5.out).mono ?_); rintro e w' ⟨rfl, ⟨nd, rfl⟩⟩; refine ⟨_, rfl, ?_⟩) | ((with_reducible refine gate_callee (f := 86) rfl ?_); refine goesL_ (some 22) rfl rfl Tryd.func86 (by kernel_rfl) rfl #[.int .i64 t101, .int .i64 t102] rfl (by (try simp only [List.map_toArray, List.map_cons, List.map_nil]); first | done | rfl | (simp only [List.length_drop, List.length_take]; rfl)) ?_; (with_reducible refine (spec_l1Most.calls t101 t102 t103 _ A8.out).mono ?_); rintro e w' ⟨rfl, ⟨nd, rfl⟩⟩; refine ⟨_, rfl, ?_⟩))
   go_ret
   exact ⟨by first | rfl | (simp; done) | (simp [*]; done), by repeat (first | exact Drawn0.refl _ | apply Drawn0.step)⟩
  ·
   rw [if_neg c7] at H
   have c7b0 : (a0.toList == ([107] : List UInt8)) = false := beq_eq_false_iff_ne.mpr c7
   have c7b1 : (a0.toList != ([107] : List UInt8)) = true := bne_iff_ne.mpr c7
   by_cases c9 : a0.toList = ([114] : List UInt8)
   ·
    rw [if_pos c9] at H
    have c9b0 : (a0.toList == ([114] : List UInt8)) = true := beq_iff_eq.mpr c9
    have c9b1 : (a0.toList != ([114] : List UInt8)) = false := bne_eq_false_iff_eq.mpr c9
    clear c9
    by_cases c10 : (wrap64 (t101 * t102)) = 0
    ·
     rw [if_pos c10] at H
     have c10b0 : ((wrap64 (t101 * t102)) == 0) = true := beq_iff_eq.mpr c10
     have c10b1 : ((wrap64 (t101 * t102)) != 0) = false := bne_eq_false_iff_eq.mpr c10
     clear c10
     obtain rfl := Option.some.inj H
     go_enter Tryd.func74, Tryd.ntmps74
     go_wp2_with (first | ((with_reducible refine gate_callee (f := 85) rfl ?_); refine goesL_ (some 8) rfl rfl Tryd.func85 (by kernel_rfl) rfl #[.int .i64 a1] rfl (by (try simp only [List.map_toArray, List.map_cons, List.map_nil]); first | done | rfl | (simp only [List.length_drop, List.length_take]; rfl)) ?_; (with_reducible refine (spec_l1Abs.calls a1 t101 _ A4.out).mono ?_); rintro e w' ⟨rfl, ⟨nd, rfl⟩⟩; refine ⟨_, rfl, ?_⟩) | ((with_reducible refine gate_callee (f := 85) rfl ?_); refine goesL_ (some 10) rfl rfl Tryd.func85 (by kernel_rfl) rfl #[.int .i64 a2] rfl (by (try simp only [List.map_toArray, List.map_cons, List.map_nil]); first | done | rfl | (simp only [List.length_drop, List.length_take]; rfl)) ?_; (with_reducible refine (spec_l1Abs.calls a2 t102 _ A5.out).mono ?_); rintro e w' ⟨rfl, ⟨nd, rfl⟩⟩; refine ⟨_, rfl, ?_⟩))
     go_ret
     exact ⟨by first | rfl | (simp; done) | (simp [*]; done), by repeat (first | exact Drawn0.refl _ | apply Drawn0.step)⟩
    ·
     rw [if_neg c10] at H
     have c10b0 : ((wrap64 (t101 * t102)) == 0) = false := beq_eq_false_iff_ne.mpr c10
     have c10b1 : ((wrap64 (t101 * t102)) != 0) = true := bne_iff_ne.mpr c10
     obtain rfl := Option.some.inj H
     go_enter Tryd.func74, Tryd.ntmps74
     go_wp2_with (first | ((with_reducible refine gate_callee (f := 85) rfl ?_); refine goesL_ (some 8) rfl rfl Tryd.func85 (by kernel_rfl) rfl #[.int .i64 a1] rfl (by (try simp only [List.map_toArray, List.map_cons, List.map_nil]); first | done | rfl | (simp only [List.length_drop, List.length_take]; rfl)) ?_; (with_reducible refine (spec_l1Abs.calls a1 t101 _ A4.out).mono ?_); rintro e w' ⟨rfl, ⟨nd, rfl⟩⟩; refine ⟨_, rfl, ?_⟩) | ((with_reducible refine gate_callee (f := 85) rfl ?_); refine goesL_ (some 10) rfl rfl Tryd.func85 (by kernel_rfl) rfl #[.int .i64 a2] rfl (by (try simp only [List.map_toArray, List.map_cons, List.map_nil]); first | done | rfl | (simp only [List.length_drop, List.length_take]; rfl)) ?_; (with_reducible refine (spec_l1Abs.calls a2 t102 _ A5.out).mono ?_); rintro e w' ⟨rfl, ⟨nd, rfl⟩⟩; refine ⟨_, rfl, ?_⟩))
     go_ret
     exact ⟨by first | rfl | (simp; done) | (simp [*]; done), by repeat (first | exact Drawn0.refl _ | apply Drawn0.step)⟩
   ·
    rw [if_neg c9] at H
    have c9b0 : (a0.toList == ([114] : List UInt8)) = false := beq_eq_false_iff_ne.mpr c9
    have c9b1 : (a0.toList != ([114] : List UInt8)) = true := bne_iff_ne.mpr c9
    by_cases c11 : t101 = t102
    ·
     rw [if_pos c11] at H
     have c11b0 : (t101 == t102) = true := beq_iff_eq.mpr c11
     have c11b1 : (t101 != t102) = false := bne_eq_false_iff_eq.mpr c11
     clear c11
     obtain rfl := Option.some.inj H
     go_enter Tryd.func74, Tryd.ntmps74
     go_wp2_with (first | ((with_reducible refine gate_callee (f := 85) rfl ?_); refine goesL_ (some 8) rfl rfl Tryd.func85 (by kernel_rfl) rfl #[.int .i64 a1] rfl (by (try simp only [List.map_toArray, List.map_cons, List.map_nil]); first | done | rfl | (simp only [List.length_drop, List.length_take]; rfl)) ?_; (with_reducible refine (spec_l1Abs.calls a1 t101 _ A4.out).mono ?_); rintro e w' ⟨rfl, ⟨nd, rfl⟩⟩; refine ⟨_, rfl, ?_⟩) | ((with_reducible refine gate_callee (f := 85) rfl ?_); refine goesL_ (some 10) rfl rfl Tryd.func85 (by kernel_rfl) rfl #[.int .i64 a2] rfl (by (try simp only [List.map_toArray, List.map_cons, List.map_nil]); first | done | rfl | (simp only [List.length_drop, List.length_take]; rfl)) ?_; (with_reducible refine (spec_l1Abs.calls a2 t102 _ A5.out).mono ?_); rintro e w' ⟨rfl, ⟨nd, rfl⟩⟩; refine ⟨_, rfl, ?_⟩))
     go_ret
     exact ⟨by first | rfl | (simp; done) | (simp [*]; done), by repeat (first | exact Drawn0.refl _ | apply Drawn0.step)⟩
    ·
     rw [if_neg c11] at H
     have c11b0 : (t101 == t102) = false := beq_eq_false_iff_ne.mpr c11
     have c11b1 : (t101 != t102) = true := bne_iff_ne.mpr c11
     obtain rfl := Option.some.inj H
     go_enter Tryd.func74, Tryd.ntmps74
     go_wp2_with (first | ((with_reducible refine gate_callee (f := 85) rfl ?_); refine goesL_ (some 8) rfl rfl Tryd.func85 (by kernel_rfl) rfl #[.int .i64 a1] rfl (by (try simp only [List.map_toArray, List.map_cons, List.map_nil]); first | done | rfl | (simp only [List.length_drop, List.length_take]; rfl)) ?_; (with_reducible refine (spec_l1Abs.calls a1 t101 _ A4.out).mono ?_); rintro e w' ⟨rfl, ⟨nd, rfl⟩⟩; refine ⟨_, rfl, ?_⟩) | ((with_reducible refine gate_callee (f := 85) rfl ?_); refine goesL_ (some 10) rfl rfl Tryd.func85 (by kernel_rfl) rfl #[.int .i64 a2] rfl (by (try simp only [List.map_toArray, List.map_cons, List.map_nil]); first | done | rfl | (simp only [List.length_drop, List.length_take]; rfl)) ?_; (with_reducible refine (spec_l1Abs.calls a2 t102 _ A5.out).mono ?_); rintro e w' ⟨rfl, ⟨nd, rfl⟩⟩; refine ⟨_, rfl, ?_⟩))
     go_ret
     exact ⟨by first | rfl | (simp; done) | (simp [*]; done), by repeat (first | exact Drawn0.refl _ | apply Drawn0.step)⟩

end Go.Proofs.YtkbgfaeohmnjpaaDoor.P

-- printed by xprint.py
namespace Go.Proofs.YtkbgfaeohmnjpaaDoor.P
open Go.RowKit Go.Proofs.YtkbgfaeohmnjpaaDoorW.PrintWords Go.Proofs.YtkbgfaeohmnjpaaDoorW.PrintLast Go.Proofs.YtkbgfaeohmnjpaaDoorW.PrintMore
attribute [local go_sem] max2_int min2_int max_two min_two max_three min_three max_four min_four   -- for this text's walks alone
set_option linter.unusedVariables false
set_option linter.unusedSimpArgs false

/-! ### spec_wkPlace: function 73 -/
def spec_wkPlace.f (a0 : Int) : Option (Int × Int) := if a0 = 48 then (some (1, 3)) else (some (((a0 - 49) % 256) % 3, ((a0 - 49) % 256) / 3))
set_option maxHeartbeats 8000000 in
set_option maxRecDepth 100000 in
theorem spec_wkPlace.calls (a0 : Int) (r1 : Int) (r2 : Int) (w : World) (h : spec_wkPlace.f a0 = some (r1, r2)) :
  Calls Tryd.prog 73 #[.int .u8 a0] w fun e w' => e = .returned (.tuple #[.int .i64 r1, .int .i64 r2]) ∧ Drawn0 w w' := by
 have H : (if a0 = 48 then (some (1, 3)) else (some (((a0 - 49) % 256) % 3, ((a0 - 49) % 256) / 3))) = some (r1, r2) := h
 clear h
 by_cases c2 : a0 = 48
 ·
  rw [if_pos c2] at H
  have c2b0 : (a0 == 48) = true := beq_iff_eq.mpr c2
  have c2b1 : (a0 != 48) = false := bne_eq_false_iff_eq.mpr c2
  clear c2
  simp only [Option.some.injEq, Prod.mk.injEq] at H
  obtain ⟨rfl, rfl⟩ := H
  go_enter Tryd.func73, Tryd.ntmps73
  go_wp2
  go_ret2
  exact ⟨by first | rfl | (simp; done) | (simp [*]; done), by repeat (first | exact Drawn0.refl _ | apply Drawn0.step)⟩
 ·
  rw [if_neg c2] at H
  have c2b0 : (a0 == 48) = false := beq_eq_false_iff_ne.mpr c2
  have c2b1 : (a0 != 48) = true := bne_iff_ne.mpr c2
  simp only [Option.some.injEq, Prod.mk.injEq] at H
  obtain ⟨rfl, rfl⟩ := H
  go_enter Tryd.func73, Tryd.ntmps73
  go_wp2
  go_ret2
  exact ⟨by first | rfl | (simp; done) | (simp [*]; done), by repeat (first | exact Drawn0.refl _ | apply Drawn0.step)⟩

end Go.Proofs.YtkbgfaeohmnjpaaDoor.P

-- printed by xprint.py
namespace Go.Proofs.YtkbgfaeohmnjpaaDoor.P
open Go.RowKit Go.Proofs.YtkbgfaeohmnjpaaDoorW.PrintWords Go.Proofs.YtkbgfaeohmnjpaaDoorW.PrintLast Go.Proofs.YtkbgfaeohmnjpaaDoorW.PrintMore
attribute [local go_sem] max2_int min2_int max_two min_two max_three min_three max_four min_four   -- for this text's walks alone
set_option linter.unusedVariables false
set_option linter.unusedSimpArgs false

/-! ### spec_wkSign: function 75 -/
def spec_wkSign.f (a0 : Int) : Option (Int) := if a0 > 0 then (some 1) else (if a0 < 0 then (some (-1)) else (some 0))
set_option maxHeartbeats 8000000 in
set_option maxRecDepth 100000 in
theorem spec_wkSign.calls (a0 : Int) (r : Int) (w : World) (h : spec_wkSign.f a0 = some r) :
  Calls Tryd.prog 75 #[.int .i64 a0] w fun e w' => e = .returned (.int .i64 r) ∧ Drawn0 w w' := by
 have H : (if a0 > 0 then (some 1) else (if a0 < 0 then (some (-1)) else (some 0))) = some r := h
 clear h
 by_cases c2 : a0 > 0
 ·
  rw [if_pos c2] at H
  have c2b0 : decide (0 < a0) = true := decide_eq_true c2
  clear c2
  obtain rfl := Option.some.inj H
  go_enter Tryd.func75, Tryd.ntmps75
  go_wp2
  go_ret
  exact ⟨by first | rfl | (simp; done) | (simp [*]; done), by repeat (first | exact Drawn0.refl _ | apply Drawn0.step)⟩
 ·
  rw [if_neg c2] at H
  have c2b0 : decide (0 < a0) = false := decide_eq_false c2
  clear c2
  by_cases c3 : a0 < 0
  ·
   rw [if_pos c3] at H
   have c3b0 : decide (a0 < 0) = true := decide_eq_true c3
   clear c3
   obtain rfl := Option.some.inj H
   go_enter Tryd.func75, Tryd.ntmps75
   go_wp2
   go_ret
   exact ⟨by first | rfl | (simp; done) | (simp [*]; done), by repeat (first | exact Drawn0.refl _ | apply Drawn0.step)⟩
  ·
   rw [if_neg c3] at H
   have c3b0 : decide (a0 < 0) = false := decide_eq_false c3
   clear c3
   obtain rfl := Option.some.inj H
   go_enter Tryd.func75, Tryd.ntmps75
   go_wp2
   go_ret
   exact ⟨by first | rfl | (simp; done) | (simp [*]; done), by repeat (first | exact Drawn0.refl _ | apply Drawn0.step)⟩

end Go.Proofs.YtkbgfaeohmnjpaaDoor.P

-- printed by xprint.py
namespace Go.Proofs.YtkbgfaeohmnjpaaDoor.P
open Go.RowKit Go.Proofs.YtkbgfaeohmnjpaaDoorW.PrintWords Go.Proofs.YtkbgfaeohmnjpaaDoorW.PrintLast Go.Proofs.YtkbgfaeohmnjpaaDoorW.PrintMore
attribute [local go_sem] max2_int min2_int max_two min_two max_three min_three max_four min_four   -- for this text's walks alone
set_option linter.unusedVariables false
set_option linter.unusedSimpArgs false

/-! ### spec_wkGoes: function 59 -/
mutual
def spec_wkGoes.l0 : Nat → Int → Int → Int → Int → Option (Bool)
 | 0, _, _, _, _ => none
 | k + 1, x7, x8, x9, x10 => if x7 = x9 then (spec_wkGoes.j1 k x7 x8 x9 x10 (x8 != x10)) else (spec_wkGoes.j1 k x7 x8 x9 x10 true)
def spec_wkGoes.j1 : Nat → Int → Int → Int → Int → Bool → Option (Bool)
 | 0, _, _, _, _, _ => none
 | k + 1, x7, x8, x9, x10, x39 => if x39 = true then ((spec_wkSign.f (wrap64 (x9 - x7))).bind fun t106 => ((spec_wkSign.f (wrap64 (x10 - x8))).bind fun t107 => ((spec_wkAt.f k (wrap64 (x7 + t106)) (wrap64 (x8 + t107))).bind fun t108 => (if t108 = 32 then (some false) else (spec_wkGoes.l0 k (wrap64 (x7 + t106)) (wrap64 (x8 + t107)) x9 x10))))) else (some true)
end
def spec_wkGoes.f (k : Nat) (a0 : ByteArray) (a1 : Int) (a2 : Int) : Option (Bool) := (spec_wkPlace.f a1).bind fun bt101 => ((spec_wkPlace.f a2).bind fun bt103 => ((spec_wkCan.f a0 (wrap64 (bt103.1 - bt101.1)) (wrap64 (bt103.2 - bt101.2))).bind fun t105 => (if t105 = true then (if a0.toList = ([110] : List UInt8) then (some true) else (spec_wkGoes.l0 k bt101.1 bt101.2 bt103.1 bt103.2)) else (some false))))
theorem spec_wkGoes.mono_l : ∀ k, (∀ y0 y1 y2 y3, LeO (spec_wkGoes.l0 k y0 y1 y2 y3) (spec_wkGoes.l0 (k + 1) y0 y1 y2 y3)) ∧ (∀ y0 y1 y2 y3 y4, LeO (spec_wkGoes.j1 k y0 y1 y2 y3 y4) (spec_wkGoes.j1 (k + 1) y0 y1 y2 y3 y4))
 | 0 => ⟨fun _ _ _ _ r h => by simp [spec_wkGoes.l0] at h, fun _ _ _ _ _ r h => by simp [spec_wkGoes.j1] at h⟩
 | k + 1 => by
  obtain ⟨ih0, ih1⟩ := spec_wkGoes.mono_l k
  refine ⟨?_, ?_⟩
  ·
   intro y0 y1 y2 y3
   unfold spec_wkGoes.l0
   repeat' first
   | (with_reducible exact ih0 _ _ _ _)
   | (with_reducible exact ih1 _ _ _ _ _)
   | (with_reducible exact spec_wkAt.mono _ _ _)
   | (with_reducible exact LeO.refl _)
   | (with_reducible exact LeO.none _)
   | (with_reducible refine LeO.ite ?_ ?_)
   | (with_reducible refine LeO.bind ?_ (fun _ => ?_))
   | exact ih0 _ _ _ _
   | exact ih1 _ _ _ _ _
   | exact spec_wkAt.mono _ _ _
   | exact LeO.none _
   | refine LeO.ite ?_ ?_
   | refine LeO.bind ?_ (fun _ => ?_)
  ·
   intro y0 y1 y2 y3 y4
   unfold spec_wkGoes.j1
   repeat' first
   | (with_reducible exact ih0 _ _ _ _)
   | (with_reducible exact ih1 _ _ _ _ _)
   | (with_reducible exact spec_wkAt.mono _ _ _)
   | (with_reducible exact LeO.refl _)
   | (with_reducible exact LeO.none _)
   | (with_reducible refine LeO.ite ?_ ?_)
   | (with_reducible refine LeO.bind ?_ (fun _ => ?_))
   | exact ih0 _ _ _ _
   | exact ih1 _ _ _ _ _
   | exact spec_wkAt.mono _ _ _
   | exact LeO.none _
   | refine LeO.ite ?_ ?_
   | refine LeO.bind ?_ (fun _ => ?_)
theorem spec_wkGoes.mono : ∀ a0 a1 a2 k, LeO (spec_wkGoes.f k a0 a1 a2) (spec_wkGoes.f (k + 1) a0 a1 a2) := by
 intro a0 a1 a2 k
 obtain ⟨ih0, ih1⟩ := spec_wkGoes.mono_l k
 unfold spec_wkGoes.f
 repeat' first
   | (with_reducible exact ih0 _ _ _ _)
   | (with_reducible exact ih1 _ _ _ _ _)
   | (with_reducible exact spec_wkAt.mono _ _ _)
   | (with_reducible exact LeO.refl _)
   | (with_reducible exact LeO.none _)
   | (with_reducible refine LeO.ite ?_ ?_)
   | (with_reducible refine LeO.bind ?_ (fun _ => ?_))
   | exact ih0 _ _ _ _
   | exact ih1 _ _ _ _ _
   | exact spec_wkAt.mono _ _ _
   | exact LeO.none _
   | refine LeO.ite ?_ ?_
   | refine LeO.bind ?_ (fun _ => ?_)
set_option maxHeartbeats 8000000 in
set_option maxRecDepth 100000 in
theorem spec_wkGoes.calls (k : Nat) (a0 : ByteArray) (a1 : Int) (a2 : Int) (r : Bool) (w : World) (h : spec_wkGoes.f k a0 a1 a2 = some r) :
  Calls Tryd.prog 59 #[.string a0, .int .u8 a1, .int .u8 a2] w fun e w' => e = .returned (.bool r) ∧ Drawn0 w w' := by
 have H : ((spec_wkPlace.f a1).bind fun bt101 => ((spec_wkPlace.f a2).bind fun bt103 => ((spec_wkCan.f a0 (wrap64 (bt103.1 - bt101.1)) (wrap64 (bt103.2 - bt101.2))).bind fun t105 => (if t105 = true then (if a0.toList = ([110] : List UInt8) then (some true) else (spec_wkGoes.l0 k bt101.1 bt101.2 bt103.1 bt103.2)) else (some false))))) = some r := h
 clear h
 replace H := Option.bind_eq_some_iff.mp H
 obtain ⟨⟨t101, t102⟩, A40, H⟩ := H
 replace H : ((spec_wkPlace.f a2).bind fun bt103 => ((spec_wkCan.f a0 (wrap64 (bt103.1 - t101)) (wrap64 (bt103.2 - t102))).bind fun t105 => (if t105 = true then (if a0.toList = ([110] : List UInt8) then (some true) else (spec_wkGoes.l0 k t101 t102 bt103.1 bt103.2)) else (some false)))) = some r := H
 have A4 := Aside0.mk A40
 clear A40
 replace H := Option.bind_eq_some_iff.mp H
 obtain ⟨⟨t103, t104⟩, A50, H⟩ := H
 replace H : ((spec_wkCan.f a0 (wrap64 (t103 - t101)) (wrap64 (t104 - t102))).bind fun t105 => (if t105 = true then (if a0.toList = ([110] : List UInt8) then (some true) else (spec_wkGoes.l0 k t101 t102 t103 t104)) else (some false))) = some r := H
 have A5 := Aside0.mk A50
 clear A50
 replace H := Option.bind_eq_some_iff.mp H
 obtain ⟨t105, A60, H⟩ := H
 replace H : (if t105 = true then (if a0.toList = ([110] : List UInt8) then (some true) else (spec_wkGoes.l0 k t101 t102 t103 t104)) else (some false)) = some r := H
 have A6 := Aside0.mk A60
 clear A60
 by_cases c7 : t105 = true
 ·
  subst c7
  have H1 : (if a0.toList = ([110] : List UInt8) then (some true) else (spec_wkGoes.l0 k t101 t102 t103 t104)) = some r := by rw [if_pos rfl] at H; exact H
  clear H
  have H := H1
  clear H1
  by_cases c8 : a0.toList = ([110] : List UInt8)
  ·
   rw [if_pos c8] at H
   have c8b0 : (a0.toList == ([110] : List UInt8)) = true := beq_iff_eq.mpr c8
   have c8b1 : (a0.toList != ([110] : List UInt8)) = false := bne_eq_false_iff_eq.mpr c8
   clear c8
   obtain rfl := Option.some.inj H
   go_enter Tryd.func59, Tryd.ntmps59
   go_wp2_with (first | ((with_reducible refine gate_callee (f := 73) rfl ?_); refine goesL_ (some 13) rfl rfl Tryd.func73 (by kernel_rfl) rfl #[.int .u8 a1] rfl (by (try simp only [List.map_toArray, List.map_cons, List.map_nil]); first | done | rfl | (simp only [List.length_drop, List.length_take]; rfl)) ?_; (with_reducible refine (spec_wkPlace.calls a1 t101 t102 _ A4.out).mono ?_); rintro e w' ⟨rfl, ⟨nd, rfl⟩⟩; refine ⟨_, rfl, ?_⟩) | ((with_reducible refine gate_callee (f := 73) rfl ?_); refine goesL_ (some 18) rfl rfl Tryd.func73 (by kernel_rfl) rfl #[.int .u8 a2] rfl (by (try simp only [List.map_toArray, List.map_cons, List.map_nil]); first | done | rfl | (simp only [List.length_drop, List.length_take]; rfl)) ?_; (with_reducible refine (spec_wkPlace.calls a2 t103 t104 _ A5.out).mono ?_); rintro e w' ⟨rfl, ⟨nd, rfl⟩⟩; refine ⟨_, rfl, ?_⟩) | ((with_reducible refine gate_callee (f := 74) rfl ?_); refine goesL_ (some 28) rfl rfl Tryd.func74 (by kernel_rfl) rfl #[.string a0, .int .i64 (wrap64 (t103 - t101)), .int .i64 (wrap64 (t104 - t102))] rfl (by (try simp only [List.map_toArray, List.map_cons, List.map_nil]); first | done | rfl | (simp only [List.length_drop, List.length_take]; rfl)) ?_; (with_reducible refine (spec_wkCan.calls a0 (wrap64 (t103 - t101)) (wrap64 (t104 - t102)) true _ A6.out).mono ?_); rintro e w' ⟨rfl, ⟨nd, rfl⟩⟩; refine ⟨_, rfl, ?_⟩))
   go_ret
   exact ⟨by first | rfl | (simp; done) | (simp [*]; done), by repeat (first | exact Drawn0.refl _ | apply Drawn0.step)⟩
  ·
   rw [if_neg c8] at H
   have c8b0 : (a0.toList == ([110] : List UInt8)) = false := beq_eq_false_iff_ne.mpr c8
   have c8b1 : (a0.toList != ([110] : List UInt8)) = true := bne_iff_ne.mpr c8
   have H' := Aside0.mk H
   clear H
   go_enter Tryd.func59, Tryd.ntmps59
   go_wp2_with (first | ((with_reducible refine gate_callee (f := 73) rfl ?_); refine goesL_ (some 13) rfl rfl Tryd.func73 (by kernel_rfl) rfl #[.int .u8 a1] rfl (by (try simp only [List.map_toArray, List.map_cons, List.map_nil]); first | done | rfl | (simp only [List.length_drop, List.length_take]; rfl)) ?_; (with_reducible refine (spec_wkPlace.calls a1 t101 t102 _ A4.out).mono ?_); rintro e w' ⟨rfl, ⟨nd, rfl⟩⟩; refine ⟨_, rfl, ?_⟩) | ((with_reducible refine gate_callee (f := 73) rfl ?_); refine goesL_ (some 18) rfl rfl Tryd.func73 (by kernel_rfl) rfl #[.int .u8 a2] rfl (by (try simp only [List.map_toArray, List.map_cons, List.map_nil]); first | done | rfl | (simp only [List.length_drop, List.length_take]; rfl)) ?_; (with_reducible refine (spec_wkPlace.calls a2 t103 t104 _ A5.out).mono ?_); rintro e w' ⟨rfl, ⟨nd, rfl⟩⟩; refine ⟨_, rfl, ?_⟩) | ((with_reducible refine gate_callee (f := 74) rfl ?_); refine goesL_ (some 28) rfl rfl Tryd.func74 (by kernel_rfl) rfl #[.string a0, .int .i64 (wrap64 (t103 - t101)), .int .i64 (wrap64 (t104 - t102))] rfl (by (try simp only [List.map_toArray, List.map_cons, List.map_nil]); first | done | rfl | (simp only [List.length_drop, List.length_take]; rfl)) ?_; (with_reducible refine (spec_wkCan.calls a0 (wrap64 (t103 - t101)) (wrap64 (t104 - t102)) true _ A6.out).mono ?_); rintro e w' ⟨rfl, ⟨nd, rfl⟩⟩; refine ⟨_, rfl, ?_⟩))
   go_loopg [7, 8] k (fun kq v7 v8 w' => ∃ (x7_1 : Int) (x8_1 : Int), v7 = .int .i64 x7_1 ∧ v8 = .int .i64 x8_1 ∧ Aside0 (spec_wkGoes.l0 kq x7_1 x8_1 t103 t104 = some r) ∧ Aside0 (kq ≤ k) ∧ Drawn0 w w')
   case atStart => exact ⟨(t101), (t102), (by first | rfl | (simp; done) | (simp [*]; done)), (by first | rfl | (simp; done) | (simp [*]; done)), H', ⟨Nat.le_refl _⟩, by repeat (first | exact Drawn0.refl _ | apply Drawn0.step)⟩
   case round =>
    clear H'
    try clear p2
    try clear c5
    try clear p6
    try clear c7
    try clear c8
    try clear c8b0
    try clear c8b1
    obtain ⟨x7_1, x8_1, rfl, rfl, HA, HK1, ⟨m1, rfl⟩⟩ := hrel
    cases gk with
    | zero => exact absurd HA.out (by simp [spec_wkGoes.l0])
    | succ k1 =>
     have H := HA.out
     clear HA
     simp only [spec_wkGoes.l0] at H
     have HC9 := Aside0.mk H
     clear H
     go_upto_region 7 with (fail)
     go_cut [39] (fun v39 wc => ∃ (kq : Nat) (x39_8 : Bool), v39 = .bool x39_8 ∧ Aside0 (spec_wkGoes.j1 kq x7_1 x8_1 t103 t104 x39_8 = some r) ∧ Aside0 (kq ≤ k1) ∧ Drawn0 w wc)
     case first =>
      have H := HC9.out
      clear HC9
      by_cases c10 : x7_1 = t103
      ·
       rw [if_pos c10] at H
       have c10b0 : (x7_1 == t103) = true := beq_iff_eq.mpr c10
       have c10b1 : (x7_1 != t103) = false := bne_eq_false_iff_eq.mpr c10
       clear c10
       (first | rw [c10b0] | (simp only [i64_w, i32_w]; rw [c10b0]) | skip)
       have H' := Aside0.mk H
       clear H
       go_wp2
       go_meet
       case rel => exact ⟨_, ((x8_1 != t104)), (by first | rfl | (simp; done) | (simp [*]; done)), H', ⟨by have := HK1.out; first | omega | exact Nat.le_refl _⟩, by repeat (first | exact Drawn0.refl _ | apply Drawn0.step)⟩
      ·
       rw [if_neg c10] at H
       have c10b0 : (x7_1 == t103) = false := beq_eq_false_iff_ne.mpr c10
       have c10b1 : (x7_1 != t103) = true := bne_iff_ne.mpr c10
       (first | rw [c10b0] | (simp only [i64_w, i32_w]; rw [c10b0]) | skip)
       have H' := Aside0.mk H
       clear H
       go_wp2
       go_meet
       case rel => exact ⟨_, (true), (by first | rfl | (simp; done) | (simp [*]; done)), H', ⟨by have := HK1.out; first | omega | exact Nat.le_refl _⟩, by repeat (first | exact Drawn0.refl _ | apply Drawn0.step)⟩
     case rest =>
      clear HC9
      try clear c1
      try clear p2
      try clear c5
      try clear p6
      try clear c7
      try clear c8
      try clear c8b0
      try clear c8b1
      try clear c10
      try clear c10b0
      try clear c10b1
      try clear p2
      try clear p6
      obtain ⟨kq, x39_8, rfl, HA, HJ8, ⟨mc8, rfl⟩⟩ := hcut
      cases kq with
      | zero => exact absurd HA.out (by simp [spec_wkGoes.j1])
      | succ kj8 =>
       have H := HA.out
       clear HA
       simp only [spec_wkGoes.j1] at H
       by_cases c11 : x39_8 = true
       ·
        subst c11
        have H1 : ((spec_wkSign.f (wrap64 (t103 - x7_1))).bind fun t106 => ((spec_wkSign.f (wrap64 (t104 - x8_1))).bind fun t107 => ((spec_wkAt.f kj8 (wrap64 (x7_1 + t106)) (wrap64 (x8_1 + t107))).bind fun t108 => (if t108 = 32 then (some false) else (spec_wkGoes.l0 kj8 (wrap64 (x7_1 + t106)) (wrap64 (x8_1 + t107)) t103 t104))))) = some r := by rw [if_pos rfl] at H; exact H
        clear H
        have H := H1
        clear H1
        replace H := Option.bind_eq_some_iff.mp H
        obtain ⟨t106, A120, H⟩ := H
        replace H : ((spec_wkSign.f (wrap64 (t104 - x8_1))).bind fun t107 => ((spec_wkAt.f kj8 (wrap64 (x7_1 + t106)) (wrap64 (x8_1 + t107))).bind fun t108 => (if t108 = 32 then (some false) else (spec_wkGoes.l0 kj8 (wrap64 (x7_1 + t106)) (wrap64 (x8_1 + t107)) t103 t104)))) = some r := H
        have A12 := Aside0.mk A120
        clear A120
        replace H := Option.bind_eq_some_iff.mp H
        obtain ⟨t107, A130, H⟩ := H
        replace H : ((spec_wkAt.f kj8 (wrap64 (x7_1 + t106)) (wrap64 (x8_1 + t107))).bind fun t108 => (if t108 = 32 then (some false) else (spec_wkGoes.l0 kj8 (wrap64 (x7_1 + t106)) (wrap64 (x8_1 + t107)) t103 t104))) = some r := H
        have A13 := Aside0.mk A130
        clear A130
        replace H := Option.bind_eq_some_iff.mp H
        obtain ⟨t108, A140, H⟩ := H
        replace H : (if t108 = 32 then (some false) else (spec_wkGoes.l0 kj8 (wrap64 (x7_1 + t106)) (wrap64 (x8_1 + t107)) t103 t104)) = some r := H
        have A14 := Aside0.mk A140
        clear A140
        by_cases c15 : t108 = 32
        ·
         rw [if_pos c15] at H
         have c15b0 : (t108 == 32) = true := beq_iff_eq.mpr c15
         have c15b1 : (t108 != 32) = false := bne_eq_false_iff_eq.mpr c15
         clear c15
         obtain rfl := Option.some.inj H
         go_wp2_with (first | ((with_reducible refine gate_callee (f := 75) rfl ?_); refine goesL_ (some 44) rfl rfl Tryd.func75 (by kernel_rfl) rfl #[.int .i64 (wrap64 (t103 - x7_1))] rfl (by (try simp only [List.map_toArray, List.map_cons, List.map_nil]); first | done | rfl | (simp only [List.length_drop, List.length_take]; rfl)) ?_; (with_reducible refine (spec_wkSign.calls (wrap64 (t103 - x7_1)) t106 _ A12.out).mono ?_); rintro e w' ⟨rfl, ⟨nd, rfl⟩⟩; refine ⟨_, rfl, ?_⟩) | ((with_reducible refine gate_callee (f := 75) rfl ?_); refine goesL_ (some 50) rfl rfl Tryd.func75 (by kernel_rfl) rfl #[.int .i64 (wrap64 (t104 - x8_1))] rfl (by (try simp only [List.map_toArray, List.map_cons, List.map_nil]); first | done | rfl | (simp only [List.length_drop, List.length_take]; rfl)) ?_; (with_reducible refine (spec_wkSign.calls (wrap64 (t104 - x8_1)) t107 _ A13.out).mono ?_); rintro e w' ⟨rfl, ⟨nd, rfl⟩⟩; refine ⟨_, rfl, ?_⟩) | ((with_reducible refine gate_callee (f := 76) rfl ?_); refine goesL_ (some 54) rfl rfl Tryd.func76 (by kernel_rfl) rfl #[.int .i64 (wrap64 (x7_1 + t106)), .int .i64 (wrap64 (x8_1 + t107))] rfl (by (try simp only [List.map_toArray, List.map_cons, List.map_nil]); first | done | rfl | (simp only [List.length_drop, List.length_take]; rfl)) ?_; (with_reducible refine (spec_wkAt.calls kj8 (wrap64 (x7_1 + t106)) (wrap64 (x8_1 + t107)) t108 _ A14.out).mono ?_); rintro e w' ⟨rfl, ⟨nd, rfl⟩⟩; refine ⟨_, rfl, ?_⟩))
         go_ret
         exact ⟨by first | rfl | (simp; done) | (simp [*]; done), by repeat (first | exact Drawn0.refl _ | apply Drawn0.step)⟩
        ·
         rw [if_neg c15] at H
         have c15b0 : (t108 == 32) = false := beq_eq_false_iff_ne.mpr c15
         have c15b1 : (t108 != 32) = true := bne_iff_ne.mpr c15
         have H' := Aside0.mk H
         clear H
         go_wp2_with (first | ((with_reducible refine gate_callee (f := 75) rfl ?_); refine goesL_ (some 44) rfl rfl Tryd.func75 (by kernel_rfl) rfl #[.int .i64 (wrap64 (t103 - x7_1))] rfl (by (try simp only [List.map_toArray, List.map_cons, List.map_nil]); first | done | rfl | (simp only [List.length_drop, List.length_take]; rfl)) ?_; (with_reducible refine (spec_wkSign.calls (wrap64 (t103 - x7_1)) t106 _ A12.out).mono ?_); rintro e w' ⟨rfl, ⟨nd, rfl⟩⟩; refine ⟨_, rfl, ?_⟩) | ((with_reducible refine gate_callee (f := 75) rfl ?_); refine goesL_ (some 50) rfl rfl Tryd.func75 (by kernel_rfl) rfl #[.int .i64 (wrap64 (t104 - x8_1))] rfl (by (try simp only [List.map_toArray, List.map_cons, List.map_nil]); first | done | rfl | (simp only [List.length_drop, List.length_take]; rfl)) ?_; (with_reducible refine (spec_wkSign.calls (wrap64 (t104 - x8_1)) t107 _ A13.out).mono ?_); rintro e w' ⟨rfl, ⟨nd, rfl⟩⟩; refine ⟨_, rfl, ?_⟩) | ((with_reducible refine gate_callee (f := 76) rfl ?_); refine goesL_ (some 54) rfl rfl Tryd.func76 (by kernel_rfl) rfl #[.int .i64 (wrap64 (x7_1 + t106)), .int .i64 (wrap64 (x8_1 + t107))] rfl (by (try simp only [List.map_toArray, List.map_cons, List.map_nil]); first | done | rfl | (simp only [List.length_drop, List.length_take]; rfl)) ?_; (with_reducible refine (spec_wkAt.calls kj8 (wrap64 (x7_1 + t106)) (wrap64 (x8_1 + t107)) t108 _ A14.out).mono ?_); rintro e w' ⟨rfl, ⟨nd, rfl⟩⟩; refine ⟨_, rfl, ?_⟩))
         go_roundg kj8
         case measure => have := HK1.out; have := HJ8.out; omega
         case rel => exact ⟨(wrap64 (x7_1 + t106)), (wrap64 (x8_1 + t107)), (by first | rfl | (simp; done) | (simp [*]; done)), (by first | rfl | (simp; done) | (simp [*]; done)), H', ⟨by have := HK1.out; have := HJ8.out; omega⟩, by repeat (first | exact Drawn0.refl _ | apply Drawn0.step)⟩
       ·
        replace c11 := Bool.eq_false_iff.mpr c11
        subst c11
        have H1 : (some true) = some r := by rw [if_neg (show ¬ (false = true) by decide)] at H; exact H
        clear H
        have H := H1
        clear H1
        obtain rfl := Option.some.inj H
        go_wp2
        go_ret
        exact ⟨by first | rfl | (simp; done) | (simp [*]; done), by repeat (first | exact Drawn0.refl _ | apply Drawn0.step)⟩
 ·
  replace c7 := Bool.eq_false_iff.mpr c7
  subst c7
  have H1 : (some false) = some r := by rw [if_neg (show ¬ (false = true) by decide)] at H; exact H
  clear H
  have H := H1
  clear H1
  obtain rfl := Option.some.inj H
  go_enter Tryd.func59, Tryd.ntmps59
  go_wp2_with (first | ((with_reducible refine gate_callee (f := 73) rfl ?_); refine goesL_ (some 13) rfl rfl Tryd.func73 (by kernel_rfl) rfl #[.int .u8 a1] rfl (by (try simp only [List.map_toArray, List.map_cons, List.map_nil]); first | done | rfl | (simp only [List.length_drop, List.length_take]; rfl)) ?_; (with_reducible refine (spec_wkPlace.calls a1 t101 t102 _ A4.out).mono ?_); rintro e w' ⟨rfl, ⟨nd, rfl⟩⟩; refine ⟨_, rfl, ?_⟩) | ((with_reducible refine gate_callee (f := 73) rfl ?_); refine goesL_ (some 18) rfl rfl Tryd.func73 (by kernel_rfl) rfl #[.int .u8 a2] rfl (by (try simp only [List.map_toArray, List.map_cons, List.map_nil]); first | done | rfl | (simp only [List.length_drop, List.length_take]; rfl)) ?_; (with_reducible refine (spec_wkPlace.calls a2 t103 t104 _ A5.out).mono ?_); rintro e w' ⟨rfl, ⟨nd, rfl⟩⟩; refine ⟨_, rfl, ?_⟩) | ((with_reducible refine gate_callee (f := 74) rfl ?_); refine goesL_ (some 28) rfl rfl Tryd.func74 (by kernel_rfl) rfl #[.string a0, .int .i64 (wrap64 (t103 - t101)), .int .i64 (wrap64 (t104 - t102))] rfl (by (try simp only [List.map_toArray, List.map_cons, List.map_nil]); first | done | rfl | (simp only [List.length_drop, List.length_take]; rfl)) ?_; (with_reducible refine (spec_wkCan.calls a0 (wrap64 (t103 - t101)) (wrap64 (t104 - t102)) false _ A6.out).mono ?_); rintro e w' ⟨rfl, ⟨nd, rfl⟩⟩; refine ⟨_, rfl, ?_⟩))
  go_ret
  exact ⟨by first | rfl | (simp; done) | (simp [*]; done), by repeat (first | exact Drawn0.refl _ | apply Drawn0.step)⟩

end Go.Proofs.YtkbgfaeohmnjpaaDoor.P

-- printed by xprint.py
namespace Go.Proofs.YtkbgfaeohmnjpaaDoor.P
open Go.RowKit Go.Proofs.YtkbgfaeohmnjpaaDoorW.PrintWords Go.Proofs.YtkbgfaeohmnjpaaDoorW.PrintLast Go.Proofs.YtkbgfaeohmnjpaaDoorW.PrintMore
attribute [local go_sem] max2_int min2_int max_two min_two max_three min_three max_four min_four   -- for this text's walks alone
set_option linter.unusedVariables false
set_option linter.unusedSimpArgs false

/-! ### spec_wkNext: function 38 -/
def spec_wkNext.l0 : Nat → ByteArray → Int → ByteArray → Int → Option (ByteArray)
 | 0, _, _, _, _ => none
 | k + 1, x0, x1, x5, x6 => if x6 ≤ 57 then ((spec_wkGoes.f k x0 x1 x6).bind fun t101 => (if t101 = true then (if x5.size + (Utf8.encode (wrap32 (x6))).size ≤ 9223372036854775807 then (spec_wkNext.l0 k x0 x1 (x5 ++ (Utf8.encode (wrap32 (x6)))) ((x6 + 1) % 256)) else (none)) else (spec_wkNext.l0 k x0 x1 x5 ((x6 + 1) % 256)))) else (some x5)
def spec_wkNext.f (k : Nat) (a0 : ByteArray) (a1 : Int) : Option (ByteArray) := spec_wkNext.l0 k a0 a1 (⟨#[]⟩ : ByteArray) 48
theorem spec_wkNext.mono_l : ∀ k, (∀ y0 y1 y2 y3, LeO (spec_wkNext.l0 k y0 y1 y2 y3) (spec_wkNext.l0 (k + 1) y0 y1 y2 y3))
 | 0 => fun _ _ _ _ r h => by simp [spec_wkNext.l0] at h
 | k + 1 => by
  have ih0 := spec_wkNext.mono_l k
  ·
   intro y0 y1 y2 y3
   unfold spec_wkNext.l0
   repeat' first
   | (with_reducible exact ih0 _ _ _ _)
   | (with_reducible exact spec_wkGoes.mono _ _ _ _)
   | (with_reducible exact LeO.refl _)
   | (with_reducible exact LeO.none _)
   | (with_reducible refine LeO.ite ?_ ?_)
   | (with_reducible refine LeO.bind ?_ (fun _ => ?_))
   | exact ih0 _ _ _ _
   | exact spec_wkGoes.mono _ _ _ _
   | exact LeO.none _
   | refine LeO.ite ?_ ?_
   | refine LeO.bind ?_ (fun _ => ?_)
theorem spec_wkNext.mono : ∀ a0 a1 k, LeO (spec_wkNext.f k a0 a1) (spec_wkNext.f (k + 1) a0 a1) := by
 intro a0 a1 k
 have ih0 := spec_wkNext.mono_l k
 unfold spec_wkNext.f
 repeat' first
   | (with_reducible exact ih0 _ _ _ _)
   | (with_reducible exact spec_wkGoes.mono _ _ _ _)
   | (with_reducible exact LeO.refl _)
   | (with_reducible exact LeO.none _)
   | (with_reducible refine LeO.ite ?_ ?_)
   | (with_reducible refine LeO.bind ?_ (fun _ => ?_))
   | exact ih0 _ _ _ _
   | exact spec_wkGoes.mono _ _ _ _
   | exact LeO.none _
   | refine LeO.ite ?_ ?_
   | refine LeO.bind ?_ (fun _ => ?_)
set_option maxHeartbeats 8000000 in
set_option maxRecDepth 100000 in
theorem spec_wkNext.calls (k : Nat) (a0 : ByteArray) (a1 : Int) (r : ByteArray) (w : World) (h : spec_wkNext.f k a0 a1 = some r) :
  Calls Tryd.prog 38 #[.string a0, .int .u8 a1] w fun e w' => e = .returned (.string r) ∧ Drawn0 w w' := by
 have H : (spec_wkNext.l0 k a0 a1 (⟨#[]⟩ : ByteArray) 48) = some r := h
 clear h
 have H' := Aside0.mk H
 clear H
 go_enter Tryd.func38, Tryd.ntmps38
 go_wp2
 go_loopg [5, 6] k (fun kq v5 v6 w' => ∃ (x5_1 : ByteArray) (x6_1 : Int), v5 = .string x5_1 ∧ v6 = .int .u8 x6_1 ∧ Aside0 (spec_wkNext.l0 kq a0 a1 x5_1 x6_1 = some r) ∧ Aside0 (kq ≤ k) ∧ Drawn0 w w')
 case atStart => exact ⟨((⟨#[]⟩ : ByteArray)), (48), (by first | rfl | (simp; done) | (simp [*]; done)), (by first | rfl | (simp; done) | (simp [*]; done)), H', ⟨Nat.le_refl _⟩, by repeat (first | exact Drawn0.refl _ | apply Drawn0.step)⟩
 case round =>
  clear H'
  try clear p2
  obtain ⟨x5_1, x6_1, rfl, rfl, HA, HK1, ⟨m1, rfl⟩⟩ := hrel
  cases gk with
  | zero => exact absurd HA.out (by simp [spec_wkNext.l0])
  | succ k1 =>
   have H := HA.out
   clear HA
   simp only [spec_wkNext.l0] at H
   by_cases c3 : x6_1 ≤ 57
   ·
    rw [if_pos c3] at H
    have c3b0 : decide (x6_1 ≤ 57) = true := decide_eq_true c3
    clear c3
    replace H := Option.bind_eq_some_iff.mp H
    obtain ⟨t101, A40, H⟩ := H
    replace H : (if t101 = true then (if x5_1.size + (Utf8.encode (wrap32 (x6_1))).size ≤ 9223372036854775807 then (spec_wkNext.l0 k1 a0 a1 (x5_1 ++ (Utf8.encode (wrap32 (x6_1)))) ((x6_1 + 1) % 256)) else (none)) else (spec_wkNext.l0 k1 a0 a1 x5_1 ((x6_1 + 1) % 256))) = some r := H
    have A4 := Aside0.mk A40
    clear A40
    by_cases c5 : t101 = true
    ·
     subst c5
     have H1 : (if x5_1.size + (Utf8.encode (wrap32 (x6_1))).size ≤ 9223372036854775807 then (spec_wkNext.l0 k1 a0 a1 (x5_1 ++ (Utf8.encode (wrap32 (x6_1)))) ((x6_1 + 1) % 256)) else (none)) = some r := by rw [if_pos rfl] at H; exact H
     clear H
     have H := H1
     clear H1
     by_cases c6 : x5_1.size + (Utf8.encode (wrap32 (x6_1))).size ≤ 9223372036854775807
     ·
      rw [if_pos c6] at H
      have c6b0 := eq_true c6
      have c6b1 : decide (x5_1.size + (Utf8.encode (wrap32 (x6_1))).size ≤ 9223372036854775807) = true := decide_eq_true c6
      try have c6b2 : (9223372036854775807 < x5_1.size + (Utf8.encode (wrap32 (x6_1))).size) = False := eq_false (Nat.not_lt.2 c6)
      have H' := Aside0.mk H
      clear H
      go_wp2_with (first | ((with_reducible refine gate_callee (f := 59) rfl ?_); refine goesL_ (some 14) rfl rfl Tryd.func59 (by kernel_rfl) rfl #[.string a0, .int .u8 a1, .int .u8 x6_1] rfl (by (try simp only [List.map_toArray, List.map_cons, List.map_nil]); first | done | rfl | (simp only [List.length_drop, List.length_take]; rfl)) ?_; (with_reducible refine (spec_wkGoes.calls k1 a0 a1 x6_1 true _ A4.out).mono ?_); rintro e w' ⟨rfl, ⟨nd, rfl⟩⟩; refine ⟨_, rfl, ?_⟩; have hcv7 : ∀ W : World, (convert 21 9 (.int .i32 (wrap32 (x6_1)))).run Tryd.prog W = .ok (.string (Utf8.encode (wrap32 (x6_1)))) W := fun W => run_convert_int_string W 21 9 .i32 (wrap32 (x6_1)) (by rw [Tryd.underlying21]; rfl) Tryd.underlying9))
      go_roundg k1
      case measure => have := HK1.out; omega
      case rel => exact ⟨(x5_1 ++ (Utf8.encode (wrap32 (x6_1)))), ((x6_1 + 1) % 256), (by first | rfl | (simp; done) | (simp [*]; done)), (by first | rfl | (simp; done) | (simp [*]; done)), H', ⟨by have := HK1.out; omega⟩, by repeat (first | exact Drawn0.refl _ | apply Drawn0.step)⟩
     ·
      rw [if_neg c6] at H
      exact absurd H (by simp)
    ·
     replace c5 := Bool.eq_false_iff.mpr c5
     subst c5
     have H1 : (spec_wkNext.l0 k1 a0 a1 x5_1 ((x6_1 + 1) % 256)) = some r := by rw [if_neg (show ¬ (false = true) by decide)] at H; exact H
     clear H
     have H := H1
     clear H1
     have H' := Aside0.mk H
     clear H
     go_wp2_with (first | ((with_reducible refine gate_callee (f := 59) rfl ?_); refine goesL_ (some 14) rfl rfl Tryd.func59 (by kernel_rfl) rfl #[.string a0, .int .u8 a1, .int .u8 x6_1] rfl (by (try simp only [List.map_toArray, List.map_cons, List.map_nil]); first | done | rfl | (simp only [List.length_drop, List.length_take]; rfl)) ?_; (with_reducible refine (spec_wkGoes.calls k1 a0 a1 x6_1 false _ A4.out).mono ?_); rintro e w' ⟨rfl, ⟨nd, rfl⟩⟩; refine ⟨_, rfl, ?_⟩))
     go_roundg k1
     case measure => have := HK1.out; omega
     case rel => exact ⟨(x5_1), ((x6_1 + 1) % 256), (by first | rfl | (simp; done) | (simp [*]; done)), (by first | rfl | (simp; done) | (simp [*]; done)), H', ⟨by have := HK1.out; omega⟩, by repeat (first | exact Drawn0.refl _ | apply Drawn0.step)⟩
   ·
    rw [if_neg c3] at H
    have c3b0 : decide (x6_1 ≤ 57) = false := decide_eq_false c3
    clear c3
    obtain rfl := Option.some.inj H
    go_wp2
    go_ret
    exact ⟨by first | rfl | (simp; done) | (simp [*]; done), by repeat (first | exact Drawn0.refl _ | apply Drawn0.step)⟩

end Go.Proofs.YtkbgfaeohmnjpaaDoor.P

-- printed by xprint.py
namespace Go.Proofs.YtkbgfaeohmnjpaaDoor.P
open Go.RowKit Go.Proofs.YtkbgfaeohmnjpaaDoorW.PrintWords Go.Proofs.YtkbgfaeohmnjpaaDoorW.PrintLast Go.Proofs.YtkbgfaeohmnjpaaDoorW.PrintMore
attribute [local go_sem] max2_int min2_int max_two min_two max_three min_three max_four min_four   -- for this text's walks alone
set_option linter.unusedVariables false
set_option linter.unusedSimpArgs false

/-! ### spec_wkFar: function 31 -/
mutual
def spec_wkFar.l0 : Nat → ByteArray → Int → List Int → List Int → Int → Int → Option (List Int × List Int)
 | 0, _, _, _, _, _, _ => none
 | k + 1, x0, x1, x6, x7, x17, x18 => if x18 < x17 then (if 0 ≤ x18 then (if x18 < (x6.length : Int) then (spec_wkFar.l0 k x0 x1 (x6.set (x18 : Int).toNat (-1)) x7 x17 (wrap64 (x18 + 1))) else (none)) else (none)) else (if 0 ≤ ((x1 - 48) % 256) then (if ((x1 - 48) % 256) < (x6.length : Int) then (if ((x1 - 48) % 256) < (x7.length : Int) then (spec_wkFar.l1 k x0 (x6.set (((x1 - 48) % 256) : Int).toNat 0) (x7.set (((x1 - 48) % 256) : Int).toNat 1) 0) else (none)) else (none)) else (none))
def spec_wkFar.l1 : Nat → ByteArray → List Int → List Int → Int → Option (List Int × List Int)
 | 0, _, _, _, _ => none
 | k + 1, x0, x6, x7, x9 => if x9 < 10 then (spec_wkFar.l2 k x0 x6 x7 x9 (x6.length : Int) 0) else (some (x6, x7))
def spec_wkFar.l2 : Nat → ByteArray → List Int → List Int → Int → Int → Int → Option (List Int × List Int)
 | 0, _, _, _, _, _, _ => none
 | k + 1, x0, x6, x7, x9, x38, x39 => if x39 < x38 then (if 0 ≤ x39 then (if x39 < (x6.length : Int) then (if (rd x6 x39) = x9 then ((spec_wkNext.f k x0 ((wrap64 (48 + x39)) % 256)).bind fun t111 => (spec_wkFar.l3 k x0 x6 x7 x9 x39 t111 0 x38 x39)) else (spec_wkFar.l2 k x0 x6 x7 x9 x38 (wrap64 (x39 + 1)))) else (none)) else (none)) else (spec_wkFar.l1 k x0 x6 x7 (wrap64 (x9 + 1)))
def spec_wkFar.l3 : Nat → ByteArray → List Int → List Int → Int → Int → ByteArray → Int → Int → Int → Option (List Int × List Int)
 | 0, _, _, _, _, _, _, _, _, _ => none
 | k + 1, x0, x6, x7, x9, x10, x11, x12, x38, x39 => if x12 < (x11.size : Int) then (if 0 ≤ x12 then (if 0 ≤ (((bt x11 x12) - 48) % 256) then (if (((bt x11 x12) - 48) % 256) < (x6.length : Int) then (if (rd x6 (((bt x11 x12) - 48) % 256)) < 0 then ((some (x6.set ((((bt x11 x12) - 48) % 256) : Int).toNat (wrap64 (x9 + 1)) : List Int)).bind fun y113 => (if (rd y113 (((bt x11 x12) - 48) % 256)) = (wrap64 (x9 + 1)) then (if (((bt x11 x12) - 48) % 256) < (x7.length : Int) then (if 0 ≤ x10 then (if x10 < (x7.length : Int) then (spec_wkFar.l3 k x0 y113 (x7.set ((((bt x11 x12) - 48) % 256) : Int).toNat (wrap64 ((rd x7 (((bt x11 x12) - 48) % 256)) + (rd x7 x10)))) x9 x10 x11 (wrap64 (x12 + 1)) x38 x39) else (none)) else (none)) else (none)) else (spec_wkFar.l3 k x0 y113 x7 x9 x10 x11 (wrap64 (x12 + 1)) x38 x39))) else (if (rd x6 (((bt x11 x12) - 48) % 256)) = (wrap64 (x9 + 1)) then (if (((bt x11 x12) - 48) % 256) < (x7.length : Int) then (if 0 ≤ x10 then (if x10 < (x7.length : Int) then (spec_wkFar.l3 k x0 x6 (x7.set ((((bt x11 x12) - 48) % 256) : Int).toNat (wrap64 ((rd x7 (((bt x11 x12) - 48) % 256)) + (rd x7 x10)))) x9 x10 x11 (wrap64 (x12 + 1)) x38 x39) else (none)) else (none)) else (none)) else (spec_wkFar.l3 k x0 x6 x7 x9 x10 x11 (wrap64 (x12 + 1)) x38 x39))) else (none)) else (none)) else (none)) else (spec_wkFar.l2 k x0 x6 x7 x9 x38 (wrap64 (x39 + 1)))
end
def spec_wkFar.f (k : Nat) (a0 : ByteArray) (a1 : Int) : Option (List Int × List Int) := if 10 ≤ 35184372088832 then ((some (List.replicate 10 0 : List Int)).bind fun y101 => (spec_wkFar.l0 k a0 a1 y101 (List.replicate 10 0) (y101.length : Int) 0)) else (none)
theorem spec_wkFar.mono_l : ∀ k, (∀ y0 y1 y2 y3 y4 y5, LeO (spec_wkFar.l0 k y0 y1 y2 y3 y4 y5) (spec_wkFar.l0 (k + 1) y0 y1 y2 y3 y4 y5)) ∧ (∀ y0 y1 y2 y3, LeO (spec_wkFar.l1 k y0 y1 y2 y3) (spec_wkFar.l1 (k + 1) y0 y1 y2 y3)) ∧ (∀ y0 y1 y2 y3 y4 y5, LeO (spec_wkFar.l2 k y0 y1 y2 y3 y4 y5) (spec_wkFar.l2 (k + 1) y0 y1 y2 y3 y4 y5)) ∧ (∀ y0 y1 y2 y3 y4 y5 y6 y7 y8, LeO (spec_wkFar.l3 k y0 y1 y2 y3 y4 y5 y6 y7 y8) (spec_wkFar.l3 (k + 1) y0 y1 y2 y3 y4 y5 y6 y7 y8))
 | 0 => ⟨fun _ _ _ _ _ _ r h => by simp [spec_wkFar.l0] at h, fun _ _ _ _ r h => by simp [spec_wkFar.l1] at h, fun _ _ _ _ _ _ r h => by simp [spec_wkFar.l2] at h, fun _ _ _ _ _ _ _ _ _ r h => by simp [spec_wkFar.l3] at h⟩
 | k + 1 => by
  obtain ⟨ih0, ih1, ih2, ih3⟩ := spec_wkFar.mono_l k
  refine ⟨?_, ?_, ?_, ?_⟩
  ·
   intro y0 y1 y2 y3 y4 y5
   unfold spec_wkFar.l0
   repeat' first
   | (with_reducible exact ih0 _ _ _ _ _ _)
   | (with_reducible exact ih1 _ _ _ _)
   | (with_reducible exact ih2 _ _ _ _ _ _)
   | (with_reducible exact ih3 _ _ _ _ _ _ _ _ _)
   | (with_reducible exact spec_wkNext.mono _ _ _)
   | (with_reducible exact LeO.refl _)
   | (with_reducible exact LeO.none _)
   | (with_reducible refine LeO.ite ?_ ?_)
   | (with_reducible refine LeO.bind ?_ (fun _ => ?_))
   | exact ih0 _ _ _ _ _ _
   | exact ih1 _ _ _ _
   | exact ih2 _ _ _ _ _ _
   | exact ih3 _ _ _ _ _ _ _ _ _
   | exact spec_wkNext.mono _ _ _
   | exact LeO.none _
   | refine LeO.ite ?_ ?_
   | refine LeO.bind ?_ (fun _ => ?_)
  ·
   intro y0 y1 y2 y3
   unfold spec_wkFar.l1
   repeat' first
   | (with_reducible exact ih0 _ _ _ _ _ _)
   | (with_reducible exact ih1 _ _ _ _)
   | (with_reducible exact ih2 _ _ _ _ _ _)
   | (with_reducible exact ih3 _ _ _ _ _ _ _ _ _)
   | (with_reducible exact spec_wkNext.mono _ _ _)
   | (with_reducible exact LeO.refl _)
   | (with_reducible exact LeO.none _)
   | (with_reducible refine LeO.ite ?_ ?_)
   | (with_reducible refine LeO.bind ?_ (fun _ => ?_))
   | exact ih0 _ _ _ _ _ _
   | exact ih1 _ _ _ _
   | exact ih2 _ _ _ _ _ _
   | exact ih3 _ _ _ _ _ _ _ _ _
   | exact spec_wkNext.mono _ _ _
   | exact LeO.none _
   | refine LeO.ite ?_ ?_
   | refine LeO.bind ?_ (fun _ => ?_)
  ·
   intro y0 y1 y2 y3 y4 y5
   unfold spec_wkFar.l2
   repeat' first
   | (with_reducible exact ih0 _ _ _ _ _ _)
   | (with_reducible exact ih1 _ _ _ _)
   | (with_reducible exact ih2 _ _ _ _ _ _)
   | (with_reducible exact ih3 _ _ _ _ _ _ _ _ _)
   | (with_reducible exact spec_wkNext.mono _ _ _)
   | (with_reducible exact LeO.refl _)
   | (with_reducible exact LeO.none _)
   | (with_reducible refine LeO.ite ?_ ?_)
   | (with_reducible refine LeO.bind ?_ (fun _ => ?_))
   | exact ih0 _ _ _ _ _ _
   | exact ih1 _ _ _ _
   | exact ih2 _ _ _ _ _ _
   | exact ih3 _ _ _ _ _ _ _ _ _
   | exact spec_wkNext.mono _ _ _
   | exact LeO.none _
   | refine LeO.ite ?_ ?_
   | refine LeO.bind ?_ (fun _ => ?_)
  ·
   intro y0 y1 y2 y3 y4 y5 y6 y7 y8
   unfold spec_wkFar.l3
   repeat' first
   | (with_reducible exact ih0 _ _ _ _ _ _)
   | (with_reducible exact ih1 _ _ _ _)
   | (with_reducible exact ih2 _ _ _ _ _ _)
   | (with_reducible exact ih3 _ _ _ _ _ _ _ _ _)
   | (with_reducible exact spec_wkNext.mono _ _ _)
   | (with_reducible exact LeO.refl _)
   | (with_reducible exact LeO.none _)
   | (with_reducible refine LeO.ite ?_ ?_)
   | (with_reducible refine LeO.bind ?_ (fun _ => ?_))
   | exact ih0 _ _ _ _ _ _
   | exact ih1 _ _ _ _
   | exact ih2 _ _ _ _ _ _
   | exact ih3 _ _ _ _ _ _ _ _ _
   | exact spec_wkNext.mono _ _ _
   | exact LeO.none _
   | refine LeO.ite ?_ ?_
   | refine LeO.bind ?_ (fun _ => ?_)
theorem spec_wkFar.mono : ∀ a0 a1 k, LeO (spec_wkFar.f k a0 a1) (spec_wkFar.f (k + 1) a0 a1) := by
 intro a0 a1 k
 obtain ⟨ih0, ih1, ih2, ih3⟩ := spec_wkFar.mono_l k
 unfold spec_wkFar.f
 repeat' first
   | (with_reducible exact ih0 _ _ _ _ _ _)
   | (with_reducible exact ih1 _ _ _ _)
   | (with_reducible exact ih2 _ _ _ _ _ _)
   | (with_reducible exact ih3 _ _ _ _ _ _ _ _ _)
   | (with_reducible exact spec_wkNext.mono _ _ _)
   | (with_reducible exact LeO.refl _)
   | (with_reducible exact LeO.none _)
   | (with_reducible refine LeO.ite ?_ ?_)
   | (with_reducible refine LeO.bind ?_ (fun _ => ?_))
   | exact ih0 _ _ _ _ _ _
   | exact ih1 _ _ _ _
   | exact ih2 _ _ _ _ _ _
   | exact ih3 _ _ _ _ _ _ _ _ _
   | exact spec_wkNext.mono _ _ _
   | exact LeO.none _
   | refine LeO.ite ?_ ?_
   | refine LeO.bind ?_ (fun _ => ?_)
def spec_wkFar.T25 : Bool × List (List Nat × List Nat) := (true, [([], []), ([], []), ([0, 1], [0, 1]), ([2], [2]), ([], []), ([], []), ([4, 5], [4, 5]), ([6], [6]), ([3, 7], [3, 7]), ([0, 1, 0, 1, 2, 3, 4, 5, 6, 7, 8], [0, 1]), ([9, 8, 0, 1, 2, 3, 4, 5, 6, 7, 8], [8, 9])])
def spec_wkFar.B25 : List Nat := [0, 0, 3, 7, 0, 0, 48, 112, 255, 511, 1023]
theorem spec_wkFar.tab25 : rtab .any (opsOf Tryd.f31 25) = spec_wkFar.T25 := by kernel_rfl
theorem spec_wkFar.bits25 : waitsOk spec_wkFar.T25.2 spec_wkFar.B25 = true := by kernel_rfl
set_option maxHeartbeats 8000000 in
set_option maxRecDepth 100000 in
theorem spec_wkFar.calls (k : Nat) (a0 : ByteArray) (a1 : Int) (r1 : List Int) (r2 : List Int) (w : World) (h : spec_wkFar.f k a0 a1 = some (r1, r2)) :
  Calls Tryd.prog 31 #[.string a0, .int .u8 a1] w fun e w' => ∃ v0_ v1_ : Value, e = .returned (.tuple #[v0_, v1_]) ∧ Kd.R (Kd.int .i64) 3 w' w.heap.size (fun k_ => some k_ ≠ (v1_ : Value).ownBlock) v0_ r1 ∧ Kd.R (Kd.int .i64) 3 w' w.heap.size (fun k_ => some k_ ≠ (v0_ : Value).ownBlock) v1_ r2 ∧ Below w.heap.size w w' := by
 have HB := Aside0.mk (Below.refl w.heap.size w)
 have H : (if 10 ≤ 35184372088832 then ((some (List.replicate 10 0 : List Int)).bind fun y101 => (spec_wkFar.l0 k a0 a1 y101 (List.replicate 10 0) (y101.length : Int) 0)) else (none)) = some (r1, r2) := h
 clear h
 by_cases c3 : 10 ≤ 35184372088832
 ·
  rw [if_pos c3] at H
  have c3b0 := eq_true c3
  have c3b1 : decide (10 ≤ 35184372088832) = true := decide_eq_true c3
  clear c3
  obtain ⟨y101, hy101⟩ : ∃ y_ : List Int, y_ = (List.replicate 10 0) := ⟨_, rfl⟩
  replace H : (spec_wkFar.l0 k a0 a1 y101 (List.replicate 10 0) (y101.length : Int) 0) = some (r1, r2) := by first | (rw [hy101]; with_reducible exact H) | (have H2_ := (Option.bind_some _ _).symm.trans H; rw [hy101]; with_reducible exact H2_) | (have H2_ := (Option.bind_some _ _).symm.trans H; with_reducible exact H2_) | with_reducible exact H | (rw [hy101]; exact H) | exact H
  have Ny101 := Aside0.mk hy101
  clear hy101
  obtain ⟨y104, hy104⟩ : ∃ y_ : List Int, y_ = (List.replicate 10 0) := ⟨_, rfl⟩
  replace H : (spec_wkFar.l0 k a0 a1 y101 y104 (y101.length : Int) 0) = some (r1, r2) := by first | (rw [hy104]; with_reducible exact H) | (have H2_ := (Option.bind_some _ _).symm.trans H; rw [hy104]; with_reducible exact H2_) | (have H2_ := (Option.bind_some _ _).symm.trans H; with_reducible exact H2_) | with_reducible exact H | (rw [hy104]; exact H) | exact H
  have Ny104 := Aside0.mk hy104
  clear hy104
  have H' := Aside0.mk H
  clear H
  go_enter Tryd.func31, Tryd.ntmps31
  go_wp2_with (first | ((with_reducible refine gate_dst (N := 14) rfl ?_); refine Kd.R_make (Kd.int .i64) _ 3 rfl (N := 14) rfl 22 _ _ rfl 10 rfl rfl Tryd.underlying22 (.int .i64 0) 8 info3 rfl (by decide) (by omega) 0 (ok := fun _ => True) (okp := fun _ => True) rfl (fun _ hk => hk) trivial (by omega) (by omega) (Below.refl _ _) (Nat.le_refl _) ?_; intro v102 w4 ho5 hb hg_ hnew_; clear hg_ hnew_; (first | rw [← Ny101.out] at ho5 | (simp only [Int.reduceToNat] at ho5; rw [← Ny101.out] at ho5)); have n0_ := Aside0.mk (Kd.R_lower ho5 (below_size (by repeat (first | (with_reducible first | exact HB.out | apply below_alloc | apply pw_below_drewN | apply below_drew1) | exact HB.out)))); have n1_ := Aside0.mk (below_step (by repeat (first | (with_reducible first | exact HB.out | apply below_alloc | apply pw_below_drewN | apply below_drew1) | exact HB.out)) hb); clear HB; have HO103 := n0_; have HB := n1_; clear n0_ n1_; clear hb ho5) | ((with_reducible refine gate_dst (N := 15) rfl ?_); refine Kd.R_make (Kd.int .i64) _ 3 rfl (N := 15) rfl 22 _ _ rfl 10 rfl rfl Tryd.underlying22 (.int .i64 0) 8 info3 rfl (by decide) (by omega) 0 (ok := fun _ => True) (okp := fun _ => True) rfl (fun _ hk => hk) trivial (by omega) (by omega) (Below.refl _ _) (Nat.le_refl _) ?_; intro v105 w6 ho7 hb hg_ hnew_; clear hg_ hnew_; (first | rw [← Ny104.out] at ho7 | (simp only [Int.reduceToNat] at ho7; rw [← Ny104.out] at ho7)); have n0_ := Aside0.mk (Kd.R_elder' (by (with_reducible repeat (first | apply Kd.R_alloc | apply Kd.R_drewN | apply Kd.R_drew)); exact HO103.out) (Kd.R_base ho7) hb); have n1_ := Aside0.mk (Kd.R_lower (Kd.R_new' ho7 (Kd.R_lt (by (with_reducible repeat (first | apply Kd.R_alloc | apply Kd.R_drewN | apply Kd.R_drew)); exact HO103.out))) (below_size (by repeat (first | (with_reducible first | exact HB.out | apply below_alloc | apply pw_below_drewN | apply below_drew1) | exact HB.out)))); have n2_ := Aside0.mk (below_step (by repeat (first | (with_reducible first | exact HB.out | apply below_alloc | apply pw_below_drewN | apply below_drew1) | exact HB.out)) hb); clear HO103; clear HB; have HO103 := n0_; have HO106 := n1_; have HB := n2_; clear n0_ n1_ n2_; clear hb ho7; obtain ⟨Ao8, co8, eo8⟩ := Kd.R_slice HO103.out; subst eo8))
  go_loopg [18] k (fun kq v18 w' => ∃ (x6_1 : List Int) (x18_1 : Int), v18 = .int .i64 x18_1 ∧ Aside0 (spec_wkFar.l0 kq a0 a1 x6_1 y104 (y101.length : Int) x18_1 = some (r1, r2)) ∧ Aside0 (kq ≤ k) ∧ Aside0 (Kd.R (Kd.int .i64) 3 w' w.heap.size (fun k_ => some k_ ≠ (v105 : Value).ownBlock) (.slice Ao8 y101.length co8) x6_1) ∧ Aside0 (Kd.R (Kd.int .i64) 3 w' w.heap.size (fun k_ => some k_ ≠ ((.slice Ao8 y101.length co8) : Value).ownBlock) v105 y104) ∧ Aside0 (Below w.heap.size w w'))
  case atStart => exact ⟨(y101), (0), (by first | rfl | (simp; done) | (simp [*]; done)), H', ⟨Nat.le_refl _⟩, ⟨by (with_reducible repeat (first | apply Kd.R_alloc | apply Kd.R_drewN | apply Kd.R_drew)); exact Kd.R_mono HO103.out (fun _ hk => hk.2)⟩, ⟨by (with_reducible repeat (first | apply Kd.R_alloc | apply Kd.R_drewN | apply Kd.R_drew)); exact Kd.R_mono HO106.out (fun _ hk => hk.2)⟩, ⟨by repeat (first | (with_reducible first | exact HB.out | apply below_alloc | apply pw_below_drewN | apply below_drew1) | exact HB.out)⟩⟩
  case round =>
   clear H'
   try clear p2
   try clear c3
   try clear c3b0
   try clear c3b1
   obtain ⟨x6_1, x18_1, rfl, HA, HK1, HO_6, HO_7, HB⟩ := hrel
   have hl6_1 := (Kd.R_reads' HO_6.out).1
   rw [hl6_1] at HO_6
   (try simp only [hl6_1])
   (try simp only [hl6_1] at HO_7)
   cases gk with
   | zero => exact absurd HA.out (by simp [spec_wkFar.l0])
   | succ k1 =>
    have H := HA.out
    clear HA
    simp only [spec_wkFar.l0] at H
    by_cases c9 : x18_1 < (y101.length : Int)
    ·
     rw [if_pos c9] at H
     have c9b0 : decide (x18_1 < (y101.length : Int)) = true := decide_eq_true c9
     (try (have c9b0_ := c9b0; rw [hl6_1] at c9b0_))
     clear c9
     by_cases c10 : 0 ≤ x18_1
     ·
      rw [if_pos c10] at H
      have c10b0 : decide (0 ≤ x18_1) = true := decide_eq_true c10
      clear c10
      by_cases c11 : x18_1 < (x6_1.length : Int)
      ·
       rw [if_pos c11] at H
       have c11b0 : decide (x18_1 < (x6_1.length : Int)) = true := decide_eq_true c11
       (try (have c11b0_ := c11b0; rw [hl6_1] at c11b0_))
       clear c11
       obtain ⟨y107, hy107⟩ : ∃ y_ : List Int, y_ = (x6_1.set (x18_1 : Int).toNat (-1)) := ⟨_, rfl⟩
       replace H : (spec_wkFar.l0 k1 a0 a1 y107 y104 (y101.length : Int) (wrap64 (x18_1 + 1))) = some (r1, r2) := by first | (rw [hy107]; with_reducible exact H) | (have H2_ := (Option.bind_some _ _).symm.trans H; rw [hy107]; with_reducible exact H2_) | (have H2_ := (Option.bind_some _ _).symm.trans H; with_reducible exact H2_) | with_reducible exact H | (rw [hy107]; exact H) | exact H
       have Ny107 := Aside0.mk hy107
       clear hy107
       have H' := Aside0.mk H
       clear H
       have p12 : 0 ≤ (x18_1 : Int) := of_decide_eq_true (by first | (with_reducible assumption) | assumption)
       have q12 : (x18_1 : Int) < ((x6_1.length : Int) : Int) := of_decide_eq_true (by first | (with_reducible assumption) | assumption)
       obtain ⟨go12, co12, eo12, gb12, gl12, cl12, HG12⟩ := Kd.R_form HO_6.out (by omega)
       (first | cases eo12 | (injection eo12 with ea_ en_ ec_; (first | subst ea_ | (injection ea_ with ea_; subst ea_)); subst ec_; clear en_))
       have GB12 := Aside0.mk gb12
       have GG12 := Aside0.mk HG12
       clear gb12 gl12 HG12
       obtain ⟨hx12_0, hf12_0⟩ := Kd.R_celln 0 HO_6.out (x18_1 : Int) p12 q12
       replace p12 := eq_true p12
       replace q12 := eq_true q12
       have HP13 := Kd.R_putg HO_6.out (x18_1 : Int) (-1)
       go_wp2_with (first | ((with_reducible refine gate_store (t := 3) (p := 23) rfl ?_); refine store_event (t := 3) (p := 23) (v := ?vo_w14) (w1 := (wr.setCell ⟨go12, (x18_1 : Int).toNat, none⟩ (.int .i64 (-1)))) ?hg ?ho ?hn ?hr ?_; (case ho => rfl); (case hg => rfl); (case hn => rfl); (case hr => first | (go_simp; done) | (go_simp; rfl)); intro w14 hw; have hg : wr.grownBy w14 (some go12) := (by rw [hw]; exact HP13.2); have hp_ : Kd.R (Kd.int .i64) 3 w14 w.heap.size (fun k_ => some k_ ≠ (v105 : Value).ownBlock) (.slice (some ⟨go12, 0, none⟩) x6_1.length co8) y107 := (by rw [hw, Ny107.out]; exact HP13.1); clear HP13; have n0_ := Aside0.mk (hp_); have n1_ := Aside0.mk (Kd.R_after (v := (.slice (some ⟨go12, 0, none⟩) x6_1.length co8)) (v1 := (.slice (some ⟨go12, 0, none⟩) x6_1.length co8)) (ok := (fun _ => True)) (by (with_reducible repeat (first | apply Kd.R_alloc | apply Kd.R_drewN | apply Kd.R_drew)); exact Kd.R_mono HO_7.out (fun _ hk => ⟨trivial, hk⟩)) hg (.inl rfl)); have n2_ := Aside0.mk ((by rw [hw]; exact below_set (HB.out) GB12.out : Below w.heap.size w w14)); clear HO_6; clear HO_7; clear HB; have HO_6 := n0_; have HO_7 := n1_; have HB := n2_; clear n0_ n1_ n2_; clear hg hw hp_))
       (try simp only [← hl6_1])
       go_roundg k1
       case measure => have := HK1.out; omega
       case rel => exact ⟨(y107), (wrap64 (x18_1 + 1)), (by first | rfl | (simp; done) | (simp [*]; done)), H', ⟨by have := HK1.out; omega⟩, ⟨by (try simp only [hl6_1]); (with_reducible repeat (first | apply Kd.R_alloc | apply Kd.R_drewN | apply Kd.R_drew)); exact HO_6.out⟩, ⟨by (try simp only [hl6_1]); (with_reducible repeat (first | apply Kd.R_alloc | apply Kd.R_drewN | apply Kd.R_drew)); exact Kd.R_mono HO_7.out (fun _ hk => hk.2)⟩, ⟨by repeat (first | (with_reducible first | exact HB.out | apply below_alloc | apply pw_below_drewN | apply below_drew1) | exact HB.out)⟩⟩
      ·
       rw [if_neg c11] at H
       exact absurd H (by simp)
     ·
      rw [if_neg c10] at H
      exact absurd H (by simp)
    ·
     rw [if_neg c9] at H
     have c9b0 : decide (x18_1 < (y101.length : Int)) = false := decide_eq_false c9
     (try (have c9b0_ := c9b0; rw [hl6_1] at c9b0_))
     clear c9
     obtain ⟨ji15, hji15⟩ : ∃ j_ : Int, ((a1 - 48) % 256) = j_ := ⟨_, rfl⟩
     have huji15 : IntKind.u8.wrap (a1 - 48) = ji15 := hji15
     replace H : (if 0 ≤ (ji15) then (if (ji15) < (x6_1.length : Int) then (if (ji15) < (y104.length : Int) then (spec_wkFar.l1 k1 a0 (x6_1.set ((ji15) : Int).toNat 0) (y104.set ((ji15) : Int).toNat 1) 0) else (none)) else (none)) else (none)) = some (r1, r2) := by first | (rw [hji15] at H; exact H) | (simp only [hji15] at H ⊢; exact H)
     by_cases c16 : 0 ≤ (ji15)
     ·
      rw [if_pos c16] at H
      have c16b0 : decide (0 ≤ (ji15)) = true := decide_eq_true c16
      clear c16
      by_cases c17 : (ji15) < (x6_1.length : Int)
      ·
       rw [if_pos c17] at H
       have c17b0 : decide ((ji15) < (x6_1.length : Int)) = true := decide_eq_true c17
       (try (have c17b0_ := c17b0; rw [hl6_1] at c17b0_))
       clear c17
       obtain ⟨y108, hy108⟩ : ∃ y_ : List Int, y_ = (x6_1.set ((ji15) : Int).toNat 0) := ⟨_, rfl⟩
       replace H : (if (ji15) < (y104.length : Int) then (spec_wkFar.l1 k1 a0 y108 (y104.set ((ji15) : Int).toNat 1) 0) else (none)) = some (r1, r2) := by first | (rw [hy108]; with_reducible exact H) | (have H2_ := (Option.bind_some _ _).symm.trans H; rw [hy108]; with_reducible exact H2_) | (have H2_ := (Option.bind_some _ _).symm.trans H; with_reducible exact H2_) | with_reducible exact H | (rw [hy108]; exact H) | exact H
       have Ny108 := Aside0.mk hy108
       clear hy108
       by_cases c19 : (ji15) < (y104.length : Int)
       ·
        rw [if_pos c19] at H
        have c19b0 : decide ((ji15) < (y104.length : Int)) = true := decide_eq_true c19
        (try (have c19b0_ := c19b0; rw [hl6_1] at c19b0_))
        clear c19
        obtain ⟨y109, hy109⟩ : ∃ y_ : List Int, y_ = (y104.set ((ji15) : Int).toNat 1) := ⟨_, rfl⟩
        replace H : (spec_wkFar.l1 k1 a0 y108 y109 0) = some (r1, r2) := by first | (rw [hy109]; with_reducible exact H) | (have H2_ := (Option.bind_some _ _).symm.trans H; rw [hy109]; with_reducible exact H2_) | (have H2_ := (Option.bind_some _ _).symm.trans H; with_reducible exact H2_) | with_reducible exact H | (rw [hy109]; exact H) | exact H
        have Ny109 := Aside0.mk hy109
        clear hy109
        have H' := Aside0.mk H
        clear H
        have p18 : 0 ≤ ((ji15) : Int) := of_decide_eq_true (by first | (with_reducible assumption) | assumption)
        have q18 : ((ji15) : Int) < ((x6_1.length : Int) : Int) := of_decide_eq_true (by first | (with_reducible assumption) | assumption)
        obtain ⟨go18, co18, eo18, gb18, gl18, cl18, HG18⟩ := Kd.R_form HO_6.out (by omega)
        (first | cases eo18 | (injection eo18 with ea_ en_ ec_; (first | subst ea_ | (injection ea_ with ea_; subst ea_)); subst ec_; clear en_))
        have GB18 := Aside0.mk gb18
        have GG18 := Aside0.mk HG18
        clear gb18 gl18 HG18
        obtain ⟨hx18_0, hf18_0⟩ := Kd.R_celln 0 HO_6.out ((ji15) : Int) p18 q18
        replace p18 := eq_true p18
        replace q18 := eq_true q18
        have HP21 := Kd.R_putg HO_6.out ((ji15) : Int) 0
        go_wp2_with (first | ((with_reducible refine gate_store (t := 3) (p := 28) rfl ?_); refine store_event (t := 3) (p := 28) (v := ?vo_w22) (w1 := (wr.setCell ⟨go18, ((ji15) : Int).toNat, none⟩ (.int .i64 0))) ?hg ?ho ?hn ?hr ?_; (case ho => rfl); (case hg => rfl); (case hn => rfl); (case hr => first | (go_simp; done) | (go_simp; rfl)); intro w22 hw; have hg : wr.grownBy w22 (some go18) := (by rw [hw]; exact HP21.2); have hp_ : Kd.R (Kd.int .i64) 3 w22 w.heap.size (fun k_ => some k_ ≠ (v105 : Value).ownBlock) (.slice (some ⟨go18, 0, none⟩) x6_1.length co8) y108 := (by rw [hw, Ny108.out]; exact HP21.1); clear HP21; have n0_ := Aside0.mk (hp_); have n1_ := Aside0.mk (Kd.R_after (v := (.slice (some ⟨go18, 0, none⟩) x6_1.length co8)) (v1 := (.slice (some ⟨go18, 0, none⟩) x6_1.length co8)) (ok := (fun _ => True)) (by (with_reducible repeat (first | apply Kd.R_alloc | apply Kd.R_drewN | apply Kd.R_drew)); exact Kd.R_mono HO_7.out (fun _ hk => ⟨trivial, hk⟩)) hg (.inl rfl)); have n2_ := Aside0.mk ((by rw [hw]; exact below_set (HB.out) GB18.out : Below w.heap.size w w22)); clear HO_6; clear HO_7; clear HB; have HO_6 := n0_; have HO_7 := n1_; have HB := n2_; clear n0_ n1_ n2_; clear hg hw hp_; have p20 : 0 ≤ ((ji15) : Int) := of_decide_eq_true (by first | (with_reducible assumption) | assumption); have q20 : ((ji15) : Int) < ((y104.length : Int) : Int) := of_decide_eq_true (by first | (with_reducible assumption) | assumption); obtain ⟨go20, co20, eo20, gb20, gl20, cl20, HG20⟩ := Kd.R_form HO_7.out (by omega); (first | cases eo20 | (injection eo20 with ea_ en_ ec_; (first | subst ea_ | (injection ea_ with ea_; subst ea_)); subst ec_; clear en_)); have GB20 := Aside0.mk gb20; have GG20 := Aside0.mk HG20; clear gb20 gl20 HG20; obtain ⟨hx20_0, hf20_0⟩ := Kd.R_celln 0 HO_7.out ((ji15) : Int) p20 q20; replace p20 := eq_true p20; replace q20 := eq_true q20; have n_ := Aside0.mk (Kd.R_mono (ok' := (fun k_ => some k_ ≠ (.slice (some ⟨go18, 0, none⟩) x6_1.length co8 : Value).ownBlock)) HO_7.out (fun k_ hk => hk.2)); clear HO_7; have HO_7 := n_; clear n_; obtain ⟨hy23_, hz23_⟩ := Kd.R_celln 0 HO_7.out ((ji15) : Int) (of_decide_eq_true (by first | (with_reducible assumption) | assumption)) (of_decide_eq_true (by first | (with_reducible assumption) | assumption)); have HP23 := Kd.R_putg HO_7.out ((ji15) : Int) 1) | ((with_reducible refine gate_store (t := 3) (p := 32) rfl ?_); refine store_event (t := 3) (p := 32) (v := ?vo_w24) (w1 := (w22.setCell ⟨go20, ((ji15) : Int).toNat, none⟩ (.int .i64 1))) ?hg ?ho ?hn ?hr ?_; (case ho => rfl); (case hg => rfl); (case hn => rfl); (case hr => first | (go_simp; done) | (go_simp; rfl)); intro w24 hw; have hg : w22.grownBy w24 (some go20) := (by rw [hw]; exact HP23.2); have hp_ : Kd.R (Kd.int .i64) 3 w24 w.heap.size (fun k_ => some k_ ≠ (.slice (some ⟨go18, 0, none⟩) x6_1.length co8 : Value).ownBlock) (.slice (some ⟨go20, 0, none⟩) y104.length co20) y109 := (by rw [hw, Ny109.out]; exact HP23.1); clear HP23; have n0_ := Aside0.mk (Kd.R_after (v := (.slice (some ⟨go20, 0, none⟩) y104.length co20)) (v1 := (.slice (some ⟨go20, 0, none⟩) y104.length co20)) (ok := (fun _ => True)) (by (with_reducible repeat (first | apply Kd.R_alloc | apply Kd.R_drewN | apply Kd.R_drew)); exact Kd.R_mono HO_6.out (fun _ hk => ⟨trivial, hk⟩)) hg (.inl rfl)); have n1_ := Aside0.mk (hp_); have n2_ := Aside0.mk ((by rw [hw]; exact below_set (HB.out) GB20.out : Below w.heap.size w w24)); clear HO_6; clear HO_7; clear HB; have HO_6 := n0_; have HO_7 := n1_; have HB := n2_; clear n0_ n1_ n2_; clear hg hw hp_))
        go_loopg [9] k1 (fun kq v9 w' => ∃ (x6_2 : List Int) (x7_2 : List Int) (x9_2 : Int), v9 = .int .i64 x9_2 ∧ Aside0 (spec_wkFar.l1 kq a0 x6_2 x7_2 x9_2 = some (r1, r2)) ∧ Aside0 (kq ≤ k1) ∧ Aside0 (Kd.R (Kd.int .i64) 3 w' w.heap.size (fun k_ => some k_ ≠ ((.slice (some ⟨go20, 0, none⟩) y104.length co20) : Value).ownBlock) (.slice (some ⟨go18, 0, none⟩) x6_1.length co8) x6_2) ∧ Aside0 (Kd.R (Kd.int .i64) 3 w' w.heap.size (fun k_ => some k_ ≠ ((.slice (some ⟨go18, 0, none⟩) x6_1.length co8) : Value).ownBlock) (.slice (some ⟨go20, 0, none⟩) y104.length co20) x7_2) ∧ Aside0 (Below w.heap.size w w'))
        case atStart => exact ⟨(y108), (y109), (0), (by first | rfl | (simp; done) | (simp [*]; done)), H', ⟨Nat.le_refl _⟩, ⟨by (try simp only [hl6_1]); (with_reducible repeat (first | apply Kd.R_alloc | apply Kd.R_drewN | apply Kd.R_drew)); exact Kd.R_mono HO_6.out (fun _ hk => hk.2)⟩, ⟨by (try simp only [hl6_1]); (with_reducible repeat (first | apply Kd.R_alloc | apply Kd.R_drewN | apply Kd.R_drew)); exact HO_7.out⟩, ⟨by repeat (first | (with_reducible first | exact HB.out | apply below_alloc | apply pw_below_drewN | apply below_drew1) | exact HB.out)⟩⟩
        case round =>
         clear H'
         try clear c1
         try clear p1
         try clear q1
         try clear hx1
         try clear p2
         try clear q2
         try clear hx2
         try clear hf2
         try clear c3
         try clear c3b0
         try clear c3b1
         try clear p6
         try clear c9
         try clear c9b0
         try clear c10
         try clear c10b0
         try clear c11
         try clear c11b0
         try clear p12
         try clear q12
         try clear hx12
         try clear hf12
         try clear c16
         try clear c16b0
         try clear c17
         try clear c17b0
         try clear p18
         try clear q18
         try clear hx18
         try clear hf18
         try clear c19
         try clear c19b0
         try clear p20
         try clear q20
         try clear hx20
         try clear hf20
         try clear hx12_0
         try clear hx18_0
         try clear hx20_0
         try clear p12
         try clear p18
         try clear p2
         try clear p20
         try clear q12
         try clear q18
         try clear q20
         obtain ⟨x6_2, x7_2, x9_2, rfl, HA, HK2, HO_6, HO_7, HB⟩ := hrel
         have hl6_2 := (Kd.R_reads' HO_6.out).1
         rw [hl6_2] at HO_6
         (try simp only [hl6_2])
         (try simp only [hl6_2] at HO_7)
         have hl7_2 := (Kd.R_reads' HO_7.out).1
         rw [hl7_2] at HO_7
         (try simp only [hl7_2])
         (try simp only [hl7_2] at HO_6)
         cases gk with
         | zero => exact absurd HA.out (by simp [spec_wkFar.l1])
         | succ k2 =>
          have H := HA.out
          clear HA
          simp only [spec_wkFar.l1] at H
          by_cases c25 : x9_2 < 10
          ·
           rw [if_pos c25] at H
           have c25b0 : decide (x9_2 < 10) = true := decide_eq_true c25
           clear c25
           have H' := Aside0.mk H
           clear H
           go_wp2
           go_loopg [39] k2 (fun kq v39 w' => ∃ (x6_3 : List Int) (x7_3 : List Int) (x39_3 : Int), v39 = .int .i64 x39_3 ∧ Aside0 (spec_wkFar.l2 kq a0 x6_3 x7_3 x9_2 (x6_2.length : Int) x39_3 = some (r1, r2)) ∧ Aside0 (kq ≤ k2) ∧ Aside0 (Kd.R (Kd.int .i64) 3 w' w.heap.size (fun k_ => some k_ ≠ ((.slice (some ⟨go20, 0, none⟩) x7_2.length co20) : Value).ownBlock) (.slice (some ⟨go18, 0, none⟩) x6_2.length co8) x6_3) ∧ Aside0 (Kd.R (Kd.int .i64) 3 w' w.heap.size (fun k_ => some k_ ≠ ((.slice (some ⟨go18, 0, none⟩) x6_2.length co8) : Value).ownBlock) (.slice (some ⟨go20, 0, none⟩) x7_2.length co20) x7_3) ∧ Aside0 (Below w.heap.size w w'))
           case atStart => exact ⟨(x6_2), (x7_2), (0), (by first | rfl | (simp; done) | (simp [*]; done)), H', ⟨Nat.le_refl _⟩, ⟨by (try simp only [hl6_1]); (try simp only [hl6_2]); (try simp only [hl7_2]); (with_reducible repeat (first | apply Kd.R_alloc | apply Kd.R_drewN | apply Kd.R_drew)); exact HO_6.out⟩, ⟨by (try simp only [hl6_1]); (try simp only [hl6_2]); (try simp only [hl7_2]); (with_reducible repeat (first | apply Kd.R_alloc | apply Kd.R_drewN | apply Kd.R_drew)); exact HO_7.out⟩, ⟨by repeat (first | (with_reducible first | exact HB.out | apply below_alloc | apply pw_below_drewN | apply below_drew1) | exact HB.out)⟩⟩
           case round =>
            clear H'
            try clear c1
            try clear p1
            try clear q1
            try clear hx1
            try clear c2
            try clear p2
            try clear q2
            try clear hx2
            try clear hf2
            try clear c3
            try clear c3b0
            try clear c3b1
            try clear p6
            try clear c9
            try clear c9b0
            try clear c10
            try clear c10b0
            try clear c11
            try clear c11b0
            try clear p12
            try clear q12
            try clear hx12
            try clear hf12
            try clear c16
            try clear c16b0
            try clear c17
            try clear c17b0
            try clear p18
            try clear q18
            try clear hx18
            try clear hf18
            try clear c19
            try clear c19b0
            try clear p20
            try clear q20
            try clear hx20
            try clear hf20
            try clear c25
            try clear c25b0
            try clear hx12_0
            try clear hx18_0
            try clear hx20_0
            try clear p1
            try clear p12
            try clear p18
            try clear p2
            try clear p20
            try clear p6
            try clear q1
            try clear q12
            try clear q18
            try clear q2
            try clear q20
            obtain ⟨x6_3, x7_3, x39_3, rfl, HA, HK3, HO_6, HO_7, HB⟩ := hrel
            have hl6_3 := (Kd.R_reads' HO_6.out).1
            rw [hl6_3] at HO_6
            (try simp only [hl6_3])
            (try simp only [hl6_3] at HO_7)
            have hl7_3 := (Kd.R_reads' HO_7.out).1
            rw [hl7_3] at HO_7
            (try simp only [hl7_3])
            (try simp only [hl7_3] at HO_6)
            cases gk with
            | zero => exact absurd HA.out (by simp [spec_wkFar.l2])
            | succ k3 =>
             have H := HA.out
             clear HA
             simp only [spec_wkFar.l2] at H
             by_cases c26 : x39_3 < (x6_2.length : Int)
             ·
              rw [if_pos c26] at H
              have c26b0 : decide (x39_3 < (x6_2.length : Int)) = true := decide_eq_true c26
              (try (have c26b0_ := c26b0; rw [hl6_1] at c26b0_))
              (try (have c26b0_ := c26b0; rw [hl6_2] at c26b0_))
              (try (have c26b0_ := c26b0; rw [hl7_2] at c26b0_))
              (try (have c26b0_ := c26b0; rw [hl6_3] at c26b0_))
              (try (have c26b0_ := c26b0; rw [hl7_3] at c26b0_))
              clear c26
              by_cases c27 : 0 ≤ x39_3
              ·
               rw [if_pos c27] at H
               have c27b0 : decide (0 ≤ x39_3) = true := decide_eq_true c27
               clear c27
               by_cases c28 : x39_3 < (x6_3.length : Int)
               ·
                rw [if_pos c28] at H
                have c28b0 : decide (x39_3 < (x6_3.length : Int)) = true := decide_eq_true c28
                (try (have c28b0_ := c28b0; rw [hl6_1] at c28b0_))
                (try (have c28b0_ := c28b0; rw [hl6_2] at c28b0_))
                (try (have c28b0_ := c28b0; rw [hl7_2] at c28b0_))
                (try (have c28b0_ := c28b0; rw [hl6_3] at c28b0_))
                (try (have c28b0_ := c28b0; rw [hl7_3] at c28b0_))
                clear c28
                by_cases c29 : (rd x6_3 x39_3) = x9_2
                ·
                 rw [if_pos c29] at H
                 have c29b0 : ((rd x6_3 x39_3) == x9_2) = true := beq_iff_eq.mpr c29
                 have c29b1 : ((rd x6_3 x39_3) != x9_2) = false := bne_eq_false_iff_eq.mpr c29
                 clear c29
                 replace H := Option.bind_eq_some_iff.mp H
                 obtain ⟨t111, A300, H⟩ := H
                 replace H : (spec_wkFar.l3 k3 a0 x6_3 x7_3 x9_2 x39_3 t111 0 (x6_2.length : Int) x39_3) = some (r1, r2) := H
                 have A30 := Aside0.mk A300
                 clear A300
                 have H' := Aside0.mk H
                 clear H
                 have p110 : 0 ≤ (x39_3 : Int) := of_decide_eq_true (by first | (with_reducible assumption) | assumption)
                 have q110 : x39_3 < (x6_3.length : Int) := of_decide_eq_true (by first | (with_reducible assumption) | assumption)
                 obtain ⟨ad110, e110, hx110_0⟩ := Kd.at_int (Kd.R_reads' HO_6.out).2.2 x39_3 p110 q110
                 obtain rfl : (⟨go18, 0, none⟩ : Addr) = ad110 := (by injection e110)
                 (first | simp only [add_plain] at hx110_0 | simp only [add_at] at hx110_0 | simp only [Addr.add, Nat.zero_add] at hx110_0 | skip)
                 replace p110 := eq_true p110
                 replace q110 := eq_true q110
                 go_wp2_with (first | ((with_reducible refine gate_callee (f := 38) rfl ?_); refine goesL_ (some 52) rfl rfl Tryd.func38 (by kernel_rfl) rfl #[.string a0, .int .u8 ((wrap64 (48 + x39_3)) % 256)] rfl (by (try simp only [List.map_toArray, List.map_cons, List.map_nil]); first | done | rfl | (simp only [List.length_drop, List.length_take]; rfl)) ?_; (with_reducible refine (spec_wkNext.calls k3 a0 ((wrap64 (48 + x39_3)) % 256) t111 _ A30.out).mono ?_); rintro e w' ⟨rfl, ⟨nd, rfl⟩⟩; refine ⟨_, rfl, ?_⟩))
                 go_loopg [12] k3 (fun kq v12 w' => ∃ (x6_4 : List Int) (x7_4 : List Int) (x12_4 : Int), v12 = .int .i64 x12_4 ∧ Aside0 (spec_wkFar.l3 kq a0 x6_4 x7_4 x9_2 x39_3 t111 x12_4 (x6_2.length : Int) x39_3 = some (r1, r2)) ∧ Aside0 (kq ≤ k3) ∧ Aside0 (Kd.R (Kd.int .i64) 3 w' w.heap.size (fun k_ => some k_ ≠ ((.slice (some ⟨go20, 0, none⟩) x7_3.length co20) : Value).ownBlock) (.slice (some ⟨go18, 0, none⟩) x6_3.length co8) x6_4) ∧ Aside0 (Kd.R (Kd.int .i64) 3 w' w.heap.size (fun k_ => some k_ ≠ ((.slice (some ⟨go18, 0, none⟩) x6_3.length co8) : Value).ownBlock) (.slice (some ⟨go20, 0, none⟩) x7_3.length co20) x7_4) ∧ Aside0 (Below w.heap.size w w'))
                 case atStart => exact ⟨(x6_3), (x7_3), (0), (by first | rfl | (simp; done) | (simp [*]; done)), H', ⟨Nat.le_refl _⟩, ⟨by (try simp only [hl6_1]); (try simp only [hl6_2]); (try simp only [hl7_2]); (try simp only [hl6_3]); (try simp only [hl7_3]); (with_reducible repeat (first | apply Kd.R_alloc | apply Kd.R_drewN | apply Kd.R_drew)); exact HO_6.out⟩, ⟨by (try simp only [hl6_1]); (try simp only [hl6_2]); (try simp only [hl7_2]); (try simp only [hl6_3]); (try simp only [hl7_3]); (with_reducible repeat (first | apply Kd.R_alloc | apply Kd.R_drewN | apply Kd.R_drew)); exact HO_7.out⟩, ⟨by repeat (first | (with_reducible first | exact HB.out | apply below_alloc | apply pw_below_drewN | apply below_drew1) | exact HB.out)⟩⟩
                 case round =>
                  clear H'
                  try clear c1
                  try clear p1
                  try clear q1
                  try clear hx1
                  try clear c2
                  try clear p2
                  try clear q2
                  try clear hx2
                  try clear hf2
                  try clear c3
                  try clear c3b0
                  try clear c3b1
                  try clear p6
                  try clear c9
                  try clear c9b0
                  try clear c10
                  try clear c10b0
                  try clear c11
                  try clear c11b0
                  try clear p11
                  try clear q11
                  try clear hx11
                  try clear p12
                  try clear q12
                  try clear hx12
                  try clear hf12
                  try clear c16
                  try clear c16b0
                  try clear c17
                  try clear c17b0
                  try clear p18
                  try clear q18
                  try clear hx18
                  try clear hf18
                  try clear c19
                  try clear c19b0
                  try clear p20
                  try clear q20
                  try clear hx20
                  try clear hf20
                  try clear c25
                  try clear c25b0
                  try clear c26
                  try clear c26b0
                  try clear c27
                  try clear c27b0
                  try clear c28
                  try clear c28b0
                  try clear c29
                  try clear c29b0
                  try clear c29b1
                  try clear hx110_0
                  try clear hx12_0
                  try clear hx18_0
                  try clear hx20_0
                  try clear p1
                  try clear p110
                  try clear p12
                  try clear p18
                  try clear p2
                  try clear p20
                  try clear p6
                  try clear q1
                  try clear q110
                  try clear q12
                  try clear q18
                  try clear q2
                  try clear q20
                  obtain ⟨x6_4, x7_4, x12_4, rfl, HA, HK4, HO_6, HO_7, HB⟩ := hrel
                  have hl6_4 := (Kd.R_reads' HO_6.out).1
                  rw [hl6_4] at HO_6
                  (try simp only [hl6_4])
                  (try simp only [hl6_4] at HO_7)
                  have hl7_4 := (Kd.R_reads' HO_7.out).1
                  rw [hl7_4] at HO_7
                  (try simp only [hl7_4])
                  (try simp only [hl7_4] at HO_6)
                  cases gk with
                  | zero => exact absurd HA.out (by simp [spec_wkFar.l3])
                  | succ k4 =>
                   have H := HA.out
                   clear HA
                   simp only [spec_wkFar.l3] at H
                   by_cases c31 : x12_4 < (t111.size : Int)
                   ·
                    rw [if_pos c31] at H
                    have c31b0 : decide (x12_4 < (t111.size : Int)) = true := decide_eq_true c31
                    clear c31
                    by_cases c32 : 0 ≤ x12_4
                    ·
                     rw [if_pos c32] at H
                     have c32b0 : decide (0 ≤ x12_4) = true := decide_eq_true c32
                     clear c32
                     obtain ⟨ji34, hji34⟩ : ∃ j_ : Int, (((bt t111 x12_4) - 48) % 256) = j_ := ⟨_, rfl⟩
                     have huji34 : IntKind.u8.wrap ((bt t111 x12_4) - 48) = ji34 := hji34
                     replace H : (if 0 ≤ (ji34) then (if (ji34) < (x6_4.length : Int) then (if (rd x6_4 (ji34)) < 0 then ((some (x6_4.set ((ji34) : Int).toNat (wrap64 (x9_2 + 1)) : List Int)).bind fun y113 => (if (rd y113 (ji34)) = (wrap64 (x9_2 + 1)) then (if (ji34) < (x7_4.length : Int) then (if 0 ≤ x39_3 then (if x39_3 < (x7_4.length : Int) then (spec_wkFar.l3 k4 a0 y113 (x7_4.set ((ji34) : Int).toNat (wrap64 ((rd x7_4 (ji34)) + (rd x7_4 x39_3)))) x9_2 x39_3 t111 (wrap64 (x12_4 + 1)) (x6_2.length : Int) x39_3) else (none)) else (none)) else (none)) else (spec_wkFar.l3 k4 a0 y113 x7_4 x9_2 x39_3 t111 (wrap64 (x12_4 + 1)) (x6_2.length : Int) x39_3))) else (if (rd x6_4 (ji34)) = (wrap64 (x9_2 + 1)) then (if (ji34) < (x7_4.length : Int) then (if 0 ≤ x39_3 then (if x39_3 < (x7_4.length : Int) then (spec_wkFar.l3 k4 a0 x6_4 (x7_4.set ((ji34) : Int).toNat (wrap64 ((rd x7_4 (ji34)) + (rd x7_4 x39_3)))) x9_2 x39_3 t111 (wrap64 (x12_4 + 1)) (x6_2.length : Int) x39_3) else (none)) else (none)) else (none)) else (spec_wkFar.l3 k4 a0 x6_4 x7_4 x9_2 x39_3 t111 (wrap64 (x12_4 + 1)) (x6_2.length : Int) x39_3))) else (none)) else (none)) = some (r1, r2) := by first | (rw [hji34] at H; exact H) | (simp only [hji34] at H ⊢; exact H)
                     by_cases c35 : 0 ≤ (ji34)
                     ·
                      rw [if_pos c35] at H
                      have c35b0 : decide (0 ≤ (ji34)) = true := decide_eq_true c35
                      clear c35
                      by_cases c36 : (ji34) < (x6_4.length : Int)
                      ·
                       rw [if_pos c36] at H
                       have c36b0 : decide ((ji34) < (x6_4.length : Int)) = true := decide_eq_true c36
                       (try (have c36b0_ := c36b0; rw [hl6_1] at c36b0_))
                       (try (have c36b0_ := c36b0; rw [hl6_2] at c36b0_))
                       (try (have c36b0_ := c36b0; rw [hl7_2] at c36b0_))
                       (try (have c36b0_ := c36b0; rw [hl6_3] at c36b0_))
                       (try (have c36b0_ := c36b0; rw [hl7_3] at c36b0_))
                       (try (have c36b0_ := c36b0; rw [hl6_4] at c36b0_))
                       (try (have c36b0_ := c36b0; rw [hl7_4] at c36b0_))
                       clear c36
                       by_cases c37 : (rd x6_4 (ji34)) < 0
                       ·
                        rw [if_pos c37] at H
                        have c37b0 : decide ((rd x6_4 (ji34)) < 0) = true := decide_eq_true c37
                        clear c37
                        obtain ⟨y113, hy113⟩ : ∃ y_ : List Int, y_ = (x6_4.set ((ji34) : Int).toNat (wrap64 (x9_2 + 1))) := ⟨_, rfl⟩
                        replace H : (if (rd y113 (ji34)) = (wrap64 (x9_2 + 1)) then (if (ji34) < (x7_4.length : Int) then (if 0 ≤ x39_3 then (if x39_3 < (x7_4.length : Int) then (spec_wkFar.l3 k4 a0 y113 (x7_4.set ((ji34) : Int).toNat (wrap64 ((rd x7_4 (ji34)) + (rd x7_4 x39_3)))) x9_2 x39_3 t111 (wrap64 (x12_4 + 1)) (x6_2.length : Int) x39_3) else (none)) else (none)) else (none)) else (spec_wkFar.l3 k4 a0 y113 x7_4 x9_2 x39_3 t111 (wrap64 (x12_4 + 1)) (x6_2.length : Int) x39_3)) = some (r1, r2) := by first | (rw [hy113]; with_reducible exact H) | (have H2_ := (Option.bind_some _ _).symm.trans H; rw [hy113]; with_reducible exact H2_) | (have H2_ := (Option.bind_some _ _).symm.trans H; with_reducible exact H2_) | with_reducible exact H | (rw [hy113]; exact H) | exact H
                        have Ny113 := Aside0.mk hy113
                        clear hy113
                        by_cases c39 : (rd y113 (ji34)) = (wrap64 (x9_2 + 1))
                        ·
                         rw [if_pos c39] at H
                         have c39b0 : ((rd y113 (ji34)) == (wrap64 (x9_2 + 1))) = true := beq_iff_eq.mpr c39
                         have c39b1 : ((rd y113 (ji34)) != (wrap64 (x9_2 + 1))) = false := bne_eq_false_iff_eq.mpr c39
                         clear c39
                         by_cases c40 : (ji34) < (x7_4.length : Int)
                         ·
                          rw [if_pos c40] at H
                          have c40b0 : decide ((ji34) < (x7_4.length : Int)) = true := decide_eq_true c40
                          (try (have c40b0_ := c40b0; rw [hl6_1] at c40b0_))
                          (try (have c40b0_ := c40b0; rw [hl6_2] at c40b0_))
                          (try (have c40b0_ := c40b0; rw [hl7_2] at c40b0_))
                          (try (have c40b0_ := c40b0; rw [hl6_3] at c40b0_))
                          (try (have c40b0_ := c40b0; rw [hl7_3] at c40b0_))
                          (try (have c40b0_ := c40b0; rw [hl6_4] at c40b0_))
                          (try (have c40b0_ := c40b0; rw [hl7_4] at c40b0_))
                          clear c40
                          by_cases c41 : 0 ≤ x39_3
                          ·
                           rw [if_pos c41] at H
                           have c41b0 : decide (0 ≤ x39_3) = true := decide_eq_true c41
                           clear c41
                           by_cases c42 : x39_3 < (x7_4.length : Int)
                           ·
                            rw [if_pos c42] at H
                            have c42b0 : decide (x39_3 < (x7_4.length : Int)) = true := decide_eq_true c42
                            (try (have c42b0_ := c42b0; rw [hl6_1] at c42b0_))
                            (try (have c42b0_ := c42b0; rw [hl6_2] at c42b0_))
                            (try (have c42b0_ := c42b0; rw [hl7_2] at c42b0_))
                            (try (have c42b0_ := c42b0; rw [hl6_3] at c42b0_))
                            (try (have c42b0_ := c42b0; rw [hl7_3] at c42b0_))
                            (try (have c42b0_ := c42b0; rw [hl6_4] at c42b0_))
                            (try (have c42b0_ := c42b0; rw [hl7_4] at c42b0_))
                            clear c42
                            obtain ⟨y117, hy117⟩ : ∃ y_ : List Int, y_ = (x7_4.set ((ji34) : Int).toNat (wrap64 ((rd x7_4 (ji34)) + (rd x7_4 x39_3)))) := ⟨_, rfl⟩
                            replace H : (spec_wkFar.l3 k4 a0 y113 y117 x9_2 x39_3 t111 (wrap64 (x12_4 + 1)) (x6_2.length : Int) x39_3) = some (r1, r2) := by first | (rw [hy117]; with_reducible exact H) | (have H2_ := (Option.bind_some _ _).symm.trans H; rw [hy117]; with_reducible exact H2_) | (have H2_ := (Option.bind_some _ _).symm.trans H; with_reducible exact H2_) | with_reducible exact H | (rw [hy117]; exact H) | exact H
                            have Ny117 := Aside0.mk hy117
                            clear hy117
                            have H' := Aside0.mk H
                            clear H
                            have p33 : 0 ≤ (x12_4 : Int) := of_decide_eq_true (by first | (with_reducible assumption) | assumption)
                            have q33 : x12_4 < (t111.size : Int) := of_decide_eq_true (by first | (with_reducible assumption) | assumption)
                            have hx33 := bt_at t111 x12_4
                            replace p33 := eq_true p33
                            replace q33 := eq_true q33
                            have p112 : 0 ≤ ((ji34) : Int) := of_decide_eq_true (by first | (with_reducible assumption) | assumption)
                            have q112 : (ji34) < (x6_4.length : Int) := of_decide_eq_true (by first | (with_reducible assumption) | assumption)
                            obtain ⟨ad112, e112, hx112_0⟩ := Kd.at_int (Kd.R_reads' HO_6.out).2.2 (ji34) p112 q112
                            obtain rfl : (⟨go18, 0, none⟩ : Addr) = ad112 := (by injection e112)
                            (first | simp only [add_plain] at hx112_0 | simp only [add_at] at hx112_0 | simp only [Addr.add, Nat.zero_add] at hx112_0 | skip)
                            replace p112 := eq_true p112
                            replace q112 := eq_true q112
                            have p38 : 0 ≤ ((ji34) : Int) := of_decide_eq_true (by first | (with_reducible assumption) | assumption)
                            have q38 : ((ji34) : Int) < ((x6_4.length : Int) : Int) := of_decide_eq_true (by first | (with_reducible assumption) | assumption)
                            obtain ⟨hx38_0, hf38_0⟩ := Kd.R_celln 0 HO_6.out ((ji34) : Int) p38 q38
                            replace p38 := eq_true p38
                            replace q38 := eq_true q38
                            have HP44 := Kd.R_putg HO_6.out ((ji34) : Int) (wrap64 (x9_2 + 1))
                            try go_wp2_with (first | ((with_reducible refine gate_store (t := 3) (p := 73) rfl ?_); refine store_event (t := 3) (p := 73) (v := ?vo_w45) (w1 := (wr.setCell ⟨go18, ((ji34) : Int).toNat, none⟩ (.int .i64 (wrap64 (x9_2 + 1))))) ?hg ?ho ?hn ?hr ?_; (case ho => rfl); (case hg => rfl); (case hn => rfl); (case hr => first | (go_simp; done) | (go_simp; rfl)); intro w45 hw; have hg : wr.grownBy w45 (some go18) := (by rw [hw]; exact HP44.2); have hp_ : Kd.R (Kd.int .i64) 3 w45 w.heap.size (fun k_ => some k_ ≠ (.slice (some ⟨go20, 0, none⟩) x7_4.length co20 : Value).ownBlock) (.slice (some ⟨go18, 0, none⟩) x6_4.length co8) y113 := (by rw [hw, Ny113.out]; exact HP44.1); clear HP44; have n0_ := Aside0.mk (hp_); have n1_ := Aside0.mk (Kd.R_after (v := (.slice (some ⟨go18, 0, none⟩) x6_4.length co8)) (v1 := (.slice (some ⟨go18, 0, none⟩) x6_4.length co8)) (ok := (fun _ => True)) (by (with_reducible repeat (first | apply Kd.R_alloc | apply Kd.R_drewN | apply Kd.R_drew)); exact Kd.R_mono HO_7.out (fun _ hk => ⟨trivial, hk⟩)) hg (.inl rfl)); have n2_ := Aside0.mk ((by rw [hw]; exact below_set (HB.out) GB18.out : Below w.heap.size w w45)); clear HO_6; clear HO_7; clear HB; have HO_6 := n0_; have HO_7 := n1_; have HB := n2_; clear n0_ n1_ n2_; clear hg hw hp_; have p114 : 0 ≤ ((ji34) : Int) := of_decide_eq_true (by first | (with_reducible assumption) | assumption); have q114 : (ji34) < (y113.length : Int) := (by have h_ : ((ji34) : Int) < ((x6_4.length : Int) : Int) := of_decide_eq_true (by first | (with_reducible assumption) | assumption); first | (have e_ := (Kd.R_reads' HO_6.out).1; omega) | simpa only [Ny113.out, List.length_set] using h_); have ql114 : (((ji34) : Int) < ((x6_4.length : Int) : Int)) = True := eq_true (of_decide_eq_true (by first | (with_reducible assumption) | assumption)); obtain ⟨ad114, e114, hx114_0⟩ := Kd.at_int (Kd.R_reads' HO_6.out).2.2 (ji34) p114 q114; obtain rfl : (⟨go18, 0, none⟩ : Addr) = ad114 := (by injection e114); (first | simp only [add_plain] at hx114_0 | simp only [add_at] at hx114_0 | simp only [Addr.add, Nat.zero_add] at hx114_0 | skip); replace p114 := eq_true p114; replace q114 := eq_true q114))
                            have n0_ := Aside0.mk (Kd.R_drew HO_6.out)
                            have n1_ := Aside0.mk (Kd.R_drew HO_7.out)
                            have n2_ := Aside0.mk (below_drew1 HB.out)
                            clear HO_6
                            clear HO_7
                            clear HB
                            have HO_6 := n0_
                            have HO_7 := n1_
                            have HB := n2_
                            clear n0_ n1_ n2_
                            have p115 : 0 ≤ ((ji34) : Int) := of_decide_eq_true (by first | (with_reducible assumption) | assumption)
                            have q115 : (ji34) < (x7_4.length : Int) := of_decide_eq_true (by first | (with_reducible assumption) | assumption)
                            obtain ⟨ad115, e115, hx115_0⟩ := Kd.at_int (Kd.R_reads' HO_7.out).2.2 (ji34) p115 q115
                            obtain rfl : (⟨go20, 0, none⟩ : Addr) = ad115 := (by injection e115)
                            (first | simp only [add_plain] at hx115_0 | simp only [add_at] at hx115_0 | simp only [Addr.add, Nat.zero_add] at hx115_0 | skip)
                            replace p115 := eq_true p115
                            replace q115 := eq_true q115
                            have p116 : 0 ≤ (x39_3 : Int) := of_decide_eq_true (by first | (with_reducible assumption) | assumption)
                            have q116 : x39_3 < (x7_4.length : Int) := of_decide_eq_true (by first | (with_reducible assumption) | assumption)
                            obtain ⟨ad116, e116, hx116_0⟩ := Kd.at_int (Kd.R_reads' HO_7.out).2.2 x39_3 p116 q116
                            obtain rfl : (⟨go20, 0, none⟩ : Addr) = ad116 := (by injection e116)
                            (first | simp only [add_plain] at hx116_0 | simp only [add_at] at hx116_0 | simp only [Addr.add, Nat.zero_add] at hx116_0 | skip)
                            replace p116 := eq_true p116
                            replace q116 := eq_true q116
                            have p43 : 0 ≤ ((ji34) : Int) := of_decide_eq_true (by first | (with_reducible assumption) | assumption)
                            have q43 : ((ji34) : Int) < ((x7_4.length : Int) : Int) := of_decide_eq_true (by first | (with_reducible assumption) | assumption)
                            obtain ⟨hx43_0, hf43_0⟩ := Kd.R_celln 0 HO_7.out ((ji34) : Int) p43 q43
                            replace p43 := eq_true p43
                            replace q43 := eq_true q43
                            have HP47 := Kd.R_putn HO_7.out ((ji34) : Int) (wrap64 ((rd x7_4 (ji34)) + (rd x7_4 x39_3)))
                            rw [← Ny117.out] at HP47
                            have HQ47 := Aside0.mk HP47
                            clear HP47
                            refine start_ (n := 11) (S := fun w' => w'.cell? ⟨go20, ((ji34)).toNat, none⟩ = some (.int .i64 (rd x7_4 (ji34))) ∧ w'.cell? ⟨go20, (x39_3).toNat, none⟩ = some (.int .i64 (rd x7_4 x39_3))) (ds := [10]) #[false, false, false, false, false, false, false, false, false, false, false] (by kernel_rfl) rfl rfl ⟨hx115_0, hx116_0⟩ (fun hHeld => ?_); refine with_tabW spec_wkFar.tab25 spec_wkFar.bits25 (fun HT_ HW_ => ?_)
                            generalize w45.drew = w46 at HO_6 HO_7 HB HQ47 hf43_0 hx115_0 hx116_0 hx43_0 hHeld ⊢
                            refine pure_ (i := 0) (N := some 81) (v := ?_) (a' := ?_) #[true, false, false, false, false, false, false, false, false, false, false] rfl rfl (any_of HT_.out (by kernel_rfl)) (fun _ _ _ h => h) (Or.inl ⟨by rfl, ?_⟩) ?_ ?_
                            rotate_left
                            ·
                             intro w'
                             go_simp
                             with_reducible rfl
                            rotate_left
                            ·
                             simp only [Act.put, List.setIfInBounds_toArray, List.set_cons_zero, List.set_cons_succ, i64_w, i32_w]
                             rfl
                            refine pure_ (i := 1) (N := some 82) (v := ?_) (a' := ?_) #[true, true, false, false, false, false, false, false, false, false, false] rfl rfl (any_of HT_.out (by kernel_rfl)) (fun _ _ _ h => h) (Or.inl ⟨by rfl, ?_⟩) ?_ ?_
                            rotate_left
                            ·
                             intro w'
                             go_simp
                             with_reducible rfl
                            rotate_left
                            ·
                             simp only [Act.put, List.setIfInBounds_toArray, List.set_cons_zero, List.set_cons_succ, i64_w, i32_w]
                             rfl
                            refine pure_ (i := 2) (N := some 83) (v := ?_) (a' := ?_) #[true, true, true, false, false, false, false, false, false, false, false] rfl rfl (any_of HT_.out (by kernel_rfl)) (fun _ _ _ h => h) (Or.inl ⟨by rfl, ?_⟩) ?_ ?_
                            rotate_left
                            ·
                             intro w'
                             go_simp
                             with_reducible rfl
                            rotate_left
                            ·
                             simp only [Act.put, List.setIfInBounds_toArray, List.set_cons_zero, List.set_cons_succ, i64_w, i32_w]
                             rfl
                            refine pure_ (i := 4) (N := some 85) (v := ?_) (a' := ?_) #[true, true, true, false, true, false, false, false, false, false, false] rfl rfl (any_of HT_.out (by kernel_rfl)) (fun _ _ _ h => h) (Or.inl ⟨by rfl, ?_⟩) ?_ ?_
                            rotate_left
                            ·
                             intro w'
                             go_simp
                             with_reducible rfl
                            rotate_left
                            ·
                             simp only [Act.put, List.setIfInBounds_toArray, List.set_cons_zero, List.set_cons_succ, i64_w, i32_w]
                             rfl
                            refine pure_ (i := 5) (N := some 86) (v := ?_) (a' := ?_) #[true, true, true, false, true, true, false, false, false, false, false] rfl rfl (any_of HT_.out (by kernel_rfl)) (fun _ _ _ h => h) (Or.inl ⟨by rfl, ?_⟩) ?_ ?_
                            rotate_left
                            ·
                             intro w'
                             go_simp
                             with_reducible rfl
                            rotate_left
                            ·
                             simp only [Act.put, List.setIfInBounds_toArray, List.set_cons_zero, List.set_cons_succ, i64_w, i32_w]
                             rfl
                            refine pure_ (i := 6) (N := some 87) (v := ?_) (a' := ?_) #[true, true, true, false, true, true, true, false, false, false, false] rfl rfl (any_of HT_.out (by kernel_rfl)) (fun _ _ _ h => h) (Or.inl ⟨by rfl, ?_⟩) ?_ ?_
                            rotate_left
                            ·
                             intro w'
                             go_simp
                             with_reducible rfl
                            rotate_left
                            ·
                             simp only [Act.put, List.setIfInBounds_toArray, List.set_cons_zero, List.set_cons_succ, i64_w, i32_w]
                             rfl
                            refine take_ (i := 3) (N := some 84) (v := ?_) (a' := ?_) #[true, true, true, true, true, true, true, false, false, false, false] rfl rfl (take_ofW HT_.out HW_.out (by kernel_rfl)) (fun _ _ _ h => h) (Or.inl ⟨by rfl, ?_⟩) hHeld ?_ ?_
                            rotate_left
                            ·
                             rintro w' ⟨s0, s1⟩
                             go_simp
                             with_reducible rfl
                            rotate_left
                            ·
                             simp only [Act.put, List.setIfInBounds_toArray, List.set_cons_zero, List.set_cons_succ, i64_w, i32_w]
                             rfl
                            refine take_ (i := 7) (N := some 88) (v := ?_) (a' := ?_) #[true, true, true, true, true, true, true, true, false, false, false] rfl rfl (take_ofW HT_.out HW_.out (by kernel_rfl)) (fun _ _ _ h => h) (Or.inl ⟨by rfl, ?_⟩) hHeld ?_ ?_
                            rotate_left
                            ·
                             rintro w' ⟨s0, s1⟩
                             go_simp
                             with_reducible rfl
                            rotate_left
                            ·
                             simp only [Act.put, List.setIfInBounds_toArray, List.set_cons_zero, List.set_cons_succ, i64_w, i32_w]
                             rfl
                            refine pure_ (i := 8) (N := some 89) (v := ?_) (a' := ?_) #[true, true, true, true, true, true, true, true, true, false, false] rfl rfl (any_of HT_.out (by kernel_rfl)) (fun _ _ _ h => h) (Or.inl ⟨by rfl, ?_⟩) ?_ ?_
                            rotate_left
                            ·
                             intro w'
                             go_simp
                             with_reducible rfl
                            rotate_left
                            ·
                             simp only [Act.put, List.setIfInBounds_toArray, List.set_cons_zero, List.set_cons_succ, i64_w, i32_w]
                             rfl
                            refine pure_ (i := 9) (N := some 90) (v := ?_) (a' := ?_) #[true, true, true, true, true, true, true, true, true, true, false] rfl rfl (any_of HT_.out (by kernel_rfl)) (fun _ _ _ h => h) (Or.inl ⟨by rfl, ?_⟩) ?_ ?_
                            rotate_left
                            ·
                             intro w'
                             go_simp
                             with_reducible rfl
                            rotate_left
                            ·
                             simp only [Act.put, List.setIfInBounds_toArray, List.set_cons_zero, List.set_cons_succ, i64_w, i32_w]
                             rfl
                            refine last_ (i := 10) (N := none) #[true, true, true, true, true, true, true, true, true, true, true] rfl rfl (one_of HT_.out (by kernel_rfl)) (by decide) (fun K hK => ?_)
                            refine skip_ (w1 := ?_) (by rfl) rfl ?_ ?_
                            rotate_left
                            ·
                             go_simp
                             rfl
                            refine hK.out _ _ ?_
                            clear hK K
                            refine done_ (done_of HT_.out (by kernel_rfl)) ?_
                            try go_wp2
                            (try simp only [← hl6_4, ← hl7_4])
                            go_roundg k4
                            case measure => have := HK1.out; have := HK2.out; have := HK3.out; have := HK4.out; omega
                            case rel => exact ⟨(y113), (y117), (wrap64 (x12_4 + 1)), (by first | rfl | (simp; done) | (simp [*]; done)), H', ⟨by have := HK1.out; have := HK2.out; have := HK3.out; have := HK4.out; omega⟩, ⟨by (try simp only [hl6_1]); (try simp only [hl6_2]); (try simp only [hl7_2]); (try simp only [hl6_3]); (try simp only [hl7_3]); (try simp only [hl6_4]); (try simp only [hl7_4]); (with_reducible repeat (first | apply Kd.R_alloc | apply Kd.R_drewN | apply Kd.R_drew)); exact Kd.R_mono (Kd.R_far (p := ⟨go20, ((ji34) : Int).toNat, none⟩) (Kd.R_mono HO_6.out (fun k_ hk => (⟨hk, fun e_ => hk (by rw [e_]; rfl)⟩ : _ ∧ k_ ≠ go20))) (fun _ hk => hk.2) (.int .i64 (wrap64 ((rd x7_4 (ji34)) + (rd x7_4 x39_3))))) (fun _ hk => hk.1)⟩, ⟨by (try simp only [hl6_1]); (try simp only [hl6_2]); (try simp only [hl7_2]); (try simp only [hl6_3]); (try simp only [hl7_3]); (try simp only [hl6_4]); (try simp only [hl7_4]); (with_reducible repeat (first | apply Kd.R_alloc | apply Kd.R_drewN | apply Kd.R_drew)); exact Kd.R_mono HQ47.out (fun _ hk => hk.2)⟩, ⟨by repeat (first | (with_reducible first | exact HB.out | apply below_alloc | apply pw_below_drewN | apply below_drew1 | refine below_set ?_ GB20.out) | exact HB.out)⟩⟩
                           ·
                            rw [if_neg c42] at H
                            exact absurd H (by simp)
                          ·
                           rw [if_neg c41] at H
                           exact absurd H (by simp)
                         ·
                          rw [if_neg c40] at H
                          exact absurd H (by simp)
                        ·
                         rw [if_neg c39] at H
                         have c39b0 : ((rd y113 (ji34)) == (wrap64 (x9_2 + 1))) = false := beq_eq_false_iff_ne.mpr c39
                         have c39b1 : ((rd y113 (ji34)) != (wrap64 (x9_2 + 1))) = true := bne_iff_ne.mpr c39
                         have H' := Aside0.mk H
                         clear H
                         have p33 : 0 ≤ (x12_4 : Int) := of_decide_eq_true (by first | (with_reducible assumption) | assumption)
                         have q33 : x12_4 < (t111.size : Int) := of_decide_eq_true (by first | (with_reducible assumption) | assumption)
                         have hx33 := bt_at t111 x12_4
                         replace p33 := eq_true p33
                         replace q33 := eq_true q33
                         have p112 : 0 ≤ ((ji34) : Int) := of_decide_eq_true (by first | (with_reducible assumption) | assumption)
                         have q112 : (ji34) < (x6_4.length : Int) := of_decide_eq_true (by first | (with_reducible assumption) | assumption)
                         obtain ⟨ad112, e112, hx112_0⟩ := Kd.at_int (Kd.R_reads' HO_6.out).2.2 (ji34) p112 q112
                         obtain rfl : (⟨go18, 0, none⟩ : Addr) = ad112 := (by injection e112)
                         (first | simp only [add_plain] at hx112_0 | simp only [add_at] at hx112_0 | simp only [Addr.add, Nat.zero_add] at hx112_0 | skip)
                         replace p112 := eq_true p112
                         replace q112 := eq_true q112
                         have p38 : 0 ≤ ((ji34) : Int) := of_decide_eq_true (by first | (with_reducible assumption) | assumption)
                         have q38 : ((ji34) : Int) < ((x6_4.length : Int) : Int) := of_decide_eq_true (by first | (with_reducible assumption) | assumption)
                         obtain ⟨hx38_0, hf38_0⟩ := Kd.R_celln 0 HO_6.out ((ji34) : Int) p38 q38
                         replace p38 := eq_true p38
                         replace q38 := eq_true q38
                         have HP48 := Kd.R_putg HO_6.out ((ji34) : Int) (wrap64 (x9_2 + 1))
                         go_wp2_with (first | ((with_reducible refine gate_store (t := 3) (p := 73) rfl ?_); refine store_event (t := 3) (p := 73) (v := ?vo_w49) (w1 := (wr.setCell ⟨go18, ((ji34) : Int).toNat, none⟩ (.int .i64 (wrap64 (x9_2 + 1))))) ?hg ?ho ?hn ?hr ?_; (case ho => rfl); (case hg => rfl); (case hn => rfl); (case hr => first | (go_simp; done) | (go_simp; rfl)); intro w49 hw; have hg : wr.grownBy w49 (some go18) := (by rw [hw]; exact HP48.2); have hp_ : Kd.R (Kd.int .i64) 3 w49 w.heap.size (fun k_ => some k_ ≠ (.slice (some ⟨go20, 0, none⟩) x7_4.length co20 : Value).ownBlock) (.slice (some ⟨go18, 0, none⟩) x6_4.length co8) y113 := (by rw [hw, Ny113.out]; exact HP48.1); clear HP48; have n0_ := Aside0.mk (hp_); have n1_ := Aside0.mk (Kd.R_after (v := (.slice (some ⟨go18, 0, none⟩) x6_4.length co8)) (v1 := (.slice (some ⟨go18, 0, none⟩) x6_4.length co8)) (ok := (fun _ => True)) (by (with_reducible repeat (first | apply Kd.R_alloc | apply Kd.R_drewN | apply Kd.R_drew)); exact Kd.R_mono HO_7.out (fun _ hk => ⟨trivial, hk⟩)) hg (.inl rfl)); have n2_ := Aside0.mk ((by rw [hw]; exact below_set (HB.out) GB18.out : Below w.heap.size w w49)); clear HO_6; clear HO_7; clear HB; have HO_6 := n0_; have HO_7 := n1_; have HB := n2_; clear n0_ n1_ n2_; clear hg hw hp_; have p114 : 0 ≤ ((ji34) : Int) := of_decide_eq_true (by first | (with_reducible assumption) | assumption); have q114 : (ji34) < (y113.length : Int) := (by have h_ : ((ji34) : Int) < ((x6_4.length : Int) : Int) := of_decide_eq_true (by first | (with_reducible assumption) | assumption); first | (have e_ := (Kd.R_reads' HO_6.out).1; omega) | simpa only [Ny113.out, List.length_set] using h_); have ql114 : (((ji34) : Int) < ((x6_4.length : Int) : Int)) = True := eq_true (of_decide_eq_true (by first | (with_reducible assumption) | assumption)); obtain ⟨ad114, e114, hx114_0⟩ := Kd.at_int (Kd.R_reads' HO_6.out).2.2 (ji34) p114 q114; obtain rfl : (⟨go18, 0, none⟩ : Addr) = ad114 := (by injection e114); (first | simp only [add_plain] at hx114_0 | simp only [add_at] at hx114_0 | simp only [Addr.add, Nat.zero_add] at hx114_0 | skip); replace p114 := eq_true p114; replace q114 := eq_true q114))
                         (try simp only [← hl6_4, ← hl7_4])
                         go_roundg k4
                         case measure => have := HK1.out; have := HK2.out; have := HK3.out; have := HK4.out; omega
                         case rel => exact ⟨(y113), (x7_4), (wrap64 (x12_4 + 1)), (by first | rfl | (simp; done) | (simp [*]; done)), H', ⟨by have := HK1.out; have := HK2.out; have := HK3.out; have := HK4.out; omega⟩, ⟨by (try simp only [hl6_1]); (try simp only [hl6_2]); (try simp only [hl7_2]); (try simp only [hl6_3]); (try simp only [hl7_3]); (try simp only [hl6_4]); (try simp only [hl7_4]); (with_reducible repeat (first | apply Kd.R_alloc | apply Kd.R_drewN | apply Kd.R_drew)); exact HO_6.out⟩, ⟨by (try simp only [hl6_1]); (try simp only [hl6_2]); (try simp only [hl7_2]); (try simp only [hl6_3]); (try simp only [hl7_3]); (try simp only [hl6_4]); (try simp only [hl7_4]); (with_reducible repeat (first | apply Kd.R_alloc | apply Kd.R_drewN | apply Kd.R_drew)); exact Kd.R_mono HO_7.out (fun _ hk => hk.2)⟩, ⟨by repeat (first | (with_reducible first | exact HB.out | apply below_alloc | apply pw_below_drewN | apply below_drew1) | exact HB.out)⟩⟩
                       ·
                        rw [if_neg c37] at H
                        have c37b0 : decide ((rd x6_4 (ji34)) < 0) = false := decide_eq_false c37
                        clear c37
                        by_cases c50 : (rd x6_4 (ji34)) = (wrap64 (x9_2 + 1))
                        ·
                         rw [if_pos c50] at H
                         have c50b0 : ((rd x6_4 (ji34)) == (wrap64 (x9_2 + 1))) = true := beq_iff_eq.mpr c50
                         have c50b1 : ((rd x6_4 (ji34)) != (wrap64 (x9_2 + 1))) = false := bne_eq_false_iff_eq.mpr c50
                         clear c50
                         by_cases c51 : (ji34) < (x7_4.length : Int)
                         ·
                          rw [if_pos c51] at H
                          have c51b0 : decide ((ji34) < (x7_4.length : Int)) = true := decide_eq_true c51
                          (try (have c51b0_ := c51b0; rw [hl6_1] at c51b0_))
                          (try (have c51b0_ := c51b0; rw [hl6_2] at c51b0_))
                          (try (have c51b0_ := c51b0; rw [hl7_2] at c51b0_))
                          (try (have c51b0_ := c51b0; rw [hl6_3] at c51b0_))
                          (try (have c51b0_ := c51b0; rw [hl7_3] at c51b0_))
                          (try (have c51b0_ := c51b0; rw [hl6_4] at c51b0_))
                          (try (have c51b0_ := c51b0; rw [hl7_4] at c51b0_))
                          clear c51
                          by_cases c52 : 0 ≤ x39_3
                          ·
                           rw [if_pos c52] at H
                           have c52b0 : decide (0 ≤ x39_3) = true := decide_eq_true c52
                           clear c52
                           by_cases c53 : x39_3 < (x7_4.length : Int)
                           ·
                            rw [if_pos c53] at H
                            have c53b0 : decide (x39_3 < (x7_4.length : Int)) = true := decide_eq_true c53
                            (try (have c53b0_ := c53b0; rw [hl6_1] at c53b0_))
                            (try (have c53b0_ := c53b0; rw [hl6_2] at c53b0_))
                            (try (have c53b0_ := c53b0; rw [hl7_2] at c53b0_))
                            (try (have c53b0_ := c53b0; rw [hl6_3] at c53b0_))
                            (try (have c53b0_ := c53b0; rw [hl7_3] at c53b0_))
                            (try (have c53b0_ := c53b0; rw [hl6_4] at c53b0_))
                            (try (have c53b0_ := c53b0; rw [hl7_4] at c53b0_))
                            clear c53
                            obtain ⟨y121, hy121⟩ : ∃ y_ : List Int, y_ = (x7_4.set ((ji34) : Int).toNat (wrap64 ((rd x7_4 (ji34)) + (rd x7_4 x39_3)))) := ⟨_, rfl⟩
                            replace H : (spec_wkFar.l3 k4 a0 x6_4 y121 x9_2 x39_3 t111 (wrap64 (x12_4 + 1)) (x6_2.length : Int) x39_3) = some (r1, r2) := by first | (rw [hy121]; with_reducible exact H) | (have H2_ := (Option.bind_some _ _).symm.trans H; rw [hy121]; with_reducible exact H2_) | (have H2_ := (Option.bind_some _ _).symm.trans H; with_reducible exact H2_) | with_reducible exact H | (rw [hy121]; exact H) | exact H
                            have Ny121 := Aside0.mk hy121
                            clear hy121
                            have H' := Aside0.mk H
                            clear H
                            have p33 : 0 ≤ (x12_4 : Int) := of_decide_eq_true (by first | (with_reducible assumption) | assumption)
                            have q33 : x12_4 < (t111.size : Int) := of_decide_eq_true (by first | (with_reducible assumption) | assumption)
                            have hx33 := bt_at t111 x12_4
                            replace p33 := eq_true p33
                            replace q33 := eq_true q33
                            have p112 : 0 ≤ ((ji34) : Int) := of_decide_eq_true (by first | (with_reducible assumption) | assumption)
                            have q112 : (ji34) < (x6_4.length : Int) := of_decide_eq_true (by first | (with_reducible assumption) | assumption)
                            obtain ⟨ad112, e112, hx112_0⟩ := Kd.at_int (Kd.R_reads' HO_6.out).2.2 (ji34) p112 q112
                            obtain rfl : (⟨go18, 0, none⟩ : Addr) = ad112 := (by injection e112)
                            (first | simp only [add_plain] at hx112_0 | simp only [add_at] at hx112_0 | simp only [Addr.add, Nat.zero_add] at hx112_0 | skip)
                            replace p112 := eq_true p112
                            replace q112 := eq_true q112
                            have p118 : 0 ≤ ((ji34) : Int) := of_decide_eq_true (by first | (with_reducible assumption) | assumption)
                            have q118 : (ji34) < (x6_4.length : Int) := of_decide_eq_true (by first | (with_reducible assumption) | assumption)
                            obtain ⟨ad118, e118, hx118_0⟩ := Kd.at_int (Kd.R_reads' HO_6.out).2.2 (ji34) p118 q118
                            obtain rfl : (⟨go18, 0, none⟩ : Addr) = ad118 := (by injection e118)
                            (first | simp only [add_plain] at hx118_0 | simp only [add_at] at hx118_0 | simp only [Addr.add, Nat.zero_add] at hx118_0 | skip)
                            replace p118 := eq_true p118
                            replace q118 := eq_true q118
                            try go_wp2
                            have n0_ := Aside0.mk (Kd.R_drew HO_6.out)
                            have n1_ := Aside0.mk (Kd.R_drew HO_7.out)
                            have n2_ := Aside0.mk (below_drew1 HB.out)
                            clear HO_6
                            clear HO_7
                            clear HB
                            have HO_6 := n0_
                            have HO_7 := n1_
                            have HB := n2_
                            clear n0_ n1_ n2_
                            have p119 : 0 ≤ ((ji34) : Int) := of_decide_eq_true (by first | (with_reducible assumption) | assumption)
                            have q119 : (ji34) < (x7_4.length : Int) := of_decide_eq_true (by first | (with_reducible assumption) | assumption)
                            obtain ⟨ad119, e119, hx119_0⟩ := Kd.at_int (Kd.R_reads' HO_7.out).2.2 (ji34) p119 q119
                            obtain rfl : (⟨go20, 0, none⟩ : Addr) = ad119 := (by injection e119)
                            (first | simp only [add_plain] at hx119_0 | simp only [add_at] at hx119_0 | simp only [Addr.add, Nat.zero_add] at hx119_0 | skip)
                            replace p119 := eq_true p119
                            replace q119 := eq_true q119
                            have p120 : 0 ≤ (x39_3 : Int) := of_decide_eq_true (by first | (with_reducible assumption) | assumption)
                            have q120 : x39_3 < (x7_4.length : Int) := of_decide_eq_true (by first | (with_reducible assumption) | assumption)
                            obtain ⟨ad120, e120, hx120_0⟩ := Kd.at_int (Kd.R_reads' HO_7.out).2.2 x39_3 p120 q120
                            obtain rfl : (⟨go20, 0, none⟩ : Addr) = ad120 := (by injection e120)
                            (first | simp only [add_plain] at hx120_0 | simp only [add_at] at hx120_0 | simp only [Addr.add, Nat.zero_add] at hx120_0 | skip)
                            replace p120 := eq_true p120
                            replace q120 := eq_true q120
                            have p54 : 0 ≤ ((ji34) : Int) := of_decide_eq_true (by first | (with_reducible assumption) | assumption)
                            have q54 : ((ji34) : Int) < ((x7_4.length : Int) : Int) := of_decide_eq_true (by first | (with_reducible assumption) | assumption)
                            obtain ⟨hx54_0, hf54_0⟩ := Kd.R_celln 0 HO_7.out ((ji34) : Int) p54 q54
                            replace p54 := eq_true p54
                            replace q54 := eq_true q54
                            have HP56 := Kd.R_putn HO_7.out ((ji34) : Int) (wrap64 ((rd x7_4 (ji34)) + (rd x7_4 x39_3)))
                            rw [← Ny121.out] at HP56
                            have HQ56 := Aside0.mk HP56
                            clear HP56
                            refine start_ (n := 11) (S := fun w' => w'.cell? ⟨go20, ((ji34)).toNat, none⟩ = some (.int .i64 (rd x7_4 (ji34))) ∧ w'.cell? ⟨go20, (x39_3).toNat, none⟩ = some (.int .i64 (rd x7_4 x39_3))) (ds := [10]) #[false, false, false, false, false, false, false, false, false, false, false] (by kernel_rfl) rfl rfl ⟨hx119_0, hx120_0⟩ (fun hHeld => ?_); refine with_tabW spec_wkFar.tab25 spec_wkFar.bits25 (fun HT_ HW_ => ?_)
                            generalize wr.drew = w55 at HO_6 HO_7 HB HQ56 hf54_0 hx119_0 hx120_0 hx54_0 hHeld ⊢
                            refine pure_ (i := 0) (N := some 81) (v := ?_) (a' := ?_) #[true, false, false, false, false, false, false, false, false, false, false] rfl rfl (any_of HT_.out (by kernel_rfl)) (fun _ _ _ h => h) (Or.inl ⟨by rfl, ?_⟩) ?_ ?_
                            rotate_left
                            ·
                             intro w'
                             go_simp
                             with_reducible rfl
                            rotate_left
                            ·
                             simp only [Act.put, List.setIfInBounds_toArray, List.set_cons_zero, List.set_cons_succ, i64_w, i32_w]
                             rfl
                            refine pure_ (i := 1) (N := some 82) (v := ?_) (a' := ?_) #[true, true, false, false, false, false, false, false, false, false, false] rfl rfl (any_of HT_.out (by kernel_rfl)) (fun _ _ _ h => h) (Or.inl ⟨by rfl, ?_⟩) ?_ ?_
                            rotate_left
                            ·
                             intro w'
                             go_simp
                             with_reducible rfl
                            rotate_left
                            ·
                             simp only [Act.put, List.setIfInBounds_toArray, List.set_cons_zero, List.set_cons_succ, i64_w, i32_w]
                             rfl
                            refine pure_ (i := 2) (N := some 83) (v := ?_) (a' := ?_) #[true, true, true, false, false, false, false, false, false, false, false] rfl rfl (any_of HT_.out (by kernel_rfl)) (fun _ _ _ h => h) (Or.inl ⟨by rfl, ?_⟩) ?_ ?_
                            rotate_left
                            ·
                             intro w'
                             go_simp
                             with_reducible rfl
                            rotate_left
                            ·
                             simp only [Act.put, List.setIfInBounds_toArray, List.set_cons_zero, List.set_cons_succ, i64_w, i32_w]
                             rfl
                            refine pure_ (i := 4) (N := some 85) (v := ?_) (a' := ?_) #[true, true, true, false, true, false, false, false, false, false, false] rfl rfl (any_of HT_.out (by kernel_rfl)) (fun _ _ _ h => h) (Or.inl ⟨by rfl, ?_⟩) ?_ ?_
                            rotate_left
                            ·
                             intro w'
                             go_simp
                             with_reducible rfl
                            rotate_left
                            ·
                             simp only [Act.put, List.setIfInBounds_toArray, List.set_cons_zero, List.set_cons_succ, i64_w, i32_w]
                             rfl
                            refine pure_ (i := 5) (N := some 86) (v := ?_) (a' := ?_) #[true, true, true, false, true, true, false, false, false, false, false] rfl rfl (any_of HT_.out (by kernel_rfl)) (fun _ _ _ h => h) (Or.inl ⟨by rfl, ?_⟩) ?_ ?_
                            rotate_left
                            ·
                             intro w'
                             go_simp
                             with_reducible rfl
                            rotate_left
                            ·
                             simp only [Act.put, List.setIfInBounds_toArray, List.set_cons_zero, List.set_cons_succ, i64_w, i32_w]
                             rfl
                            refine pure_ (i := 6) (N := some 87) (v := ?_) (a' := ?_) #[true, true, true, false, true, true, true, false, false, false, false] rfl rfl (any_of HT_.out (by kernel_rfl)) (fun _ _ _ h => h) (Or.inl ⟨by rfl, ?_⟩) ?_ ?_
                            rotate_left
                            ·
                             intro w'
                             go_simp
                             with_reducible rfl
                            rotate_left
                            ·
                             simp only [Act.put, List.setIfInBounds_toArray, List.set_cons_zero, List.set_cons_succ, i64_w, i32_w]
                             rfl
                            refine take_ (i := 3) (N := some 84) (v := ?_) (a' := ?_) #[true, true, true, true, true, true, true, false, false, false, false] rfl rfl (take_ofW HT_.out HW_.out (by kernel_rfl)) (fun _ _ _ h => h) (Or.inl ⟨by rfl, ?_⟩) hHeld ?_ ?_
                            rotate_left
                            ·
                             rintro w' ⟨s0, s1⟩
                             go_simp
                             with_reducible rfl
                            rotate_left
                            ·
                             simp only [Act.put, List.setIfInBounds_toArray, List.set_cons_zero, List.set_cons_succ, i64_w, i32_w]
                             rfl
                            refine take_ (i := 7) (N := some 88) (v := ?_) (a' := ?_) #[true, true, true, true, true, true, true, true, false, false, false] rfl rfl (take_ofW HT_.out HW_.out (by kernel_rfl)) (fun _ _ _ h => h) (Or.inl ⟨by rfl, ?_⟩) hHeld ?_ ?_
                            rotate_left
                            ·
                             rintro w' ⟨s0, s1⟩
                             go_simp
                             with_reducible rfl
                            rotate_left
                            ·
                             simp only [Act.put, List.setIfInBounds_toArray, List.set_cons_zero, List.set_cons_succ, i64_w, i32_w]
                             rfl
                            refine pure_ (i := 8) (N := some 89) (v := ?_) (a' := ?_) #[true, true, true, true, true, true, true, true, true, false, false] rfl rfl (any_of HT_.out (by kernel_rfl)) (fun _ _ _ h => h) (Or.inl ⟨by rfl, ?_⟩) ?_ ?_
                            rotate_left
                            ·
                             intro w'
                             go_simp
                             with_reducible rfl
                            rotate_left
                            ·
                             simp only [Act.put, List.setIfInBounds_toArray, List.set_cons_zero, List.set_cons_succ, i64_w, i32_w]
                             rfl
                            refine pure_ (i := 9) (N := some 90) (v := ?_) (a' := ?_) #[true, true, true, true, true, true, true, true, true, true, false] rfl rfl (any_of HT_.out (by kernel_rfl)) (fun _ _ _ h => h) (Or.inl ⟨by rfl, ?_⟩) ?_ ?_
                            rotate_left
                            ·
                             intro w'
                             go_simp
                             with_reducible rfl
                            rotate_left
                            ·
                             simp only [Act.put, List.setIfInBounds_toArray, List.set_cons_zero, List.set_cons_succ, i64_w, i32_w]
                             rfl
                            refine last_ (i := 10) (N := none) #[true, true, true, true, true, true, true, true, true, true, true] rfl rfl (one_of HT_.out (by kernel_rfl)) (by decide) (fun K hK => ?_)
                            refine skip_ (w1 := ?_) (by rfl) rfl ?_ ?_
                            rotate_left
                            ·
                             go_simp
                             rfl
                            refine hK.out _ _ ?_
                            clear hK K
                            refine done_ (done_of HT_.out (by kernel_rfl)) ?_
                            try go_wp2
                            (try simp only [← hl6_4, ← hl7_4])
                            go_roundg k4
                            case measure => have := HK1.out; have := HK2.out; have := HK3.out; have := HK4.out; omega
                            case rel => exact ⟨(x6_4), (y121), (wrap64 (x12_4 + 1)), (by first | rfl | (simp; done) | (simp [*]; done)), H', ⟨by have := HK1.out; have := HK2.out; have := HK3.out; have := HK4.out; omega⟩, ⟨by (try simp only [hl6_1]); (try simp only [hl6_2]); (try simp only [hl7_2]); (try simp only [hl6_3]); (try simp only [hl7_3]); (try simp only [hl6_4]); (try simp only [hl7_4]); (with_reducible repeat (first | apply Kd.R_alloc | apply Kd.R_drewN | apply Kd.R_drew)); exact Kd.R_mono (Kd.R_far (p := ⟨go20, ((ji34) : Int).toNat, none⟩) (Kd.R_mono HO_6.out (fun k_ hk => (⟨hk, fun e_ => hk (by rw [e_]; rfl)⟩ : _ ∧ k_ ≠ go20))) (fun _ hk => hk.2) (.int .i64 (wrap64 ((rd x7_4 (ji34)) + (rd x7_4 x39_3))))) (fun _ hk => hk.1)⟩, ⟨by (try simp only [hl6_1]); (try simp only [hl6_2]); (try simp only [hl7_2]); (try simp only [hl6_3]); (try simp only [hl7_3]); (try simp only [hl6_4]); (try simp only [hl7_4]); (with_reducible repeat (first | apply Kd.R_alloc | apply Kd.R_drewN | apply Kd.R_drew)); exact HQ56.out⟩, ⟨by repeat (first | (with_reducible first | exact HB.out | apply below_alloc | apply pw_below_drewN | apply below_drew1 | refine below_set ?_ GB20.out) | exact HB.out)⟩⟩
                           ·
                            rw [if_neg c53] at H
                            exact absurd H (by simp)
                          ·
                           rw [if_neg c52] at H
                           exact absurd H (by simp)
                         ·
                          rw [if_neg c51] at H
                          exact absurd H (by simp)
                        ·
                         rw [if_neg c50] at H
                         have c50b0 : ((rd x6_4 (ji34)) == (wrap64 (x9_2 + 1))) = false := beq_eq_false_iff_ne.mpr c50
                         have c50b1 : ((rd x6_4 (ji34)) != (wrap64 (x9_2 + 1))) = true := bne_iff_ne.mpr c50
                         have H' := Aside0.mk H
                         clear H
                         have p33 : 0 ≤ (x12_4 : Int) := of_decide_eq_true (by first | (with_reducible assumption) | assumption)
                         have q33 : x12_4 < (t111.size : Int) := of_decide_eq_true (by first | (with_reducible assumption) | assumption)
                         have hx33 := bt_at t111 x12_4
                         replace p33 := eq_true p33
                         replace q33 := eq_true q33
                         have p112 : 0 ≤ ((ji34) : Int) := of_decide_eq_true (by first | (with_reducible assumption) | assumption)
                         have q112 : (ji34) < (x6_4.length : Int) := of_decide_eq_true (by first | (with_reducible assumption) | assumption)
                         obtain ⟨ad112, e112, hx112_0⟩ := Kd.at_int (Kd.R_reads' HO_6.out).2.2 (ji34) p112 q112
                         obtain rfl : (⟨go18, 0, none⟩ : Addr) = ad112 := (by injection e112)
                         (first | simp only [add_plain] at hx112_0 | simp only [add_at] at hx112_0 | simp only [Addr.add, Nat.zero_add] at hx112_0 | skip)
                         replace p112 := eq_true p112
                         replace q112 := eq_true q112
                         have p118 : 0 ≤ ((ji34) : Int) := of_decide_eq_true (by first | (with_reducible assumption) | assumption)
                         have q118 : (ji34) < (x6_4.length : Int) := of_decide_eq_true (by first | (with_reducible assumption) | assumption)
                         obtain ⟨ad118, e118, hx118_0⟩ := Kd.at_int (Kd.R_reads' HO_6.out).2.2 (ji34) p118 q118
                         obtain rfl : (⟨go18, 0, none⟩ : Addr) = ad118 := (by injection e118)
                         (first | simp only [add_plain] at hx118_0 | simp only [add_at] at hx118_0 | simp only [Addr.add, Nat.zero_add] at hx118_0 | skip)
                         replace p118 := eq_true p118
                         replace q118 := eq_true q118
                         go_wp2
                         (try simp only [← hl6_4, ← hl7_4])
                         go_roundg k4
                         case measure => have := HK1.out; have := HK2.out; have := HK3.out; have := HK4.out; omega
                         case rel => exact ⟨(x6_4), (x7_4), (wrap64 (x12_4 + 1)), (by first | rfl | (simp; done) | (simp [*]; done)), H', ⟨by have := HK1.out; have := HK2.out; have := HK3.out; have := HK4.out; omega⟩, ⟨by (try simp only [hl6_1]); (try simp only [hl6_2]); (try simp only [hl7_2]); (try simp only [hl6_3]); (try simp only [hl7_3]); (try simp only [hl6_4]); (try simp only [hl7_4]); (with_reducible repeat (first | apply Kd.R_alloc | apply Kd.R_drewN | apply Kd.R_drew)); exact HO_6.out⟩, ⟨by (try simp only [hl6_1]); (try simp only [hl6_2]); (try simp only [hl7_2]); (try simp only [hl6_3]); (try simp only [hl7_3]); (try simp only [hl6_4]); (try simp only [hl7_4]); (with_reducible repeat (first | apply Kd.R_alloc | apply Kd.R_drewN | apply Kd.R_drew)); exact HO_7.out⟩, ⟨by repeat (first | (with_reducible first | exact HB.out | apply below_alloc | apply pw_below_drewN | apply below_drew1) | exact HB.out)⟩⟩
                      ·
                       rw [if_neg c36] at H
                       exact absurd H (by simp)
                     ·
                      rw [if_neg c35] at H
                      exact absurd H (by simp)
                    ·
                     rw [if_neg c32] at H
                     exact absurd H (by simp)
                   ·
                    rw [if_neg c31] at H
                    have c31b0 : decide (x12_4 < (t111.size : Int)) = false := decide_eq_false c31
                    clear c31
                    have H' := Aside0.mk H
                    clear H
                    go_wp2
                    (try simp only [← hl6_3, ← hl7_3, ← hl6_4, ← hl7_4])
                    go_roundg k4
                    case measure => have := HK1.out; have := HK2.out; have := HK3.out; have := HK4.out; omega
                    case rel => exact ⟨(x6_4), (x7_4), (wrap64 (x39_3 + 1)), (by first | rfl | (simp; done) | (simp [*]; done)), H', ⟨by have := HK1.out; have := HK2.out; have := HK3.out; have := HK4.out; omega⟩, ⟨by (try simp only [hl6_1]); (try simp only [hl6_2]); (try simp only [hl7_2]); (try simp only [hl6_3]); (try simp only [hl7_3]); (try simp only [hl6_4]); (try simp only [hl7_4]); (with_reducible repeat (first | apply Kd.R_alloc | apply Kd.R_drewN | apply Kd.R_drew)); exact HO_6.out⟩, ⟨by (try simp only [hl6_1]); (try simp only [hl6_2]); (try simp only [hl7_2]); (try simp only [hl6_3]); (try simp only [hl7_3]); (try simp only [hl6_4]); (try simp only [hl7_4]); (with_reducible repeat (first | apply Kd.R_alloc | apply Kd.R_drewN | apply Kd.R_drew)); exact HO_7.out⟩, ⟨by repeat (first | (with_reducible first | exact HB.out | apply below_alloc | apply pw_below_drewN | apply below_drew1) | exact HB.out)⟩⟩
                ·
                 rw [if_neg c29] at H
                 have c29b0 : ((rd x6_3 x39_3) == x9_2) = false := beq_eq_false_iff_ne.mpr c29
                 have c29b1 : ((rd x6_3 x39_3) != x9_2) = true := bne_iff_ne.mpr c29
                 have H' := Aside0.mk H
                 clear H
                 have p110 : 0 ≤ (x39_3 : Int) := of_decide_eq_true (by first | (with_reducible assumption) | assumption)
                 have q110 : x39_3 < (x6_3.length : Int) := of_decide_eq_true (by first | (with_reducible assumption) | assumption)
                 obtain ⟨ad110, e110, hx110_0⟩ := Kd.at_int (Kd.R_reads' HO_6.out).2.2 x39_3 p110 q110
                 obtain rfl : (⟨go18, 0, none⟩ : Addr) = ad110 := (by injection e110)
                 (first | simp only [add_plain] at hx110_0 | simp only [add_at] at hx110_0 | simp only [Addr.add, Nat.zero_add] at hx110_0 | skip)
                 replace p110 := eq_true p110
                 replace q110 := eq_true q110
                 go_wp2
                 (try simp only [← hl6_3, ← hl7_3])
                 go_roundg k3
                 case measure => have := HK1.out; have := HK2.out; have := HK3.out; omega
                 case rel => exact ⟨(x6_3), (x7_3), (wrap64 (x39_3 + 1)), (by first | rfl | (simp; done) | (simp [*]; done)), H', ⟨by have := HK1.out; have := HK2.out; have := HK3.out; omega⟩, ⟨by (try simp only [hl6_1]); (try simp only [hl6_2]); (try simp only [hl7_2]); (try simp only [hl6_3]); (try simp only [hl7_3]); (with_reducible repeat (first | apply Kd.R_alloc | apply Kd.R_drewN | apply Kd.R_drew)); exact HO_6.out⟩, ⟨by (try simp only [hl6_1]); (try simp only [hl6_2]); (try simp only [hl7_2]); (try simp only [hl6_3]); (try simp only [hl7_3]); (with_reducible repeat (first | apply Kd.R_alloc | apply Kd.R_drewN | apply Kd.R_drew)); exact HO_7.out⟩, ⟨by repeat (first | (with_reducible first | exact HB.out | apply below_alloc | apply pw_below_drewN | apply below_drew1) | exact HB.out)⟩⟩
               ·
                rw [if_neg c28] at H
                exact absurd H (by simp)
              ·
               rw [if_neg c27] at H
               exact absurd H (by simp)
             ·
              rw [if_neg c26] at H
              have c26b0 : decide (x39_3 < (x6_2.length : Int)) = false := decide_eq_false c26
              (try (have c26b0_ := c26b0; rw [hl6_1] at c26b0_))
              (try (have c26b0_ := c26b0; rw [hl6_2] at c26b0_))
              (try (have c26b0_ := c26b0; rw [hl7_2] at c26b0_))
              (try (have c26b0_ := c26b0; rw [hl6_3] at c26b0_))
              (try (have c26b0_ := c26b0; rw [hl7_3] at c26b0_))
              clear c26
              have H' := Aside0.mk H
              clear H
              go_wp2
              (try simp only [← hl6_2, ← hl7_2, ← hl6_3, ← hl7_3])
              go_roundg k3
              case measure => have := HK1.out; have := HK2.out; have := HK3.out; omega
              case rel => exact ⟨(x6_3), (x7_3), (wrap64 (x9_2 + 1)), (by first | rfl | (simp; done) | (simp [*]; done)), H', ⟨by have := HK1.out; have := HK2.out; have := HK3.out; omega⟩, ⟨by (try simp only [hl6_1]); (try simp only [hl6_2]); (try simp only [hl7_2]); (try simp only [hl6_3]); (try simp only [hl7_3]); (with_reducible repeat (first | apply Kd.R_alloc | apply Kd.R_drewN | apply Kd.R_drew)); exact HO_6.out⟩, ⟨by (try simp only [hl6_1]); (try simp only [hl6_2]); (try simp only [hl7_2]); (try simp only [hl6_3]); (try simp only [hl7_3]); (with_reducible repeat (first | apply Kd.R_alloc | apply Kd.R_drewN | apply Kd.R_drew)); exact HO_7.out⟩, ⟨by repeat (first | (with_reducible first | exact HB.out | apply below_alloc | apply pw_below_drewN | apply below_drew1) | exact HB.out)⟩⟩
          ·
           rw [if_neg c25] at H
           have c25b0 : decide (x9_2 < 10) = false := decide_eq_false c25
           clear c25
           simp only [Option.some.injEq, Prod.mk.injEq] at H
           obtain ⟨rfl, rfl⟩ := H
           go_wp2
           go_ret2
           exact ⟨_, _, by first | rfl | (simp [errW_none, errW_some] <;> rfl) | (simp only [← hji15]; first | rfl | (simp [errW_none, errW_some] <;> rfl)) | (simp [*, errW_none, errW_some] <;> rfl), by (with_reducible repeat (first | apply Kd.R_alloc | apply Kd.R_drewN | apply Kd.R_drew)); exact HO_6.out, by (with_reducible repeat (first | apply Kd.R_alloc | apply Kd.R_drewN | apply Kd.R_drew)); exact HO_7.out, by repeat (first | (with_reducible first | exact HB.out | apply below_alloc | apply pw_below_drewN | apply below_drew1) | exact HB.out)⟩
       ·
        rw [if_neg c19] at H
        exact absurd H (by simp)
      ·
       rw [if_neg c17] at H
       exact absurd H (by simp)
     ·
      rw [if_neg c16] at H
      exact absurd H (by simp)
 ·
  rw [if_neg c3] at H
  exact absurd H (by simp)

end Go.Proofs.YtkbgfaeohmnjpaaDoor.P

-- printed by xprint.py
namespace Go.Proofs.YtkbgfaeohmnjpaaDoor.P
open Go.RowKit Go.Proofs.YtkbgfaeohmnjpaaDoorW.PrintWords Go.Proofs.YtkbgfaeohmnjpaaDoorW.PrintLast Go.Proofs.YtkbgfaeohmnjpaaDoorW.PrintMore
attribute [local go_sem] max2_int min2_int max_two min_two max_three min_three max_four min_four   -- for this text's walks alone
set_option linter.unusedVariables false
set_option linter.unusedSimpArgs false

/-! ### spec_CountShortest: function 19 -/
def spec_CountShortest.j0 : Nat → ByteArray → ByteArray → ByteArray → Bool → Option (Int × Bool)
 | 0, _, _, _, _ => none
 | k + 1, x0, x1, x2, x19 => if x19 = true then (some (0, false)) else (if 0 < (x1.size : Int) then ((spec_wkFar.f k x0 (bt x1 0)).bind fun bt103 => (if 0 < (x2.size : Int) then (if 0 ≤ (((bt x2 0) - 48) % 256) then (if (((bt x2 0) - 48) % 256) < (bt103.1.length : Int) then (if (rd bt103.1 (((bt x2 0) - 48) % 256)) < 0 then (some (0, false)) else (if (((bt x2 0) - 48) % 256) < (bt103.2.length : Int) then (some (rd bt103.2 (((bt x2 0) - 48) % 256), true)) else (none))) else (none)) else (none)) else (none))) else (none))
def spec_CountShortest.f (k : Nat) (a0 : ByteArray) (a1 : ByteArray) (a2 : ByteArray) : Option (Int × Bool) := (spec_wkAsked.f k a0 a1).bind fun t101 => (if t101 = true then ((spec_wkAsked.f k a0 a2).bind fun t102 => (spec_CountShortest.j0 k a0 a1 a2 (!t102))) else (spec_CountShortest.j0 k a0 a1 a2 true))
theorem spec_CountShortest.mono_l : ∀ k, (∀ y0 y1 y2 y3, LeO (spec_CountShortest.j0 k y0 y1 y2 y3) (spec_CountShortest.j0 (k + 1) y0 y1 y2 y3))
 | 0 => fun _ _ _ _ r h => by simp [spec_CountShortest.j0] at h
 | k + 1 => by
  have ih0 := spec_CountShortest.mono_l k
  ·
   intro y0 y1 y2 y3
   unfold spec_CountShortest.j0
   repeat' first
   | (with_reducible exact ih0 _ _ _ _)
   | (with_reducible exact spec_wkAsked.mono _ _ _)
   | (with_reducible exact spec_wkFar.mono _ _ _)
   | (with_reducible exact LeO.refl _)
   | (with_reducible exact LeO.none _)
   | (with_reducible refine LeO.ite ?_ ?_)
   | (with_reducible refine LeO.bind ?_ (fun _ => ?_))
   | exact ih0 _ _ _ _
   | exact spec_wkAsked.mono _ _ _
   | exact spec_wkFar.mono _ _ _
   | exact LeO.none _
   | refine LeO.ite ?_ ?_
   | refine LeO.bind ?_ (fun _ => ?_)
theorem spec_CountShortest.mono : ∀ a0 a1 a2 k, LeO (spec_CountShortest.f k a0 a1 a2) (spec_CountShortest.f (k + 1) a0 a1 a2) := by
 intro a0 a1 a2 k
 have ih0 := spec_CountShortest.mono_l k
 unfold spec_CountShortest.f
 repeat' first
   | (with_reducible exact ih0 _ _ _ _)
   | (with_reducible exact spec_wkAsked.mono _ _ _)
   | (with_reducible exact spec_wkFar.mono _ _ _)
   | (with_reducible exact LeO.refl _)
   | (with_reducible exact LeO.none _)
   | (with_reducible refine LeO.ite ?_ ?_)
   | (with_reducible refine LeO.bind ?_ (fun _ => ?_))
   | exact ih0 _ _ _ _
   | exact spec_wkAsked.mono _ _ _
   | exact spec_wkFar.mono _ _ _
   | exact LeO.none _
   | refine LeO.ite ?_ ?_
   | refine LeO.bind ?_ (fun _ => ?_)
set_option maxHeartbeats 8000000 in
set_option maxRecDepth 100000 in
theorem spec_CountShortest.calls (k : Nat) (a0 : ByteArray) (a1 : ByteArray) (a2 : ByteArray) (r1 : Int) (r2 : Bool) (w : World) (h : spec_CountShortest.f k a0 a1 a2 = some (r1, r2)) :
  Calls Tryd.prog 19 #[.string a0, .string a1, .string a2] w fun e w' => e = .returned (.tuple #[.int .i64 r1, .bool r2]) ∧ Below w.heap.size w w' := by
 have HB := Aside0.mk (Below.refl w.heap.size w)
 have H : ((spec_wkAsked.f k a0 a1).bind fun t101 => (if t101 = true then ((spec_wkAsked.f k a0 a2).bind fun t102 => (spec_CountShortest.j0 k a0 a1 a2 (!t102))) else (spec_CountShortest.j0 k a0 a1 a2 true))) = some (r1, r2) := h
 clear h
 have HC4 := Aside0.mk H
 clear H
 go_enter Tryd.func19, Tryd.ntmps19
 go_upto_region 1 with (fail)
 go_cut [19] (fun v19 wc => ∃ (kq : Nat) (x19_3 : Bool), v19 = .bool x19_3 ∧ Aside0 (spec_CountShortest.j0 kq a0 a1 a2 x19_3 = some (r1, r2)) ∧ Aside0 (kq ≤ k) ∧ Aside0 (Below w.heap.size w wc))
 case first =>
  have H := HC4.out
  clear HC4
  replace H := Option.bind_eq_some_iff.mp H
  obtain ⟨t101, A50, H⟩ := H
  replace H : (if t101 = true then ((spec_wkAsked.f k a0 a2).bind fun t102 => (spec_CountShortest.j0 k a0 a1 a2 (!t102))) else (spec_CountShortest.j0 k a0 a1 a2 true)) = some (r1, r2) := H
  have A5 := Aside0.mk A50
  clear A50
  by_cases c6 : t101 = true
  ·
   subst c6
   have H1 : ((spec_wkAsked.f k a0 a2).bind fun t102 => (spec_CountShortest.j0 k a0 a1 a2 (!t102))) = some (r1, r2) := by rw [if_pos rfl] at H; exact H
   clear H
   have H := H1
   clear H1
   replace H := Option.bind_eq_some_iff.mp H
   obtain ⟨t102, A70, H⟩ := H
   replace H : (spec_CountShortest.j0 k a0 a1 a2 (!t102)) = some (r1, r2) := H
   have A7 := Aside0.mk A70
   clear A70
   have H' := Aside0.mk H
   clear H
   go_wp2_with (first | ((with_reducible refine gate_callee (f := 30) rfl ?_); refine goesL_ (some 12) rfl rfl Tryd.func30 (by kernel_rfl) rfl #[.string a0, .string a1] rfl (by (try simp only [List.map_toArray, List.map_cons, List.map_nil]); first | done | rfl | (simp only [List.length_drop, List.length_take]; rfl)) ?_; (with_reducible refine (spec_wkAsked.calls k a0 a1 true _ A5.out).mono ?_); rintro e w' ⟨rfl, ⟨nd, rfl⟩⟩; refine ⟨_, rfl, ?_⟩) | (go_at_call 30; (with_reducible refine (spec_wkAsked.calls k a0 a2 t102 _ A7.out).mono ?_); rintro e w' ⟨rfl, ⟨nd, rfl⟩⟩))
   go_meet
   case rel => exact ⟨_, (!t102), (by first | rfl | (simp; done) | (simp [*]; done)), H', ⟨by first | omega | exact Nat.le_refl _⟩, ⟨by repeat (first | (with_reducible first | exact HB.out | apply below_alloc | apply pw_below_drewN | apply below_drew1) | exact HB.out)⟩⟩
  ·
   replace c6 := Bool.eq_false_iff.mpr c6
   subst c6
   have H1 : (spec_CountShortest.j0 k a0 a1 a2 true) = some (r1, r2) := by rw [if_neg (show ¬ (false = true) by decide)] at H; exact H
   clear H
   have H := H1
   clear H1
   have H' := Aside0.mk H
   clear H
   go_wp2_with (first | ((with_reducible refine gate_callee (f := 30) rfl ?_); refine goesL_ (some 12) rfl rfl Tryd.func30 (by kernel_rfl) rfl #[.string a0, .string a1] rfl (by (try simp only [List.map_toArray, List.map_cons, List.map_nil]); first | done | rfl | (simp only [List.length_drop, List.length_take]; rfl)) ?_; (with_reducible refine (spec_wkAsked.calls k a0 a1 false _ A5.out).mono ?_); rintro e w' ⟨rfl, ⟨nd, rfl⟩⟩; refine ⟨_, rfl, ?_⟩))
   go_meet
   case rel => exact ⟨_, (true), (by first | rfl | (simp; done) | (simp [*]; done)), H', ⟨by first | omega | exact Nat.le_refl _⟩, ⟨by repeat (first | (with_reducible first | exact HB.out | apply below_alloc | apply pw_below_drewN | apply below_drew1) | exact HB.out)⟩⟩
 case rest =>
  clear HC4
  try clear c1
  try clear p2
  try clear c3
  try clear c6
  obtain ⟨kq, x19_3, rfl, HA, HJ3, HB⟩ := hcut
  cases kq with
  | zero => exact absurd HA.out (by simp [spec_CountShortest.j0])
  | succ kj3 =>
   have H := HA.out
   clear HA
   simp only [spec_CountShortest.j0] at H
   by_cases c8 : x19_3 = true
   ·
    subst c8
    have H1 : (some (0, false)) = some (r1, r2) := by rw [if_pos rfl] at H; exact H
    clear H
    have H := H1
    clear H1
    simp only [Option.some.injEq, Prod.mk.injEq] at H
    obtain ⟨rfl, rfl⟩ := H
    go_wp2
    go_ret2
    exact ⟨by first | rfl | (simp [errW_none, errW_some] <;> rfl) | (simp [*, errW_none, errW_some] <;> rfl), by repeat (first | (with_reducible first | exact HB.out | apply below_alloc | apply pw_below_drewN | apply below_drew1) | exact HB.out)⟩
   ·
    replace c8 := Bool.eq_false_iff.mpr c8
    subst c8
    have H1 : (if 0 < (a1.size : Int) then ((spec_wkFar.f kj3 a0 (bt a1 0)).bind fun bt103 => (if 0 < (a2.size : Int) then (if 0 ≤ (((bt a2 0) - 48) % 256) then (if (((bt a2 0) - 48) % 256) < (bt103.1.length : Int) then (if (rd bt103.1 (((bt a2 0) - 48) % 256)) < 0 then (some (0, false)) else (if (((bt a2 0) - 48) % 256) < (bt103.2.length : Int) then (some (rd bt103.2 (((bt a2 0) - 48) % 256), true)) else (none))) else (none)) else (none)) else (none))) else (none)) = some (r1, r2) := by rw [if_neg (show ¬ (false = true) by decide)] at H; exact H
    clear H
    have H := H1
    clear H1
    by_cases c9 : 0 < (a1.size : Int)
    ·
     rw [if_pos c9] at H
     have c9b0 : decide (0 < (a1.size : Int)) = true := decide_eq_true c9
     have c9b1 : decide (0 < a1.size) = true := decide_eq_true (by omega)
     clear c9
     replace H := Option.bind_eq_some_iff.mp H
     obtain ⟨⟨t103, t104⟩, A110, H⟩ := H
     replace H : (if 0 < (a2.size : Int) then (if 0 ≤ (((bt a2 0) - 48) % 256) then (if (((bt a2 0) - 48) % 256) < (t103.length : Int) then (if (rd t103 (((bt a2 0) - 48) % 256)) < 0 then (some (0, false)) else (if (((bt a2 0) - 48) % 256) < (t104.length : Int) then (some (rd t104 (((bt a2 0) - 48) % 256), true)) else (none))) else (none)) else (none)) else (none)) = some (r1, r2) := H
     have A11 := Aside0.mk A110
     clear A110
     by_cases c12 : 0 < (a2.size : Int)
     ·
      rw [if_pos c12] at H
      have c12b0 : decide (0 < (a2.size : Int)) = true := decide_eq_true c12
      have c12b1 : decide (0 < a2.size) = true := decide_eq_true (by omega)
      clear c12
      obtain ⟨ji14, hji14⟩ : ∃ j_ : Int, (((bt a2 0) - 48) % 256) = j_ := ⟨_, rfl⟩
      have huji14 : IntKind.u8.wrap ((bt a2 0) - 48) = ji14 := hji14
      replace H : (if 0 ≤ (ji14) then (if (ji14) < (t103.length : Int) then (if (rd t103 (ji14)) < 0 then (some (0, false)) else (if (ji14) < (t104.length : Int) then (some (rd t104 (ji14), true)) else (none))) else (none)) else (none)) = some (r1, r2) := by first | (rw [hji14] at H; exact H) | (simp only [hji14] at H ⊢; exact H)
      (try rw [hji14] at A11)
      by_cases c15 : 0 ≤ (ji14)
      ·
       rw [if_pos c15] at H
       have c15b0 : decide (0 ≤ (ji14)) = true := decide_eq_true c15
       clear c15
       by_cases c16 : (ji14) < (t103.length : Int)
       ·
        rw [if_pos c16] at H
        have c16b0 : decide ((ji14) < (t103.length : Int)) = true := decide_eq_true c16
        clear c16
        by_cases c17 : (rd t103 (ji14)) < 0
        ·
         rw [if_pos c17] at H
         have c17b0 : decide ((rd t103 (ji14)) < 0) = true := decide_eq_true c17
         clear c17
         simp only [Option.some.injEq, Prod.mk.injEq] at H
         obtain ⟨rfl, rfl⟩ := H
         have p10 : 0 ≤ (0 : Int) := (by omega)
         have q10 : 0 < a1.size := (by have : (0 : Int) < (a1.size : Int) := of_decide_eq_true (by first | (with_reducible assumption) | assumption); omega)
         have hx10 : ∀ h : 0 < a1.size, ((a1[0]'h).toNat : Int) = bt a1 0 := bt_at a1 0
         clear p10
         have qi10 : (0 < (a1.size : Int)) = True := eq_true (of_decide_eq_true (by first | (with_reducible assumption) | assumption))
         replace q10 := eq_true q10
         go_wp2_with (first | ((with_reducible refine gate_callee (f := 31) rfl ?_); refine goesL_ (some 24) rfl rfl Tryd.func31 (by kernel_rfl) rfl #[.string a0, .int .u8 (bt a1 0)] rfl (by (try simp only [List.map_toArray, List.map_cons, List.map_nil]); first | done | rfl | (simp only [List.length_drop, List.length_take]; rfl)) ?_; (with_reducible refine (spec_wkFar.calls kj3 a0 (bt a1 0) t103 t104 _ A11.out).mono ?_); rintro e w18 ⟨v105, v107, rfl, ho0, ho1, hb⟩; refine ⟨_, rfl, ?_⟩; have n0_ := Aside0.mk (Kd.R_lower ho0 (below_size (by repeat (first | (with_reducible first | exact HB.out | apply below_alloc | apply pw_below_drewN | apply below_drew1) | exact HB.out)))); have n1_ := Aside0.mk (Kd.R_lower ho1 (below_size (by repeat (first | (with_reducible first | exact HB.out | apply below_alloc | apply pw_below_drewN | apply below_drew1) | exact HB.out)))); have n2_ := Aside0.mk (below_step (by repeat (first | (with_reducible first | exact HB.out | apply below_alloc | apply pw_below_drewN | apply below_drew1) | exact HB.out)) hb); clear HB; have HO106 := n0_; have HO108 := n1_; have HB := n2_; clear n0_ n1_ n2_; (try clear hb); (try clear hb2); (try clear hk); (try clear hi); (try clear ho0); (try clear ho1); have p13 : 0 ≤ (0 : Int) := (by omega); have q13 : 0 < a2.size := (by have : (0 : Int) < (a2.size : Int) := of_decide_eq_true (by first | (with_reducible assumption) | assumption); omega); have hx13 : ∀ h : 0 < a2.size, ((a2[0]'h).toNat : Int) = bt a2 0 := bt_at a2 0; clear p13; have qi13 : (0 < (a2.size : Int)) = True := eq_true (of_decide_eq_true (by first | (with_reducible assumption) | assumption)); replace q13 := eq_true q13; obtain ⟨Ao19, co19, eo19⟩ := Kd.R_slice HO106.out; subst eo19; have p109 : 0 ≤ ((ji14) : Int) := of_decide_eq_true (by first | (with_reducible assumption) | assumption); have q109 : (ji14) < (t103.length : Int) := of_decide_eq_true (by first | (with_reducible assumption) | assumption); obtain ⟨ad109, e109, hx109_0⟩ := Kd.at_int (Kd.R_reads' HO106.out).2.2 (ji14) p109 q109; cases e109; replace p109 := eq_true p109; replace q109 := eq_true q109))
         go_ret2
         exact ⟨by first | rfl | (simp [errW_none, errW_some] <;> rfl) | (simp only [← hji14]; first | rfl | (simp [errW_none, errW_some] <;> rfl)) | (simp [*, errW_none, errW_some] <;> rfl), by repeat (first | (with_reducible first | exact HB.out | apply below_alloc | apply pw_below_drewN | apply below_drew1) | exact HB.out)⟩
        ·
         rw [if_neg c17] at H
         have c17b0 : decide ((rd t103 (ji14)) < 0) = false := decide_eq_false c17
         clear c17
         by_cases c21 : (ji14) < (t104.length : Int)
         ·
          rw [if_pos c21] at H
          have c21b0 : decide ((ji14) < (t104.length : Int)) = true := decide_eq_true c21
          clear c21
          simp only [Option.some.injEq, Prod.mk.injEq] at H
          obtain ⟨rfl, rfl⟩ := H
          have p10 : 0 ≤ (0 : Int) := (by omega)
          have q10 : 0 < a1.size := (by have : (0 : Int) < (a1.size : Int) := of_decide_eq_true (by first | (with_reducible assumption) | assumption); omega)
          have hx10 : ∀ h : 0 < a1.size, ((a1[0]'h).toNat : Int) = bt a1 0 := bt_at a1 0
          clear p10
          have qi10 : (0 < (a1.size : Int)) = True := eq_true (of_decide_eq_true (by first | (with_reducible assumption) | assumption))
          replace q10 := eq_true q10
          go_wp2_with (first | ((with_reducible refine gate_callee (f := 31) rfl ?_); refine goesL_ (some 24) rfl rfl Tryd.func31 (by kernel_rfl) rfl #[.string a0, .int .u8 (bt a1 0)] rfl (by (try simp only [List.map_toArray, List.map_cons, List.map_nil]); first | done | rfl | (simp only [List.length_drop, List.length_take]; rfl)) ?_; (with_reducible refine (spec_wkFar.calls kj3 a0 (bt a1 0) t103 t104 _ A11.out).mono ?_); rintro e w22 ⟨v105, v107, rfl, ho0, ho1, hb⟩; refine ⟨_, rfl, ?_⟩; have n0_ := Aside0.mk (Kd.R_lower ho0 (below_size (by repeat (first | (with_reducible first | exact HB.out | apply below_alloc | apply pw_below_drewN | apply below_drew1) | exact HB.out)))); have n1_ := Aside0.mk (Kd.R_lower ho1 (below_size (by repeat (first | (with_reducible first | exact HB.out | apply below_alloc | apply pw_below_drewN | apply below_drew1) | exact HB.out)))); have n2_ := Aside0.mk (below_step (by repeat (first | (with_reducible first | exact HB.out | apply below_alloc | apply pw_below_drewN | apply below_drew1) | exact HB.out)) hb); clear HB; have HO106 := n0_; have HO108 := n1_; have HB := n2_; clear n0_ n1_ n2_; (try clear hb); (try clear hb2); (try clear hk); (try clear hi); (try clear ho0); (try clear ho1); have p13 : 0 ≤ (0 : Int) := (by omega); have q13 : 0 < a2.size := (by have : (0 : Int) < (a2.size : Int) := of_decide_eq_true (by first | (with_reducible assumption) | assumption); omega); have hx13 : ∀ h : 0 < a2.size, ((a2[0]'h).toNat : Int) = bt a2 0 := bt_at a2 0; clear p13; have qi13 : (0 < (a2.size : Int)) = True := eq_true (of_decide_eq_true (by first | (with_reducible assumption) | assumption)); replace q13 := eq_true q13; obtain ⟨Ao23, co23, eo23⟩ := Kd.R_slice HO106.out; subst eo23; have p109 : 0 ≤ ((ji14) : Int) := of_decide_eq_true (by first | (with_reducible assumption) | assumption); have q109 : (ji14) < (t103.length : Int) := of_decide_eq_true (by first | (with_reducible assumption) | assumption); obtain ⟨ad109, e109, hx109_0⟩ := Kd.at_int (Kd.R_reads' HO106.out).2.2 (ji14) p109 q109; cases e109; replace p109 := eq_true p109; replace q109 := eq_true q109; have p20 : 0 ≤ (0 : Int) := (by omega); have q20 : 0 < a2.size := (by have : (0 : Int) < (a2.size : Int) := of_decide_eq_true (by first | (with_reducible assumption) | assumption); omega); have hx20 : ∀ h : 0 < a2.size, ((a2[0]'h).toNat : Int) = bt a2 0 := bt_at a2 0; clear p20; have qi20 : (0 < (a2.size : Int)) = True := eq_true (of_decide_eq_true (by first | (with_reducible assumption) | assumption)); replace q20 := eq_true q20; obtain ⟨Ao24, co24, eo24⟩ := Kd.R_slice HO108.out; subst eo24; have p110 : 0 ≤ ((ji14) : Int) := of_decide_eq_true (by first | (with_reducible assumption) | assumption); have q110 : (ji14) < (t104.length : Int) := of_decide_eq_true (by first | (with_reducible assumption) | assumption); obtain ⟨ad110, e110, hx110_0⟩ := Kd.at_int (Kd.R_reads' HO108.out).2.2 (ji14) p110 q110; cases e110; replace p110 := eq_true p110; replace q110 := eq_true q110))
          go_ret2
          exact ⟨by first | rfl | (simp [errW_none, errW_some] <;> rfl) | (simp only [← hji14]; first | rfl | (simp [errW_none, errW_some] <;> rfl)) | (simp [*, errW_none, errW_some] <;> rfl), by repeat (first | (with_reducible first | exact HB.out | apply below_alloc | apply pw_below_drewN | apply below_drew1) | exact HB.out)⟩
         ·
          rw [if_neg c21] at H
          exact absurd H (by simp)
       ·
        rw [if_neg c16] at H
        exact absurd H (by simp)
      ·
       rw [if_neg c15] at H
       exact absurd H (by simp)
     ·
      rw [if_neg c12] at H
      exact absurd H (by simp)
    ·
     rw [if_neg c9] at H
     exact absurd H (by simp)

end Go.Proofs.YtkbgfaeohmnjpaaDoor.P

-- printed by xprint.py
namespace Go.Proofs.YtkbgfaeohmnjpaaDoor.P
open Go.RowKit Go.Proofs.YtkbgfaeohmnjpaaDoorW.PrintWords Go.Proofs.YtkbgfaeohmnjpaaDoorW.PrintLast Go.Proofs.YtkbgfaeohmnjpaaDoorW.PrintMore
attribute [local go_sem] max2_int min2_int max_two min_two max_three min_three max_four min_four   -- for this text's walks alone
set_option linter.unusedVariables false
set_option linter.unusedSimpArgs false

/-! ### laws_FnExactCountShortest: function 6 -/
def laws_FnExactCountShortest.f (k : Nat) (a0 : ByteArray) (a1 : ByteArray) (a2 : ByteArray) : Option (Bool) := if (a0.size : Int) > 1048576 then (some true) else (if (a1.size : Int) > 1048576 then (some true) else (if (a2.size : Int) > 1048576 then (some true) else ((spec_CountShortest.f k a0 a1 a2).bind fun bt101 => ((impl_CountShortest.f k a0 a1 a2).bind fun bt103 => (if bt103.1 = bt101.1 then (if (bt103.2 != bt101.2) = true then (some false) else (some true)) else (some false))))))
theorem laws_FnExactCountShortest.mono : ∀ a0 a1 a2 k, LeO (laws_FnExactCountShortest.f k a0 a1 a2) (laws_FnExactCountShortest.f (k + 1) a0 a1 a2) := by
 intro a0 a1 a2 k
 unfold laws_FnExactCountShortest.f
 repeat' first
   | (with_reducible exact impl_CountShortest.mono _ _ _ _)
   | (with_reducible exact spec_CountShortest.mono _ _ _ _)
   | (with_reducible exact LeO.refl _)
   | (with_reducible exact LeO.none _)
   | (with_reducible refine LeO.ite ?_ ?_)
   | (with_reducible refine LeO.bind ?_ (fun _ => ?_))
   | exact impl_CountShortest.mono _ _ _ _
   | exact spec_CountShortest.mono _ _ _ _
   | exact LeO.none _
   | refine LeO.ite ?_ ?_
   | refine LeO.bind ?_ (fun _ => ?_)
set_option maxHeartbeats 8000000 in
set_option maxRecDepth 100000 in
theorem laws_FnExactCountShortest.calls (k : Nat) (a0 : ByteArray) (a1 : ByteArray) (a2 : ByteArray) (r : Bool) (w : World) (h : laws_FnExactCountShortest.f k a0 a1 a2 = some r) :
  Calls Tryd.prog 6 #[.string a0, .string a1, .string a2] w fun e w' => e = .returned (.bool r) ∧ Below w.heap.size w w' := by
 have HB := Aside0.mk (Below.refl w.heap.size w)
 have H : (if (a0.size : Int) > 1048576 then (some true) else (if (a1.size : Int) > 1048576 then (some true) else (if (a2.size : Int) > 1048576 then (some true) else ((spec_CountShortest.f k a0 a1 a2).bind fun bt101 => ((impl_CountShortest.f k a0 a1 a2).bind fun bt103 => (if bt103.1 = bt101.1 then (if (bt103.2 != bt101.2) = true then (some false) else (some true)) else (some false))))))) = some r := h
 clear h
 by_cases c4 : (a0.size : Int) > 1048576
 ·
  rw [if_pos c4] at H
  have c4b0 : decide (1048576 < (a0.size : Int)) = true := decide_eq_true c4
  have c4b1 : decide (1048576 < a0.size) = true := decide_eq_true (by omega)
  clear c4
  obtain rfl := Option.some.inj H
  go_enter Tryd.func6, Tryd.ntmps6
  go_wp2
  go_ret
  exact ⟨by first | rfl | (simp [errW_none, errW_some] <;> rfl) | (simp [*, errW_none, errW_some] <;> rfl), by repeat (first | (with_reducible first | exact HB.out | apply below_alloc | apply pw_below_drewN | apply below_drew1) | exact HB.out)⟩
 ·
  rw [if_neg c4] at H
  have c4b0 : decide (1048576 < (a0.size : Int)) = false := decide_eq_false c4
  have c4b1 : decide (1048576 < a0.size) = false := decide_eq_false (by omega)
  clear c4
  by_cases c5 : (a1.size : Int) > 1048576
  ·
   rw [if_pos c5] at H
   have c5b0 : decide (1048576 < (a1.size : Int)) = true := decide_eq_true c5
   have c5b1 : decide (1048576 < a1.size) = true := decide_eq_true (by omega)
   clear c5
   obtain rfl := Option.some.inj H
   go_enter Tryd.func6, Tryd.ntmps6
   go_wp2
   go_ret
   exact ⟨by first | rfl | (simp [errW_none, errW_some] <;> rfl) | (simp [*, errW_none, errW_some] <;> rfl), by repeat (first | (with_reducible first | exact HB.out | apply below_alloc | apply pw_below_drewN | apply below_drew1) | exact HB.out)⟩
  ·
   rw [if_neg c5] at H
   have c5b0 : decide (1048576 < (a1.size : Int)) = false := decide_eq_false c5
   have c5b1 : decide (1048576 < a1.size) = false := decide_eq_false (by omega)
   clear c5
   by_cases c6 : (a2.size : Int) > 1048576
   ·
    rw [if_pos c6] at H
    have c6b0 : decide (1048576 < (a2.size : Int)) = true := decide_eq_true c6
    have c6b1 : decide (1048576 < a2.size) = true := decide_eq_true (by omega)
    clear c6
    obtain rfl := Option.some.inj H
    go_enter Tryd.func6, Tryd.ntmps6
    go_wp2
    go_ret
    exact ⟨by first | rfl | (simp [errW_none, errW_some] <;> rfl) | (simp [*, errW_none, errW_some] <;> rfl), by repeat (first | (with_reducible first | exact HB.out | apply below_alloc | apply pw_below_drewN | apply below_drew1) | exact HB.out)⟩
   ·
    rw [if_neg c6] at H
    have c6b0 : decide (1048576 < (a2.size : Int)) = false := decide_eq_false c6
    have c6b1 : decide (1048576 < a2.size) = false := decide_eq_false (by omega)
    clear c6
    replace H := Option.bind_eq_some_iff.mp H
    obtain ⟨⟨t101, t102⟩, A70, H⟩ := H
    replace H : ((impl_CountShortest.f k a0 a1 a2).bind fun bt103 => (if bt103.1 = t101 then (if (bt103.2 != t102) = true then (some false) else (some true)) else (some false))) = some r := H
    have A7 := Aside0.mk A70
    clear A70
    replace H := Option.bind_eq_some_iff.mp H
    obtain ⟨⟨t103, t104⟩, A80, H⟩ := H
    replace H : (if t103 = t101 then (if (t104 != t102) = true then (some false) else (some true)) else (some false)) = some r := H
    have A8 := Aside0.mk A80
    clear A80
    by_cases c9 : t103 = t101
    ·
     rw [if_pos c9] at H
     have c9b0 : (t103 == t101) = true := beq_iff_eq.mpr c9
     have c9b1 : (t103 != t101) = false := bne_eq_false_iff_eq.mpr c9
     clear c9
     by_cases c10 : (t104 != t102) = true
     ·
      rw [if_pos c10] at H
      have c10b0 : (t104 != t102) = true := c10
      (try (have c10b1 : decide (t104 = t102) = false := by simpa using c10))
      (try (have c10b2 : (t104 == t102) = false := by simpa using c10))
      (try (have c10b3 : ¬ (t104 = t102) := by simpa using c10))
      clear c10
      obtain rfl := Option.some.inj H
      go_enter Tryd.func6, Tryd.ntmps6
      go_wp2_with (first | ((with_reducible refine gate_callee (f := 19) rfl ?_); refine goesL_ (some 24) rfl rfl Tryd.func19 (by kernel_rfl) rfl #[.string a0, .string a1, .string a2] rfl (by (try simp only [List.map_toArray, List.map_cons, List.map_nil]); first | done | rfl | (simp only [List.length_drop, List.length_take]; rfl)) ?_; (with_reducible refine (spec_CountShortest.calls k a0 a1 a2 t101 t102 _ A7.out).mono ?_); rintro e w11 ⟨rfl, hb⟩; refine ⟨_, rfl, ?_⟩; have n0_ := Aside0.mk (below_step (by repeat (first | (with_reducible first | exact HB.out | apply below_alloc | apply pw_below_drewN | apply below_drew1) | exact HB.out)) hb); clear HB; have HB := n0_; clear n0_; (try clear hb); (try clear hb2); (try clear hk); (try clear hi)) | ((with_reducible refine gate_callee (f := 20) rfl ?_); refine goesL_ (some 31) rfl rfl Tryd.func20 (by kernel_rfl) rfl #[.string a0, .string a1, .string a2] rfl (by (try simp only [List.map_toArray, List.map_cons, List.map_nil]); first | done | rfl | (simp only [List.length_drop, List.length_take]; rfl)) ?_; (with_reducible refine (impl_CountShortest.calls k a0 a1 a2 t103 t104 _ A8.out).mono ?_); rintro e w12 ⟨rfl, hb⟩; refine ⟨_, rfl, ?_⟩; have n0_ := Aside0.mk (below_step (by repeat (first | (with_reducible first | exact HB.out | apply below_alloc | apply pw_below_drewN | apply below_drew1) | exact HB.out)) hb); clear HB; have HB := n0_; clear n0_; (try clear hb); (try clear hb2); (try clear hk); (try clear hi)))
      go_ret
      exact ⟨by first | rfl | (simp [errW_none, errW_some] <;> rfl) | (simp [*, errW_none, errW_some] <;> rfl), by repeat (first | (with_reducible first | exact HB.out | apply below_alloc | apply pw_below_drewN | apply below_drew1) | exact HB.out)⟩
     ·
      rw [if_neg c10] at H
      have c10b0 : (t104 != t102) = false := by simpa using c10
      (try (have c10b1 : decide (t104 = t102) = true := by simpa using c10))
      (try (have c10b2 : (t104 == t102) = true := by simpa using c10))
      clear c10
      obtain rfl := Option.some.inj H
      go_enter Tryd.func6, Tryd.ntmps6
      go_wp2_with (first | ((with_reducible refine gate_callee (f := 19) rfl ?_); refine goesL_ (some 24) rfl rfl Tryd.func19 (by kernel_rfl) rfl #[.string a0, .string a1, .string a2] rfl (by (try simp only [List.map_toArray, List.map_cons, List.map_nil]); first | done | rfl | (simp only [List.length_drop, List.length_take]; rfl)) ?_; (with_reducible refine (spec_CountShortest.calls k a0 a1 a2 t101 t102 _ A7.out).mono ?_); rintro e w13 ⟨rfl, hb⟩; refine ⟨_, rfl, ?_⟩; have n0_ := Aside0.mk (below_step (by repeat (first | (with_reducible first | exact HB.out | apply below_alloc | apply pw_below_drewN | apply below_drew1) | exact HB.out)) hb); clear HB; have HB := n0_; clear n0_; (try clear hb); (try clear hb2); (try clear hk); (try clear hi)) | ((with_reducible refine gate_callee (f := 20) rfl ?_); refine goesL_ (some 31) rfl rfl Tryd.func20 (by kernel_rfl) rfl #[.string a0, .string a1, .string a2] rfl (by (try simp only [List.map_toArray, List.map_cons, List.map_nil]); first | done | rfl | (simp only [List.length_drop, List.length_take]; rfl)) ?_; (with_reducible refine (impl_CountShortest.calls k a0 a1 a2 t103 t104 _ A8.out).mono ?_); rintro e w14 ⟨rfl, hb⟩; refine ⟨_, rfl, ?_⟩; have n0_ := Aside0.mk (below_step (by repeat (first | (with_reducible first | exact HB.out | apply below_alloc | apply pw_below_drewN | apply below_drew1) | exact HB.out)) hb); clear HB; have HB := n0_; clear n0_; (try clear hb); (try clear hb2); (try clear hk); (try clear hi)))
      go_ret
      exact ⟨by first | rfl | (simp [errW_none, errW_some] <;> rfl) | (simp [*, errW_none, errW_some] <;> rfl), by repeat (first | (with_reducible first | exact HB.out | apply below_alloc | apply pw_below_drewN | apply below_drew1) | exact HB.out)⟩
    ·
     rw [if_neg c9] at H
     have c9b0 : (t103 == t101) = false := beq_eq_false_iff_ne.mpr c9
     have c9b1 : (t103 != t101) = true := bne_iff_ne.mpr c9
     obtain rfl := Option.some.inj H
     go_enter Tryd.func6, Tryd.ntmps6
     go_wp2_with (first | ((with_reducible refine gate_callee (f := 19) rfl ?_); refine goesL_ (some 24) rfl rfl Tryd.func19 (by kernel_rfl) rfl #[.string a0, .string a1, .string a2] rfl (by (try simp only [List.map_toArray, List.map_cons, List.map_nil]); first | done | rfl | (simp only [List.length_drop, List.length_take]; rfl)) ?_; (with_reducible refine (spec_CountShortest.calls k a0 a1 a2 t101 t102 _ A7.out).mono ?_); rintro e w15 ⟨rfl, hb⟩; refine ⟨_, rfl, ?_⟩; have n0_ := Aside0.mk (below_step (by repeat (first | (with_reducible first | exact HB.out | apply below_alloc | apply pw_below_drewN | apply below_drew1) | exact HB.out)) hb); clear HB; have HB := n0_; clear n0_; (try clear hb); (try clear hb2); (try clear hk); (try clear hi)) | ((with_reducible refine gate_callee (f := 20) rfl ?_); refine goesL_ (some 31) rfl rfl Tryd.func20 (by kernel_rfl) rfl #[.string a0, .string a1, .string a2] rfl (by (try simp only [List.map_toArray, List.map_cons, List.map_nil]); first | done | rfl | (simp only [List.length_drop, List.length_take]; rfl)) ?_; (with_reducible refine (impl_CountShortest.calls k a0 a1 a2 t103 t104 _ A8.out).mono ?_); rintro e w16 ⟨rfl, hb⟩; refine ⟨_, rfl, ?_⟩; have n0_ := Aside0.mk (below_step (by repeat (first | (with_reducible first | exact HB.out | apply below_alloc | apply pw_below_drewN | apply below_drew1) | exact HB.out)) hb); clear HB; have HB := n0_; clear n0_; (try clear hb); (try clear hb2); (try clear hk); (try clear hi)))
     go_ret
     exact ⟨by first | rfl | (simp [errW_none, errW_some] <;> rfl) | (simp [*, errW_none, errW_some] <;> rfl), by repeat (first | (with_reducible first | exact HB.out | apply below_alloc | apply pw_below_drewN | apply below_drew1) | exact HB.out)⟩

end Go.Proofs.YtkbgfaeohmnjpaaDoor.P

namespace Go.Proofs.YtkbgfaeohmnjpaaDoor
open Go.RowKit Go.Proofs.YtkbgfaeohmnjpaaDoor.P Go.Proofs.YtkbgfaeohmnjpaaDoorW.PrintWords Go.Proofs.YtkbgfaeohmnjpaaDoorW.PrintLast
/-- The pure statement of FnExactCountShortest. -/
def PureFnExactCountShortest : Prop := ∀ (a0 : ByteArray) (a1 : ByteArray) (a2 : ByteArray), a0.size ≤ 9223372036854775807 → a1.size ≤ 9223372036854775807 → a2.size ≤ 9223372036854775807 →  ∃ k, laws_FnExactCountShortest.f k a0 a1 a2 = some true
end Go.Proofs.YtkbgfaeohmnjpaaDoor

namespace Go.Proofs.YtkbgfaeohmnjpaaDoor
open Go.RowKit Go.Proofs.YtkbgfaeohmnjpaaDoorW.PrintWords
/-! Plain words for the pure statements: answers that stand from some number of rounds on. -/
theorem Ev.succ {α : Type} {g : Nat → Option α} {r : α} (h : Ev (fun k => g (k + 1)) r) : Ev g r := Ev.step (fun _ => rfl) h
theorem Ev.const {α : Type} {a : Option α} {r : α} (h : a = some r) : Ev (fun _ => a) r := ⟨0, fun _ _ => h⟩
theorem Ev.pos {α : Type} {c : Prop} [Decidable c] {g f : Nat → Option α} {r : α} (hc : c) (h : Ev g r) : Ev (fun k => if c then g k else f k) r := by simp only [if_pos hc]; exact h
theorem Ev.neg {α : Type} {c : Prop} [Decidable c] {g f : Nat → Option α} {r : α} (hc : ¬ c) (h : Ev f r) : Ev (fun k => if c then g k else f k) r := by simp only [if_neg hc]; exact h
theorem Ev.yes {α : Type} {c : Prop} [Decidable c] {g f : Nat → Option α} {r : α} (h : Ev g r) (hc : c := by first | omega | rfl | trivial | decide | simp | (simp; omega)) : Ev (fun k => if c then g k else f k) r := Ev.pos hc h
theorem Ev.no {α : Type} {c : Prop} [Decidable c] {g f : Nat → Option α} {r : α} (h : Ev f r) (hc : ¬ c := by first | omega | decide | simp | (simp; omega)) : Ev (fun k => if c then g k else f k) r := Ev.neg hc h
theorem Ev.bindc {α β : Type} {a : Option α} {x : α} {f : Nat → α → Option β} {r : β} (h : a = some x) (k : Ev (fun n => f n x) r) : Ev (fun n => a.bind (f n)) r := by subst h; exact k
theorem wrap_id {n : Int} (h1 : -9223372036854775808 ≤ n) (h2 : n ≤ 9223372036854775807) : wrap64 n = n := IntWalk.wrap64_in n ⟨h1, h2⟩
theorem wf_i64 {n : Int} (h : (Lit.int .i64 n).wf = true) : -9223372036854775808 ≤ n ∧ n ≤ 9223372036854775807 := by
  have e1 : IntKind.i64.min = -9223372036854775808 := rfl
  have e2 : IntKind.i64.max = 9223372036854775807 := rfl
  simp only [Lit.wf, e1, e2, Bool.and_eq_true, decide_eq_true_eq] at h
  exact h
theorem rd_nat (l : List Int) (j : Nat) (h : j < l.length) : rd l (j : Int) = l[j] := by unfold rd; simp [List.getD, h]
end Go.Proofs.YtkbgfaeohmnjpaaDoor

namespace Go.Proofs.YtkbgfaeohmnjpaaDoor
open Go.RowKit Go.Proofs.YtkbgfaeohmnjpaaDoorW.PrintWords
set_option linter.unusedSimpArgs false
set_option linter.unusedVariables false
/-! Strings as lists of bytes. -/
/-- A string's bytes. -/
def bl (s : ByteArray) : List UInt8 := s.data.toList
theorem bl_len (s : ByteArray) : s.size = (bl s).length := rfl
theorem bl_inj {s t : ByteArray} (h : bl s = bl t) : s = t := ByteArray.ext (Array.toList_inj.1 h)
theorem bl_toList (s : ByteArray) : s.toList = bl s := Go.ByteArray.toList_eq s
theorem bl_mk (a : Array UInt8) : bl ⟨a⟩ = a.toList := rfl
theorem mk_bl (s : ByteArray) : (⟨(bl s).toArray⟩ : ByteArray) = s := bl_inj (by simp [bl])
theorem bl_extract (s : ByteArray) (i j : Nat) : bl (s.extract i j) = ((bl s).drop i).take (j - i) := by simp [bl, ByteArray.data_extract]
theorem bl_append (s t : ByteArray) : bl (s ++ t) = bl s ++ bl t := by simp [bl, ByteArray.data_append]
theorem bl_nums (l : List Int) : bl (strOfNums l) = l.map fun n => UInt8.ofNat n.toNat := rfl
theorem bl_empty : bl (⟨#[]⟩ : ByteArray) = [] := rfl
theorem bt_nat (s : ByteArray) (i : Nat) (h : i < (bl s).length) : bt s (i : Int) = ((bl s)[i].toNat : Int) := by
  unfold bt
  have h' : ((i : Int)).toNat < s.size := by rw [Int.toNat_natCast]; exact h
  rw [dif_pos h']; rfl
theorem of_toNat (c : UInt8) : UInt8.ofNat ((c.toNat : Int)).toNat = c := by rw [Int.toNat_natCast]; simp
theorem bt_of (s : ByteArray) (i : Nat) (h : i < (bl s).length) : UInt8.ofNat (bt s (i : Int)).toNat = (bl s)[i] := by rw [bt_nat s i h]; exact of_toNat _
theorem byte_eq (c d : UInt8) : ((c.toNat : Int) = (d.toNat : Int)) ↔ c = d := by
  constructor
  · intro h; exact UInt8.toNat_inj.1 (by exact_mod_cast h)
  · intro h; rw [h]
theorem byte_lt (c d : UInt8) : ((c.toNat : Int) < (d.toNat : Int)) ↔ c < d := by rw [UInt8.lt_iff_toNat_lt]; omega
theorem byte_le (c d : UInt8) : ((c.toNat : Int) ≤ (d.toNat : Int)) ↔ c ≤ d := by rw [UInt8.le_iff_toNat_le]; omega
theorem dropWhile_nil {α : Type} (p : α → Bool) : ∀ l : List α, l.dropWhile p = [] ↔ l.all p = true
  | [] => by simp
  | x :: xs => by
    by_cases h : p x = true
    · simp [List.dropWhile_cons, h, dropWhile_nil p xs]
    · simp [List.dropWhile_cons, h]
theorem dropWhile_keeps {α : Type} (p : α → Bool) : ∀ l : List α, (l.dropWhile p).all p = l.all p
  | [] => rfl
  | x :: xs => by
    by_cases h : p x = true
    · simp only [List.dropWhile_cons, h, if_true, List.all_cons, Bool.true_and]; exact dropWhile_keeps p xs
    · simp [List.dropWhile_cons, h]
theorem trimS_nil (l cs : List UInt8) : Lib.trimS l cs = [] ↔ l.all (cs.contains ·) = true := by
  unfold Lib.trimS Lib.trimLeftS Lib.trimRightS
  rw [dropWhile_nil, List.all_reverse, dropWhile_keeps, List.all_reverse]
theorem indexByte_neg (l : List UInt8) (c : UInt8) : Lib.indexByte l c < 0 ↔ ¬ c ∈ l := by
  induction l with
  | nil => simp [Lib.indexByte]
  | cons b l ih =>
    have hge := Lib.indexByte_ge l c
    unfold Lib.indexByte
    by_cases h : b = c
    · subst h; simp
    · have h1 : (b == c) = false := by simpa using h
      rw [h1]
      have h2 : ¬ c = b := fun e => h e.symm
      simp only [Bool.false_eq_true, if_false, List.mem_cons, h2, false_or]
      by_cases e : Lib.indexByte l c = -1
      · simp only [e, beq_self_eq_true, if_true]
        have := ih.1 (by omega)
        simp [this]
      · have e' : (Lib.indexByte l c == -1) = false := by simpa using e
        rw [e']
        simp only [Bool.false_eq_true, if_false]
        have hp : ¬ Lib.indexByte l c < 0 := by omega
        have := mt ih.2 hp
        constructor
        · intro h3; omega
        · intro h3; exact absurd h3 this
/-- The letters. -/
def isLow (c : UInt8) : Bool := decide (97 ≤ c.toNat) && decide (c.toNat ≤ 122)
theorem u8_all (P : UInt8 → Prop) [DecidablePred P] (h : ∀ n, n < 256 → P (UInt8.ofNat n)) (c : UInt8) : P c := by
  have := h c.toNat c.toNat_lt
  rwa [show UInt8.ofNat c.toNat = c from by simp] at this
theorem low_contains (c : UInt8) : ([97, 98, 99, 100, 101, 102, 103, 104, 105, 106, 107, 108, 109, 110, 111, 112, 113, 114, 115, 116, 117, 118, 119, 120, 121, 122] : List UInt8).contains c = isLow c := by
  refine u8_all (fun c => _ = isLow c) ?_ c
  decide +kernel
theorem dig_contains (c : UInt8) : ([48, 49, 50, 51, 52, 53, 54, 55, 56, 57] : List UInt8).contains c = (decide (48 ≤ c.toNat) && decide (c.toNat ≤ 57)) := by
  refine u8_all (fun c => _ = (decide (48 ≤ c.toNat) && decide (c.toNat ≤ 57))) ?_ c
  decide +kernel
end Go.Proofs.YtkbgfaeohmnjpaaDoor

namespace Go.Proofs.YtkbgfaeohmnjpaaDoor
open Go.RowKit Go.Proofs.YtkbgfaeohmnjpaaDoor.P Go.Proofs.YtkbgfaeohmnjpaaDoorW.PrintWords
set_option linter.unusedSimpArgs false
set_option linter.unusedVariables false
theorem in_eq (n a b : Int) : impl_in.f n a b = some (decide (a ≤ n) && decide (n ≤ b)) := by
  unfold impl_in.f
  by_cases h : a ≤ n
  · rw [if_pos h]; simp [h]
  · rw [if_neg h]; simp [h]
theorem l1In_eq (n a b : Int) : spec_l1In.f n a b = some (decide (a ≤ n) && decide (n ≤ b)) := by
  unfold spec_l1In.f
  by_cases h : a ≤ n
  · rw [if_pos h]; simp [h]
  · rw [if_neg h]; simp [h]
end Go.Proofs.YtkbgfaeohmnjpaaDoor

namespace Go.Proofs.YtkbgfaeohmnjpaaDoor
open Go.RowKit Go.Proofs.YtkbgfaeohmnjpaaDoor.P Go.Proofs.YtkbgfaeohmnjpaaDoorW.PrintWords
set_option linter.unusedSimpArgs false
set_option linter.unusedVariables false
theorem over_eq (s cs : ByteArray) (h1 : s.size ≤ 9223372036854775807) (h2 : cs.size < 4294967281) (h3 : (bl cs).all (fun b => decide (b.toNat < 128)) = true) : impl_over.f s cs = some ((bl s).all ((bl cs).contains ·)) := by
  unfold impl_over.f strings_Trim.f
  rw [if_pos ⟨h1, h2, h3⟩]
  simp only [Option.bind_some]
  congr 1
  rw [bl_toList, bl_mk, List.toList_toArray]
  have := trimS_nil (bl s) (bl cs)
  unfold bl at this ⊢
  rw [Bool.eq_iff_iff, beq_iff_eq]
  exact this
/-- Is it a digit's sign? -/
def isDig (c : UInt8) : Bool := decide (48 ≤ c.toNat) && decide (c.toNat ≤ 57)
theorem overDig_eq (s : ByteArray) (h1 : s.size ≤ 9223372036854775807) : impl_over.f s (⟨#[48, 49, 50, 51, 52, 53, 54, 55, 56, 57]⟩ : ByteArray) = some ((bl s).all isDig) := by
  rw [over_eq s _ h1 (by decide) (by decide)]
  congr 1
  congr 1
  funext c
  exact dig_contains c
/-- Digits, of a length. -/
def digsB (l : List UInt8) (a b : Nat) : Bool := decide (a ≤ l.length) && decide (l.length ≤ b) && l.all isDig
theorem isDigits_eq (s : ByteArray) (a b : Nat) (h1 : s.size ≤ 9223372036854775807) : impl_isDigits.f s a b = some (digsB (bl s) a b) := by
  unfold impl_isDigits.f digsB
  rw [in_eq]
  have e : (decide ((a : Int) ≤ (s.size : Int)) && decide ((s.size : Int) ≤ (b : Int))) = (decide (a ≤ (bl s).length) && decide ((bl s).length ≤ b)) := by
    rw [bl_len]; congr 1 <;> (rw [decide_eq_decide]; omega)
  rw [e]
  simp only [Option.bind_some]
  cases (decide (a ≤ (bl s).length) && decide ((bl s).length ≤ b)) with
  | false => rfl
  | true => rw [if_pos rfl, overDig_eq s h1]; rfl
theorem isDig_at {l : List UInt8} (h : l.all isDig = true) (i : Nat) (hi : i < l.length) : 48 ≤ l[i].toNat ∧ l[i].toNat ≤ 57 := by
  have := List.all_eq_true.1 h _ (List.getElem_mem hi)
  unfold isDig at this
  simpa only [Bool.and_eq_true, decide_eq_true_eq] using this
end Go.Proofs.YtkbgfaeohmnjpaaDoor

namespace Go.Proofs.YtkbgfaeohmnjpaaDoor
open Go.RowKit Go.Proofs.YtkbgfaeohmnjpaaDoor.P Go.Proofs.YtkbgfaeohmnjpaaDoorW.PrintWords
set_option linter.unusedSimpArgs false
set_option linter.unusedVariables false
/-- Is it a piece? -/
def pieceB (l : List UInt8) : Bool := decide (l = [110]) || decide (l = [107]) || decide (l = [114]) || decide (l = [98])
theorem pieceB_of {s : ByteArray} (h : pieceB (bl s) = true) : s = ⟨#[110]⟩ ∨ s = ⟨#[107]⟩ ∨ s = ⟨#[114]⟩ ∨ s = ⟨#[98]⟩ := by
  unfold pieceB at h
  simp only [Bool.or_eq_true, decide_eq_true_eq] at h
  rcases h with ((h | h) | h) | h
  · exact .inl (bl_inj h)
  · exact .inr (.inl (bl_inj h))
  · exact .inr (.inr (.inl (bl_inj h)))
  · exact .inr (.inr (.inr (bl_inj h)))
theorem isPiece_eq (s : ByteArray) : impl_isPiece.f s = some (pieceB (bl s)) := by
  unfold impl_isPiece.f strings_Contains.f
  have e : (s.size : Int) = 1 ↔ (bl s).length = 1 := by rw [bl_len]; omega
  cases h : bl s with
  | nil => rw [if_neg (by rw [e, h]; simp)]; rfl
  | cons c r =>
    cases r with
    | cons d r => rw [if_neg (by rw [e, h]; simp)]; simp [pieceB]
    | nil =>
      rw [if_pos (by rw [e, h]; rfl), if_pos (by rw [bl_len, h]; rfl)]
      have hd : s.data.toList = [c] := h
      simp only [Option.bind_some, hd]
      congr 1
      refine u8_all (fun c => decide (0 ≤ Lib.indexByte [110, 107, 114, 98] c) = pieceB [c]) ?_ c
      decide +kernel
theorem wkPiece_eq (s : ByteArray) : spec_wkPiece.f s = some (pieceB (bl s)) := by
  unfold spec_wkPiece.f pieceB
  rw [bl_toList]
  by_cases h1 : bl s = [110]
  · rw [if_pos h1, decide_eq_true h1]; rfl
  · rw [if_neg h1, decide_eq_false h1]
    by_cases h2 : bl s = [107]
    · rw [if_pos h2, decide_eq_true h2]; rfl
    · rw [if_neg h2, decide_eq_false h2]
      by_cases h3 : bl s = [114]
      · rw [if_pos h3, decide_eq_true h3]; rfl
      · rw [if_neg h3, decide_eq_false h3]; simp only [Bool.false_or]; congr 1; rw [Bool.eq_iff_iff, beq_iff_eq, decide_eq_true_eq]
end Go.Proofs.YtkbgfaeohmnjpaaDoor

namespace Go.Proofs.YtkbgfaeohmnjpaaDoor
open Go.RowKit Go.Proofs.YtkbgfaeohmnjpaaDoor.P Go.Proofs.YtkbgfaeohmnjpaaDoorW.PrintWords
set_option linter.unusedSimpArgs false
set_option linter.unusedVariables false
theorem isDigit_eq (s : ByteArray) (h1 : s.size ≤ 9223372036854775807) : impl_isDigit.f s = some (digsB (bl s) 1 1) := by
  unfold impl_isDigit.f
  rw [show impl_isDigits.f s 1 1 = some (digsB (bl s) 1 1) from isDigits_eq s 1 1 h1]; rfl
theorem digit_of {s : ByteArray} (h : digsB (bl s) 1 1 = true) : ∃ d : Nat, d < 10 ∧ s = ⟨#[UInt8.ofNat (48 + d)]⟩ := by
  unfold digsB at h
  simp only [Bool.and_eq_true, decide_eq_true_eq] at h
  have hl : (bl s).length = 1 := by omega
  obtain ⟨c, hc⟩ := List.length_eq_one_iff.1 hl
  have hd := isDig_at h.2 0 (by omega)
  simp only [hc, List.getElem_cons_zero] at hd
  refine ⟨c.toNat - 48, by omega, bl_inj ?_⟩
  rw [hc, bl_mk]
  show [c] = [UInt8.ofNat (48 + (c.toNat - 48))]
  rw [show 48 + (c.toNat - 48) = c.toNat from by omega]; simp
theorem wkDigits_l0 (s : ByteArray) (hs : s.size ≤ 9223372036854775806) : ∀ (d i : Nat), i + d = s.size → Ev (fun k => spec_wkDigits.l0 k s i) (((bl s).drop i).all isDig)
  | 0, i, hi => by
    apply Ev.succ
    simp only [spec_wkDigits.l0]
    refine Ev.neg (by omega) (Ev.const ?_)
    rw [List.drop_of_length_le (by rw [← bl_len]; omega)]; rfl
  | d + 1, i, hi => by
    have hlt : i < (bl s).length := by rw [← bl_len]; omega
    apply Ev.succ
    simp only [spec_wkDigits.l0]
    refine Ev.pos (by omega) (Ev.pos (by omega) ?_)
    rw [wrap_id (by omega) (by omega), bt_nat s i hlt, List.drop_eq_getElem_cons hlt, List.all_cons]
    by_cases c1 : ((bl s)[i].toNat : Int) < 48
    · refine Ev.pos c1 (Ev.const ?_)
      have : isDig (bl s)[i] = false := by unfold isDig; rw [Bool.and_eq_false_iff]; left; rw [decide_eq_false_iff_not]; omega
      rw [this]; rfl
    · refine Ev.neg c1 ?_
      by_cases c2 : ((bl s)[i].toNat : Int) > 57
      · refine Ev.pos c2 (Ev.const ?_)
        have : isDig (bl s)[i] = false := by unfold isDig; rw [Bool.and_eq_false_iff]; right; rw [decide_eq_false_iff_not]; omega
        rw [this]; rfl
      · refine Ev.neg c2 ?_
        have : isDig (bl s)[i] = true := by unfold isDig; rw [Bool.and_eq_true, decide_eq_true_eq, decide_eq_true_eq]; omega
        rw [this, Bool.true_and]
        exact_mod_cast wkDigits_l0 s hs d (i + 1) (by omega)
theorem wkDigits_ev (s : ByteArray) : Ev (fun k => spec_wkDigits.f k s) (digsB (bl s) 1 40) := by
  unfold spec_wkDigits.f digsB
  refine Ev.bindc (l1In_eq _ _ _) ?_
  have e : (decide ((1 : Int) ≤ (s.size : Int)) && decide ((s.size : Int) ≤ 40)) = (decide (1 ≤ (bl s).length) && decide ((bl s).length ≤ 40)) := by
    rw [bl_len]; congr 1 <;> (rw [decide_eq_decide]; omega)
  rw [e]
  cases h : (decide (1 ≤ (bl s).length) && decide ((bl s).length ≤ 40)) with
  | false => exact Ev.no (Ev.now _)
  | true =>
    have : s.size ≤ 40 := by simp only [Bool.and_eq_true, decide_eq_true_eq] at h; rw [bl_len]; omega
    refine Ev.yes ?_
    rw [Bool.true_and]
    exact wkDigits_l0 s (by omega) s.size 0 (by omega)
theorem wkAsked_ev (a s : ByteArray) : Ev (fun k => spec_wkAsked.f k a s) (pieceB (bl a) && digsB (bl s) 1 1) := by
  unfold spec_wkAsked.f
  refine Ev.bindc (wkPiece_eq a) ?_
  cases pieceB (bl a) with
  | false => exact Ev.no (Ev.now _)
  | true =>
    refine Ev.yes (Ev.bind (wkDigits_ev s) ?_)
    rw [Bool.true_and]
    cases h : digsB (bl s) 1 40 with
    | false =>
      refine Ev.no (Ev.const ?_)
      have : digsB (bl s) 1 1 = false := by
        rw [Bool.eq_false_iff]; intro h'; rw [Bool.eq_false_iff] at h; apply h
        unfold digsB at h' ⊢
        simp only [Bool.and_eq_true, decide_eq_true_eq] at h' ⊢
        exact ⟨⟨by omega, by omega⟩, h'.2⟩
      rw [this]
    | true =>
      refine Ev.yes (Ev.const ?_)
      unfold digsB at h ⊢
      simp only [Bool.and_eq_true, decide_eq_true_eq] at h
      rw [h.2, Bool.and_true, bl_len]
      congr 1
      rw [Bool.eq_iff_iff, beq_iff_eq, Bool.and_eq_true, decide_eq_true_eq, decide_eq_true_eq]
      omega
end Go.Proofs.YtkbgfaeohmnjpaaDoor

/- FnExactCountShortest: both sides tell the same: over the functions that the walk computes. -/
namespace Go.Proofs.YtkbgfaeohmnjpaaDoor
open Go.RowKit Go.Proofs.YtkbgfaeohmnjpaaDoor.P Go.Proofs.YtkbgfaeohmnjpaaDoorW.PrintWords
set_option linter.unusedSimpArgs false
namespace CountShortest
theorem all_n : ∀ d e : Fin 10, laws_FnExactCountShortest.f 400 ⟨#[110]⟩ ⟨#[UInt8.ofNat (48 + d.val)]⟩ ⟨#[UInt8.ofNat (48 + e.val)]⟩ = some true := by decide +kernel
theorem all_k : ∀ d e : Fin 10, laws_FnExactCountShortest.f 400 ⟨#[107]⟩ ⟨#[UInt8.ofNat (48 + d.val)]⟩ ⟨#[UInt8.ofNat (48 + e.val)]⟩ = some true := by decide +kernel
theorem all_r : ∀ d e : Fin 10, laws_FnExactCountShortest.f 400 ⟨#[114]⟩ ⟨#[UInt8.ofNat (48 + d.val)]⟩ ⟨#[UInt8.ofNat (48 + e.val)]⟩ = some true := by decide +kernel
theorem all_b : ∀ d e : Fin 10, laws_FnExactCountShortest.f 400 ⟨#[98]⟩ ⟨#[UInt8.ofNat (48 + d.val)]⟩ ⟨#[UInt8.ofNat (48 + e.val)]⟩ = some true := by decide +kernel
/-- Where both sides tell nothing the law holds. -/
theorem bad_ev (a s t : ByteArray) (hs : s.size ≤ 9223372036854775807) (ht : t.size ≤ 9223372036854775807) (h : (pieceB (bl a) && digsB (bl s) 1 1 && digsB (bl t) 1 1) = false) : Ev (fun k => spec_CountShortest.f k a s t) (0, false) ∧ Ev (fun k => impl_FirstWalk.f k a s t) (⟨#[]⟩, false) := by
  constructor
  · unfold spec_CountShortest.f
    refine Ev.bind (wkAsked_ev a s) ?_
    cases h1 : (pieceB (bl a) && digsB (bl s) 1 1) with
    | false =>
      refine Ev.no (Ev.succ ?_)
      simp only [spec_CountShortest.j0]
      exact Ev.yes (Ev.now _)
    | true =>
      refine Ev.yes (Ev.bind (wkAsked_ev a t) (Ev.succ ?_))
      have hp : pieceB (bl a) = true := by simp only [Bool.and_eq_true] at h1; exact h1.1
      rw [h1, Bool.true_and] at h
      rw [hp, h]
      simp only [spec_CountShortest.j0]
      exact Ev.yes (Ev.now _)
  · unfold impl_FirstWalk.f
    refine Ev.bindc (isPiece_eq a) ?_
    cases h1 : pieceB (bl a) with
    | false =>
      refine Ev.no (Ev.succ ?_)
      simp only [impl_FirstWalk.j0]
      exact Ev.yes (Ev.now _)
    | true =>
      refine Ev.yes (Ev.bindc (isDigit_eq s hs) ?_)
      cases h2 : digsB (bl s) 1 1 with
      | false =>
        refine Ev.no (Ev.succ ?_)
        simp only [impl_FirstWalk.j0]
        exact Ev.yes (Ev.now _)
      | true =>
        refine Ev.yes (Ev.bindc (isDigit_eq t ht) (Ev.succ ?_))
        rw [h1, h2] at h
        simp only [Bool.true_and] at h
        rw [h]
        simp only [impl_FirstWalk.j0]
        exact Ev.yes (Ev.now _)
end CountShortest
open CountShortest in
theorem pure_FnExactCountShortest : PureFnExactCountShortest := by
  intro a s t h0 h1 h2
  cases h : (pieceB (bl a) && digsB (bl s) 1 1 && digsB (bl t) 1 1) with
  | true =>
    simp only [Bool.and_eq_true] at h
    obtain ⟨⟨hp, hd⟩, he⟩ := h
    obtain ⟨d, hd10, rfl⟩ := digit_of hd
    obtain ⟨e, he10, rfl⟩ := digit_of he
    rcases pieceB_of hp with rfl | rfl | rfl | rfl
    · exact ⟨400, all_n ⟨d, hd10⟩ ⟨e, he10⟩⟩
    · exact ⟨400, all_k ⟨d, hd10⟩ ⟨e, he10⟩⟩
    · exact ⟨400, all_r ⟨d, hd10⟩ ⟨e, he10⟩⟩
    · exact ⟨400, all_b ⟨d, hd10⟩ ⟨e, he10⟩⟩
  | false =>
    obtain ⟨b1, b2⟩ := bad_ev a s t h1 h2 h
    refine Ev.rounds (g := fun k => laws_FnExactCountShortest.f k a s t) ?_
    unfold laws_FnExactCountShortest.f
    rcases Nat.lt_or_ge 1048576 a.size with c0 | c0
    · exact Ev.pos (by omega) (Ev.now _)
    refine Ev.neg (by omega) ?_
    rcases Nat.lt_or_ge 1048576 s.size with c1 | c1
    · exact Ev.pos (by omega) (Ev.now _)
    refine Ev.neg (by omega) ?_
    rcases Nat.lt_or_ge 1048576 t.size with c2 | c2
    · exact Ev.pos (by omega) (Ev.now _)
    refine Ev.neg (by omega) (Ev.bind b1 ?_)
    refine Ev.bind (a := (0, false)) ?_ (Ev.yes (Ev.no (Ev.now _)))
    unfold impl_CountShortest.f
    exact Ev.bind b2 (Ev.no (Ev.now _))
end Go.Proofs.YtkbgfaeohmnjpaaDoor

namespace Go.Proofs.YtkbgfaeohmnjpaaDoor
open Go.RowKit Go.Proofs.YtkbgfaeohmnjpaaDoorW.PrintWords Go.ChangeShapes Go.WideShapes

theorem C_scalar {α : Type} {enc : α → Value} {h1 : ∀ x, (enc x).oneCell' = true} {w : World} {A : Option Addr} {l : List α} (hn : l.length ≤ 9223372036854775807)
    (hcell : 0 < l.length → ∃ ad, A = some ad ∧ ∀ j x, l[j]? = some x → w.cell? (ad.add j) = some (enc x)) : (Kd.scalar enc h1).C w A l.length l := by
  refine ⟨rfl, hn, fun hp => ?_⟩
  obtain ⟨ad, hA, hc⟩ := hcell hp
  refine ⟨ad, hA, fun j x hx => ⟨[enc x], rfl, rfl, fun i u hu => ?_⟩⟩
  match i, hu with
  | 0, hu =>
    have : enc x = u := by simpa using hu
    subst this
    show w.cell? (ad.add (j * 1 + 0)) = _
    rw [Nat.mul_one, Nat.add_zero]
    exact hc j x hx
  | i + 1, hu => simp at hu

section
variable {H : Type} {enc : TypeId × Value → H} {P : Program} {w : World} {base : Nat} {spare : Nat → Bool} {held : Bool}

/-- A cell that reads at a slice of whole numbers. -/
theorem read_ints {t e : TypeId} {k : IntKind} {fuel : Nat} {v : Value} {y : DataW H × List MemPlace} (ht : P.underlying t = some (.slice e)) (he : P.underlying e = some (.int k)) (hc : P.cellsOf e = 1)
    (hf : DataW.trod enc P w base spare held fuel t [v] = some y) :
    ∃ (A : Option Addr) (c : Nat) (l : List Int), v = .slice A l.length c ∧ l.length ≤ c ∧ (∀ x ∈ l, (Lit.int k x).wf = true) ∧ (Kd.int k).C w A l.length l := by
  rcases open_ints ht he hc hf with ⟨hcs, _⟩ | ⟨a, len, cap, zs, hcs, _, hl, hm, hz, _, hcell, hwf⟩
  · obtain rfl : v = .slice none 0 0 := by simpa using hcs
    exact ⟨none, 0, [], rfl, Nat.le_refl _, fun x hx => by simp at hx, rfl, by simp, fun h => absurd h (by simp)⟩
  · obtain rfl : v = .slice (some a) len cap := by simpa using hcs
    have hlz : len ≤ zs.length := by rw [hz]; split <;> omega
    have hlen : (zs.take len).length = len := by rw [List.length_take]; omega
    refine ⟨some a, cap, zs.take len, by rw [hlen], by rw [hlen]; exact hl, fun x hx => hwf x (List.mem_of_mem_take hx), ?_⟩
    refine C_scalar (by rw [hlen]; unfold maxLen at hm; omega) (fun hp => ⟨a, rfl, fun j x hj => ?_⟩)
    have hj' : j < len := by have := (List.getElem?_eq_some_iff.1 hj).1; rw [hlen] at this; exact this
    rw [hcell j (by omega)]
    rw [List.getElem?_take_of_lt hj'] at hj
    rw [List.getD_eq_getElem?_getD, hj]; rfl

/-- A cell that reads at a slice of strings. -/
theorem read_strs {t e : TypeId} {fuel : Nat} {v : Value} {y : DataW H × List MemPlace} (ht : P.underlying t = some (.slice e)) (he : P.underlying e = some .string) (hc : P.cellsOf e = 1)
    (hf : DataW.trod enc P w base spare held fuel t [v] = some y) :
    ∃ (A : Option Addr) (c : Nat) (l : List ByteArray), v = .slice A l.length c ∧ l.length ≤ c ∧ (∀ s ∈ l, s.size ≤ 9223372036854775807) ∧ Kd.string.C w A l.length l := by
  rcases open_strings ht he hc hf with ⟨hcs, _⟩ | ⟨a, len, cap, zs, hcs, _, hl, hm, hz, _, hcell, hwf⟩
  · obtain rfl : v = .slice none 0 0 := by simpa using hcs
    exact ⟨none, 0, [], rfl, Nat.le_refl _, fun x hx => by simp at hx, rfl, by simp, fun h => absurd h (by simp)⟩
  · obtain rfl : v = .slice (some a) len cap := by simpa using hcs
    have hlz : len ≤ zs.length := by rw [hz]; split <;> omega
    have hlen : (zs.take len).length = len := by rw [List.length_take]; omega
    refine ⟨some a, cap, zs.take len, by rw [hlen], by rw [hlen]; exact hl, fun x hx => by have := hwf x (List.mem_of_mem_take hx); unfold maxLen at this; omega, ?_⟩
    refine C_scalar (by rw [hlen]; unfold maxLen at hm; omega) (fun hp => ⟨a, rfl, fun j x hj => ?_⟩)
    have hj' : j < len := by have := (List.getElem?_eq_some_iff.1 hj).1; rw [hlen] at this; exact this
    rw [hcell j (by omega)]
    rw [List.getElem?_take_of_lt hj'] at hj
    rw [List.getD_eq_getElem?_getD, hj]; rfl

theorem read_int {t : TypeId} {k : IntKind} {fuel : Nat} {v : Value} {y : DataW H × List MemPlace} (ht : P.underlying t = some (.int k))
    (hf : DataW.trod enc P w base spare held fuel t [v] = some y) : ∃ n : Int, v = .int k n ∧ (Lit.int k n).wf = true := by
  obtain ⟨n, e1, _, h⟩ := DataW.trod_int ht hf
  exact ⟨n, by simpa using e1, h⟩
end

/-- The cells of a datum that holds numbers alone, an array's elements being numbers or structs of numbers. -/
def litsOf : DataW Unit → List Value
  | .lit (.int k n) => [.int k n]
  | .agg l => l.flatMap fun
    | .lit (.int k n) => [.int k n]
    | .agg l2 => l2.flatMap fun
      | .lit (.int k n) => [.int k n]
      | _ => []
    | _ => []
  | _ => []
end Go.Proofs.YtkbgfaeohmnjpaaDoor

/- FnExactCountShortestCardSaid: the law 'FnExactCountShortest' answers true for every input, and leaves its arguments as they were. The row and its tied card, over the walk of its calls and the pure statement. -/
namespace Go.Proofs.YtkbgfaeohmnjpaaDoor.fnExactCountShortest
open Go.ChangeShapes Go.WideShapes Go.ChangeAt Go.RowKit Go.Proofs.YtkbgfaeohmnjpaaDoor.P Go.Proofs.YtkbgfaeohmnjpaaDoorW.PrintWords
open Go.ChangeMaps (open_string shut_string)
set_option linter.unusedVariables false
theorem own : ownKnob Tryd.prog.godebug = none := by kernel_rfl
/-- What the row lists of package-level variables. -/
noncomputable def laidList : List (String × DataW Unit) := [("unicode/utf8.acceptRanges", Rows.laid_unicode_utf8_acceptRanges), ("unicode/utf8.first", Rows.laid_unicode_utf8_first)]
/-- A world that meets it: the settled one, the listed variables laid. -/
noncomputable def laidWorld (os : Os) : World :=
  let w0 := World.holding Tryd.prog os ⟨#[], #[], []⟩
  { w0 with heap := ((w0.heap.modify 2 fun o => match o with | .cells _ t frozen => .cells (litsOf Rows.laid_unicode_utf8_acceptRanges).toArray t frozen | o => o).modify 1 fun o => match o with | .cells _ t frozen => .cells (litsOf Rows.laid_unicode_utf8_first).toArray t frozen | o => o) }
theorem laidWorld_met (os : Os) (args : Array Value) : laidMetH Tryd.prog laidList ((laidWorld os).forCall (fun _ _ => 0) ⟨#[], args, []⟩).memory :=
  laidMetH_of_parts3 (fuel := 8) (laidMet_of_run' 8 (by kernel_rfl) (by kernel_rfl)) (by kernel_rfl) (by kernel_rfl)
set_option maxRecDepth 100000 in
theorem lifted (os : Os) (started : os.Started) (H : Type) (enc : TypeId × Value → H) :
    ReturnsInHanded {} Tryd.checked os 6 .any (fun w args => (Rows.fnExactCountShortestSpec.pre enc Tryd.prog Tryd.f6 [] false w args ∧ laidMetH Tryd.prog laidList w) ∧ sizedMet enc Tryd.prog Tryd.f6 (OpenSpec.ofChange Rows.fnExactCountShortestSpec) false w args)
      (Rows.fnExactCountShortestSpec.post enc Tryd.prog Tryd.f6 false true false false) := by
  refine returnsInHanded_of_change_and (C := Tryd.checked) (X := fun w _ => laidMetH Tryd.prog laidList w) (fun _ _ _ hh h => h.of_heap hh) own started (by kernel_rfl) Tryd.func6
    (ChangeSpec.witness_at (enc := enc) (C := Tryd.checked) (os := os) (X := fun w _ => laidMetH Tryd.prog laidList w) false (laidWorld os) #[.string ByteArray.empty, .string ByteArray.empty, .string ByteArray.empty] 8 rfl (by kernel_rfl) (by kernel_rfl) (by kernel_rfl) (by kernel_rfl) (by kernel_rfl) (laidWorld_met os _)) ?_
  intro W base args ds gs before hval0 hW _ _ hL _
  have hval : ∀ (j : Nat) t v, Tryd.f6.params[j]? = some t → args[j]? = some v → Value.okWide Tryd.prog W .any base t v := hval0
  have hW' := hW
  obtain ⟨p, q, hA0, hV, rfl, hfz, hnd⟩ := hW
  have hA : DataW.TrodAll enc Tryd.prog W 0 (fun _ => true) true Tryd.f6.params.toList args.toList ds p := hA0
  rw [Tryd.params6] at hA hval
  obtain ⟨v0, vs0, d0, ds0, p0, q0, hargs, rfl, rfl, h0, r0⟩ := trodAll_cons hA
  obtain ⟨v1, vs1, d1, ds1, p1, q1, rfl, rfl, rfl, h1, r1⟩ := trodAll_cons r0
  obtain ⟨v2, vs2, d2, ds2, p2, q2, rfl, rfl, rfl, h2, r2⟩ := trodAll_cons r1
  obtain ⟨rfl, rfl, rfl⟩ := trodAll_nil r2
  obtain rfl : args = #[v0, v1, v2] := by cases args; simp_all
  obtain ⟨rfl, rfl⟩ := trodVars_none hV
  obtain ⟨a0, rfl, rfl, rfl, y0⟩ := open_string Tryd.underlying9 (hval 0 9 v0 rfl rfl) h0
  have z0 : a0.size ≤ 9223372036854775807 := by unfold maxLen at y0; omega
  obtain ⟨a1, rfl, rfl, rfl, y1⟩ := open_string Tryd.underlying9 (hval 1 9 v1 rfl rfl) h1
  have z1 : a1.size ≤ 9223372036854775807 := by unfold maxLen at y1; omega
  obtain ⟨a2, rfl, rfl, rfl, y2⟩ := open_string Tryd.underlying9 (hval 2 9 v2 rfl rfl) h2
  have z2 : a2.size ≤ 9223372036854775807 := by unfold maxLen at y2; omega
  clear hA0 hval0
  simp only [List.append_nil] at hW'
  obtain ⟨k, hk⟩ := pure_FnExactCountShortest a0 a1 a2 z0 z1 z2
  refine (laws_FnExactCountShortest.calls k a0 a1 a2 true W  hk).mono fun e W' ⟨he, bel0⟩ => ?_
  have bel : Below W.heap.size W W' := bel0
  subst he
  exact ⟨_, rfl, _, _, _, [], [], [], hW', trodAll_mk1 (shut_bool Tryd.underlying4 _), (trodAll_cons_mk (shut_string Tryd.underlying9 y0) (trodAll_cons_mk (shut_string Tryd.underlying9 y1) (trodAll_cons_mk (shut_string Tryd.underlying9 y2) trodAll_mk0))), rfl, bel.frame _, fun h => by cases h⟩
theorem over : Rows.fnExactCountShortestRow.holds Tryd.pinned (OpenSpec.ofChange Rows.fnExactCountShortestSpec) :=
  OpenClaim.holds_of_wide 6 Tryd.f6 rfl rfl rfl rfl rfl rfl rfl ⟨rfl, rfl, rfl, rfl, rfl⟩ rfl rfl rfl rfl rfl (by kernel_rfl) Tryd.func6 (by kernel_rfl)
    (of_decide_eq_true (by kernel_rfl)) (by unfold Func.isWrapper; first | (rw [if_pos (by decide +kernel)]; kernel_rfl) | (rw [if_neg (by decide +kernel)]; exact ⟨rfl, rfl⟩))
    (fun os started H enc _ => lifted os started H enc)
theorem proved : Rows.FnExactCountShortestSaid := over
theorem card : Rows.FnExactCountShortestCardSaid :=
  Claim7.holds_tied_plain_at .later [] [.data, .pinned] true (true, "f1359b9733b28c68ff5911f94ef50e19626b008ed7952287efa7b5444ce02548") false
    proved (fun _ h => by cases h) (by kernel_rfl) (fun _ h => by cases h) fnExactCountShortest_row_tie rfl ⟨rfl, rfl⟩ (by kernel_rfl) rfl
    (fun f fn hf hfn => by
      obtain rfl : f = 6 := Option.some.inj ((show Tryd.prog.funcNamed "loop.example/g01350/laws.FnExactCountShortest" = some 6 by kernel_rfl).symm.trans hf) |>.symm
      obtain rfl : fn = Tryd.f6 := (Option.some.inj (Tryd.func6.symm.trans hfn)).symm
      exact ⟨by kernel_rfl, fun j t ht => by
        rw [Tryd.params6] at ht
        have hm : t ∈ #[9, 9, 9] := Array.mem_of_getElem? ht
        have hm : t ∈ [9, 9, 9] := by simpa using hm
        have hall : ([9, 9, 9].all fun u => !Tryd.prog.wantsStandIn u) = true := by kernel_rfl
        exact (show Tryd.prog.wantsStandIn t = false by simpa using List.all_eq_true.1 hall t hm)⟩)
    (by kernel_rfl)
#print axioms card
end Go.Proofs.YtkbgfaeohmnjpaaDoor.fnExactCountShortest
namespace Go.Proofs.YtkbgfaeohmnjpaaDoor
theorem fnExactCountShortest_holds : Rows.FnExactCountShortestCardSaid := fnExactCountShortest.card
end Go.Proofs.YtkbgfaeohmnjpaaDoor

