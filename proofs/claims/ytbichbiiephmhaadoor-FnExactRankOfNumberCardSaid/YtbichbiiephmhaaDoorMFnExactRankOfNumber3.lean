/- Part 3 of 3 of the proof of: FnExactRankOfNumberCardSaid: the law 'FnExactRankOfNumber' answers true for every input, and leaves its arguments as they were. The row and its tied card, over the walk of its calls and the pure statement. -/
import Derived.Test.YtbichbiiephmhaaDoorMFnExactRankOfNumber1
import Derived.Test.YtbichbiiephmhaaDoorMFnExactRankOfNumber2
import Derived.Test.YtbichbiiephmhaaDoorWWords
import Derived.Test.YtbichbiiephmhaaDoorWMore
import Derived.Laws.Strings
import Derived.Lib.SlTrimSet
import Derived.Lib.Bytealg
import Derived.WalkKit
import Derived.ProofKit
import Derived.OpenShut
import Derived.ShutString
import Derived.ChangeOld
import Derived.Below
import Derived.SizedLaws
import Derived.ChangeSlices
import Derived.SliceStrings
import Derived.Lib.SmallJoins
import Derived.LaidLaws
import Derived.LaidHandle
import Derived.LaidMore
import Derived.Test.YtbichbiiephmhaaDoorRows
import Derived.Test.YtbichbiiephmhaaDoorCards
import Derived.Test.YtbichbiiephmhaaDoorTie
import Derived.Handed
import Derived.SevenTiedAt
import Derived.Stop.Joined
-- printed by xprint.py
namespace Go.Proofs.YtbichbiiephmhaaDoor.P
open Go.RowKit Go.Proofs.YtbichbiiephmhaaDoorW.PrintWords Go.Proofs.YtbichbiiephmhaaDoorW.PrintLast Go.Proofs.YtbichbiiephmhaaDoorW.PrintMore
attribute [local go_sem] max2_int min2_int max_two min_two max_three min_three max_four min_four   -- for this text's walks alone
set_option linter.unusedVariables false
set_option linter.unusedSimpArgs false

/-! ### spec_wkWalk: function 47 -/
def spec_wkWalk.l0 : Nat → ByteArray → ByteArray → Int → Option (Bool)
  | 0, _, _, _ => none
  | k + 1, x0, x1, x5 => if x5 < (x1.size : Int) then (if 0 ≤ (wrap64 (x5 - 1)) then (if (wrap64 (x5 - 1)) < (x1.size : Int) then (if 0 ≤ x5 then ((spec_wkGoes.f k x0 (bt x1 (wrap64 (x5 - 1))) (bt x1 x5)).bind fun t102 => (if t102 = true then (spec_wkWalk.l0 k x0 x1 (wrap64 (x5 + 1))) else (some false))) else (none)) else (none)) else (none)) else (some true)
def spec_wkWalk.f (k : Nat) (a0 : ByteArray) (a1 : ByteArray) : Option (Bool) := (spec_wkDigits.f k a1).bind fun t101 => (if t101 = true then (spec_wkWalk.l0 k a0 a1 1) else (some false))
theorem spec_wkWalk.mono_l : ∀ k, (∀ y0 y1 y2, LeO (spec_wkWalk.l0 k y0 y1 y2) (spec_wkWalk.l0 (k + 1) y0 y1 y2))
  | 0 => fun _ _ _ r h => by simp [spec_wkWalk.l0] at h
  | k + 1 => by
    have ih0 := spec_wkWalk.mono_l k
    · intro y0 y1 y2
      unfold spec_wkWalk.l0
      repeat' first
      | (with_reducible exact ih0 _ _ _)
      | (with_reducible exact spec_wkDigits.mono _ _)
      | (with_reducible exact spec_wkGoes.mono _ _ _ _)
      | (with_reducible exact LeO.refl _)
      | (with_reducible exact LeO.none _)
      | (with_reducible refine LeO.ite ?_ ?_)
      | (with_reducible refine LeO.bind ?_ (fun _ => ?_))
      | exact ih0 _ _ _
      | exact spec_wkDigits.mono _ _
      | exact spec_wkGoes.mono _ _ _ _
      | exact LeO.none _
      | refine LeO.ite ?_ ?_
      | refine LeO.bind ?_ (fun _ => ?_)
theorem spec_wkWalk.mono : ∀ a0 a1 k, LeO (spec_wkWalk.f k a0 a1) (spec_wkWalk.f (k + 1) a0 a1) := by
  intro a0 a1 k
  have ih0 := spec_wkWalk.mono_l k
  unfold spec_wkWalk.f
  repeat' first
      | (with_reducible exact ih0 _ _ _)
      | (with_reducible exact spec_wkDigits.mono _ _)
      | (with_reducible exact spec_wkGoes.mono _ _ _ _)
      | (with_reducible exact LeO.refl _)
      | (with_reducible exact LeO.none _)
      | (with_reducible refine LeO.ite ?_ ?_)
      | (with_reducible refine LeO.bind ?_ (fun _ => ?_))
      | exact ih0 _ _ _
      | exact spec_wkDigits.mono _ _
      | exact spec_wkGoes.mono _ _ _ _
      | exact LeO.none _
      | refine LeO.ite ?_ ?_
      | refine LeO.bind ?_ (fun _ => ?_)
set_option maxHeartbeats 8000000 in
set_option maxRecDepth 100000 in
theorem spec_wkWalk.calls (k : Nat) (a0 : ByteArray) (a1 : ByteArray) (r : Bool) (w : World) (h : spec_wkWalk.f k a0 a1 = some r) :
    Calls Tryd.prog 47 #[.string a0, .string a1] w fun e w' => e = .returned (.bool r) ∧ Drawn0 w w' := by
  have H : ((spec_wkDigits.f k a1).bind fun t101 => (if t101 = true then (spec_wkWalk.l0 k a0 a1 1) else (some false))) = some r := h
  clear h
  replace H := Option.bind_eq_some_iff.mp H
  obtain ⟨t101, A30, H⟩ := H
  replace H : (if t101 = true then (spec_wkWalk.l0 k a0 a1 1) else (some false)) = some r := H
  have A3 := Aside0.mk A30
  clear A30
  by_cases c4 : t101 = true
  · subst c4
    have H1 : (spec_wkWalk.l0 k a0 a1 1) = some r := by rw [if_pos rfl] at H; exact H
    clear H
    have H := H1
    clear H1
    have H' := Aside0.mk H
    clear H
    go_enter Tryd.func47, Tryd.ntmps47
    go_wp2_with (first | (go_at_call 33; (with_reducible refine (spec_wkDigits.calls k a1 true _ A3.out).mono ?_); rintro e w' ⟨rfl, ⟨nd, rfl⟩⟩; (try first | exact ⟨rfl, _, World.drewN_drewN _ _ _⟩ | exact ⟨rfl, _, Eq.trans (World.drewN_drewN _ _ _) (congrArg (World.drewN _) (Nat.add_assoc _ _ _))⟩)))
    repeat (go_quiet (first | (go_at_call 33; (with_reducible refine (spec_wkDigits.calls k a1 true _ A3.out).mono ?_); rintro e w' ⟨rfl, ⟨nd, rfl⟩⟩; (try first | exact ⟨rfl, _, World.drewN_drewN _ _ _⟩ | exact ⟨rfl, _, Eq.trans (World.drewN_drewN _ _ _) (congrArg (World.drewN _) (Nat.add_assoc _ _ _))⟩))); try go_wp2_with (first | (go_at_call 33; (with_reducible refine (spec_wkDigits.calls k a1 true _ A3.out).mono ?_); rintro e w' ⟨rfl, ⟨nd, rfl⟩⟩; (try first | exact ⟨rfl, _, World.drewN_drewN _ _ _⟩ | exact ⟨rfl, _, Eq.trans (World.drewN_drewN _ _ _) (congrArg (World.drewN _) (Nat.add_assoc _ _ _))⟩))))
    go_loopg [5] k (fun kq v5 w' => ∃ (x5_1 : Int), v5 = .int .i64 x5_1 ∧ Aside0 (spec_wkWalk.l0 kq a0 a1 x5_1 = some r) ∧ Aside0 (kq ≤ k) ∧ Drawn0 w w')
    case atStart => exact ⟨(1), (by first | rfl | (simp; done) | (simp [*]; done)), H', ⟨Nat.le_refl _⟩, by repeat (first | exact Drawn0.refl _ | apply Drawn0.step)⟩
    case round =>
      clear H'
      try clear p2
      try clear c4
      obtain ⟨x5_1, rfl, HA, HK1, ⟨m1, rfl⟩⟩ := hrel
      cases gk with
      | zero => exact absurd HA.out (by simp [spec_wkWalk.l0])
      | succ k1 =>
        have H := HA.out
        clear HA
        simp only [spec_wkWalk.l0] at H
        by_cases c5 : x5_1 < (a1.size : Int)
        · rw [if_pos c5] at H
          have c5b0 : decide (x5_1 < (a1.size : Int)) = true := decide_eq_true c5
          clear c5
          obtain ⟨ji6, hji6⟩ : ∃ j_ : Int, (wrap64 (x5_1 - 1)) = j_ := ⟨_, rfl⟩
          replace H : (if 0 ≤ (ji6) then (if (ji6) < (a1.size : Int) then (if 0 ≤ x5_1 then ((spec_wkGoes.f k1 a0 (bt a1 (ji6)) (bt a1 x5_1)).bind fun t102 => (if t102 = true then (spec_wkWalk.l0 k1 a0 a1 (wrap64 (x5_1 + 1))) else (some false))) else (none)) else (none)) else (none)) = some r := by first | (rw [hji6] at H; exact H) | (simp only [hji6] at H ⊢; exact H)
          have hji6w : (IntKind.i64.wrap (x5_1 - 1)) = ji6 := (i64_w _).trans hji6
          by_cases c7 : 0 ≤ (ji6)
          · rw [if_pos c7] at H
            have c7b0 : decide (0 ≤ (ji6)) = true := decide_eq_true c7
            clear c7
            by_cases c8 : (ji6) < (a1.size : Int)
            · rw [if_pos c8] at H
              have c8b0 : decide ((ji6) < (a1.size : Int)) = true := decide_eq_true c8
              clear c8
              by_cases c10 : 0 ≤ x5_1
              · rw [if_pos c10] at H
                have c10b0 : decide (0 ≤ x5_1) = true := decide_eq_true c10
                clear c10
                replace H := Option.bind_eq_some_iff.mp H
                obtain ⟨t102, A120, H⟩ := H
                replace H : (if t102 = true then (spec_wkWalk.l0 k1 a0 a1 (wrap64 (x5_1 + 1))) else (some false)) = some r := H
                have A12 := Aside0.mk A120
                clear A120
                by_cases c13 : t102 = true
                · subst c13
                  have H1 : (spec_wkWalk.l0 k1 a0 a1 (wrap64 (x5_1 + 1))) = some r := by rw [if_pos rfl] at H; exact H
                  clear H
                  have H := H1
                  clear H1
                  have H' := Aside0.mk H
                  clear H
                  have p9 : 0 ≤ ((ji6) : Int) := of_decide_eq_true (by first | (with_reducible assumption) | assumption)
                  have q9 : (ji6) < (a1.size : Int) := of_decide_eq_true (by first | (with_reducible assumption) | assumption)
                  have hx9 := bt_at a1 (ji6)
                  replace p9 := eq_true p9
                  replace q9 := eq_true q9
                  have p11 : 0 ≤ (x5_1 : Int) := of_decide_eq_true (by first | (with_reducible assumption) | assumption)
                  have q11 : x5_1 < (a1.size : Int) := of_decide_eq_true (by first | (with_reducible assumption) | assumption)
                  have hx11 := bt_at a1 x5_1
                  replace p11 := eq_true p11
                  replace q11 := eq_true q11
                  go_wp2_with (first | (go_at_call 61; (with_reducible refine (spec_wkGoes.calls k1 a0 (bt a1 (ji6)) (bt a1 x5_1) true _ A12.out).mono ?_); rintro e w' ⟨rfl, ⟨nd, rfl⟩⟩; (try first | exact ⟨rfl, _, World.drewN_drewN _ _ _⟩ | exact ⟨rfl, _, Eq.trans (World.drewN_drewN _ _ _) (congrArg (World.drewN _) (Nat.add_assoc _ _ _))⟩)))
                  repeat (go_quiet (first | (go_at_call 61; (with_reducible refine (spec_wkGoes.calls k1 a0 (bt a1 (ji6)) (bt a1 x5_1) true _ A12.out).mono ?_); rintro e w' ⟨rfl, ⟨nd, rfl⟩⟩; (try first | exact ⟨rfl, _, World.drewN_drewN _ _ _⟩ | exact ⟨rfl, _, Eq.trans (World.drewN_drewN _ _ _) (congrArg (World.drewN _) (Nat.add_assoc _ _ _))⟩))); try go_wp2_with (first | (go_at_call 61; (with_reducible refine (spec_wkGoes.calls k1 a0 (bt a1 (ji6)) (bt a1 x5_1) true _ A12.out).mono ?_); rintro e w' ⟨rfl, ⟨nd, rfl⟩⟩; (try first | exact ⟨rfl, _, World.drewN_drewN _ _ _⟩ | exact ⟨rfl, _, Eq.trans (World.drewN_drewN _ _ _) (congrArg (World.drewN _) (Nat.add_assoc _ _ _))⟩))))
                  go_roundg k1
                  case measure => have := HK1.out; omega
                  case rel => exact ⟨(wrap64 (x5_1 + 1)), (by first | rfl | (simp; done) | (simp [*]; done)), H', ⟨by have := HK1.out; omega⟩, by repeat (first | exact Drawn0.refl _ | apply Drawn0.step)⟩
                · replace c13 := Bool.eq_false_iff.mpr c13
                  subst c13
                  have H1 : (some false) = some r := by rw [if_neg (show ¬ (false = true) by decide)] at H; exact H
                  clear H
                  have H := H1
                  clear H1
                  obtain rfl := Option.some.inj H
                  have p9 : 0 ≤ ((ji6) : Int) := of_decide_eq_true (by first | (with_reducible assumption) | assumption)
                  have q9 : (ji6) < (a1.size : Int) := of_decide_eq_true (by first | (with_reducible assumption) | assumption)
                  have hx9 := bt_at a1 (ji6)
                  replace p9 := eq_true p9
                  replace q9 := eq_true q9
                  have p11 : 0 ≤ (x5_1 : Int) := of_decide_eq_true (by first | (with_reducible assumption) | assumption)
                  have q11 : x5_1 < (a1.size : Int) := of_decide_eq_true (by first | (with_reducible assumption) | assumption)
                  have hx11 := bt_at a1 x5_1
                  replace p11 := eq_true p11
                  replace q11 := eq_true q11
                  go_wp2_with (first | (go_at_call 61; (with_reducible refine (spec_wkGoes.calls k1 a0 (bt a1 (ji6)) (bt a1 x5_1) false _ A12.out).mono ?_); rintro e w' ⟨rfl, ⟨nd, rfl⟩⟩; (try first | exact ⟨rfl, _, World.drewN_drewN _ _ _⟩ | exact ⟨rfl, _, Eq.trans (World.drewN_drewN _ _ _) (congrArg (World.drewN _) (Nat.add_assoc _ _ _))⟩)))
                  repeat (go_quiet (first | (go_at_call 61; (with_reducible refine (spec_wkGoes.calls k1 a0 (bt a1 (ji6)) (bt a1 x5_1) false _ A12.out).mono ?_); rintro e w' ⟨rfl, ⟨nd, rfl⟩⟩; (try first | exact ⟨rfl, _, World.drewN_drewN _ _ _⟩ | exact ⟨rfl, _, Eq.trans (World.drewN_drewN _ _ _) (congrArg (World.drewN _) (Nat.add_assoc _ _ _))⟩))); try go_wp2_with (first | (go_at_call 61; (with_reducible refine (spec_wkGoes.calls k1 a0 (bt a1 (ji6)) (bt a1 x5_1) false _ A12.out).mono ?_); rintro e w' ⟨rfl, ⟨nd, rfl⟩⟩; (try first | exact ⟨rfl, _, World.drewN_drewN _ _ _⟩ | exact ⟨rfl, _, Eq.trans (World.drewN_drewN _ _ _) (congrArg (World.drewN _) (Nat.add_assoc _ _ _))⟩))))
                  go_ret
                  exact ⟨by first | rfl | (simp; done) | (simp only [← hji6] <;> (first | rfl | simp)) | (simp [*]; done), by repeat (first | exact Drawn0.refl _ | apply Drawn0.step)⟩
              · rw [if_neg c10] at H
                exact absurd H (by simp)
            · rw [if_neg c8] at H
              exact absurd H (by simp)
          · rw [if_neg c7] at H
            exact absurd H (by simp)
        · rw [if_neg c5] at H
          have c5b0 : decide (x5_1 < (a1.size : Int)) = false := decide_eq_false c5
          clear c5
          obtain rfl := Option.some.inj H
          go_wp2
          repeat (go_quiet (fail); try go_wp2)
          go_ret
          exact ⟨by first | rfl | (simp; done) | (simp [*]; done), by repeat (first | exact Drawn0.refl _ | apply Drawn0.step)⟩
  · replace c4 := Bool.eq_false_iff.mpr c4
    subst c4
    have H1 : (some false) = some r := by rw [if_neg (show ¬ (false = true) by decide)] at H; exact H
    clear H
    have H := H1
    clear H1
    obtain rfl := Option.some.inj H
    go_enter Tryd.func47, Tryd.ntmps47
    go_wp2_with (first | (go_at_call 33; (with_reducible refine (spec_wkDigits.calls k a1 false _ A3.out).mono ?_); rintro e w' ⟨rfl, ⟨nd, rfl⟩⟩; (try first | exact ⟨rfl, _, World.drewN_drewN _ _ _⟩ | exact ⟨rfl, _, Eq.trans (World.drewN_drewN _ _ _) (congrArg (World.drewN _) (Nat.add_assoc _ _ _))⟩)))
    repeat (go_quiet (first | (go_at_call 33; (with_reducible refine (spec_wkDigits.calls k a1 false _ A3.out).mono ?_); rintro e w' ⟨rfl, ⟨nd, rfl⟩⟩; (try first | exact ⟨rfl, _, World.drewN_drewN _ _ _⟩ | exact ⟨rfl, _, Eq.trans (World.drewN_drewN _ _ _) (congrArg (World.drewN _) (Nat.add_assoc _ _ _))⟩))); try go_wp2_with (first | (go_at_call 33; (with_reducible refine (spec_wkDigits.calls k a1 false _ A3.out).mono ?_); rintro e w' ⟨rfl, ⟨nd, rfl⟩⟩; (try first | exact ⟨rfl, _, World.drewN_drewN _ _ _⟩ | exact ⟨rfl, _, Eq.trans (World.drewN_drewN _ _ _) (congrArg (World.drewN _) (Nat.add_assoc _ _ _))⟩))))
    go_ret
    exact ⟨by first | rfl | (simp; done) | (simp [*]; done), by repeat (first | exact Drawn0.refl _ | apply Drawn0.step)⟩

end Go.Proofs.YtbichbiiephmhaaDoor.P

-- printed by xprint.py
namespace Go.Proofs.YtbichbiiephmhaaDoor.P
open Go.RowKit Go.Proofs.YtbichbiiephmhaaDoorW.PrintWords Go.Proofs.YtbichbiiephmhaaDoorW.PrintLast Go.Proofs.YtbichbiiephmhaaDoorW.PrintMore
attribute [local go_sem] max2_int min2_int max_two min_two max_three min_three max_four min_four   -- for this text's walks alone
set_option linter.unusedVariables false
set_option linter.unusedSimpArgs false

/-! ### spec_RankOfNumber: function 31 -/
mutual
def spec_RankOfNumber.j0 : Nat → ByteArray → ByteArray → Bool → Option (Int × Bool)
  | 0, _, _, _ => none
  | k + 1, x0, x1, x19 => if x19 = true then (some (0, false)) else ((spec_wkTable.f k x0 (wrap64 ((x1.size : Int) - 1)) 0).bind fun t103 => (if 0 ≤ (wrap64 ((x1.size : Int) - 1)) then (if (wrap64 ((x1.size : Int) - 1)) < (t103.length : Int) then (if 0 < (x1.size : Int) then (if 0 ≤ (((bt x1 0) - 48) % 256) then (if (((bt x1 0) - 48) % 256) < ((rd_L4 t103 (wrap64 ((x1.size : Int) - 1))).length : Int) then (if (rd (rd_L4 t103 (wrap64 ((x1.size : Int) - 1))) (((bt x1 0) - 48) % 256)) > 1000000000000000 then (some (0, false)) else (spec_RankOfNumber.l0 k x0 x1 t103 0 1)) else (none)) else (none)) else (none)) else (none)) else (none)))
def spec_RankOfNumber.l0 : Nat → ByteArray → ByteArray → List (List Int) → Int → Int → Option (Int × Bool)
  | 0, _, _, _, _, _ => none
  | k + 1, x0, x1, x6, x7, x8 => if x8 < (x1.size : Int) then (if 0 ≤ (wrap64 (x8 - 1)) then (if (wrap64 (x8 - 1)) < (x1.size : Int) then ((spec_wkNext.f k x0 (bt x1 (wrap64 (x8 - 1)))).bind fun t108 => (spec_RankOfNumber.l1 k x0 x1 x6 x7 x8 t108 0)) else (none)) else (none)) else (some (x7, true))
def spec_RankOfNumber.l1 : Nat → ByteArray → ByteArray → List (List Int) → Int → Int → ByteArray → Int → Option (Int × Bool)
  | 0, _, _, _, _, _, _, _ => none
  | k + 1, x0, x1, x6, x7, x8, x9, x10 => if x10 < (x9.size : Int) then (if 0 ≤ x10 then (if 0 ≤ x8 then (if x8 < (x1.size : Int) then (if (bt x9 x10) = (bt x1 x8) then (spec_RankOfNumber.l0 k x0 x1 x6 x7 (wrap64 (x8 + 1))) else (if 0 ≤ (wrap64 ((wrap64 ((x1.size : Int) - 1)) - x8)) then (if (wrap64 ((wrap64 ((x1.size : Int) - 1)) - x8)) < (x6.length : Int) then (if 0 ≤ (((bt x9 x10) - 48) % 256) then (if (((bt x9 x10) - 48) % 256) < ((rd_L4 x6 (wrap64 ((wrap64 ((x1.size : Int) - 1)) - x8))).length : Int) then (spec_RankOfNumber.l1 k x0 x1 x6 (wrap64 (x7 + (rd (rd_L4 x6 (wrap64 ((wrap64 ((x1.size : Int) - 1)) - x8))) (((bt x9 x10) - 48) % 256)))) x8 x9 (wrap64 (x10 + 1))) else (none)) else (none)) else (none)) else (none))) else (none)) else (none)) else (none)) else (spec_RankOfNumber.l0 k x0 x1 x6 x7 (wrap64 (x8 + 1)))
end
def spec_RankOfNumber.f (k : Nat) (a0 : ByteArray) (a1 : ByteArray) : Option (Int × Bool) := (spec_wkPiece.f a0).bind fun t101 => (if t101 = true then ((spec_wkWalk.f k a0 a1).bind fun t102 => (spec_RankOfNumber.j0 k a0 a1 (!t102))) else (spec_RankOfNumber.j0 k a0 a1 true))
theorem spec_RankOfNumber.mono_l : ∀ k, (∀ y0 y1 y2, LeO (spec_RankOfNumber.j0 k y0 y1 y2) (spec_RankOfNumber.j0 (k + 1) y0 y1 y2)) ∧ (∀ y0 y1 y2 y3 y4, LeO (spec_RankOfNumber.l0 k y0 y1 y2 y3 y4) (spec_RankOfNumber.l0 (k + 1) y0 y1 y2 y3 y4)) ∧ (∀ y0 y1 y2 y3 y4 y5 y6, LeO (spec_RankOfNumber.l1 k y0 y1 y2 y3 y4 y5 y6) (spec_RankOfNumber.l1 (k + 1) y0 y1 y2 y3 y4 y5 y6))
  | 0 => ⟨fun _ _ _ r h => by simp [spec_RankOfNumber.j0] at h, fun _ _ _ _ _ r h => by simp [spec_RankOfNumber.l0] at h, fun _ _ _ _ _ _ _ r h => by simp [spec_RankOfNumber.l1] at h⟩
  | k + 1 => by
    obtain ⟨ih0, ih1, ih2⟩ := spec_RankOfNumber.mono_l k
    refine ⟨?_, ?_, ?_⟩
    · intro y0 y1 y2
      unfold spec_RankOfNumber.j0
      repeat' first
      | (with_reducible exact ih0 _ _ _)
      | (with_reducible exact ih1 _ _ _ _ _)
      | (with_reducible exact ih2 _ _ _ _ _ _ _)
      | (with_reducible exact spec_wkNext.mono _ _ _)
      | (with_reducible exact spec_wkTable.mono _ _ _ _)
      | (with_reducible exact spec_wkWalk.mono _ _ _)
      | (with_reducible exact LeO.refl _)
      | (with_reducible exact LeO.none _)
      | (with_reducible refine LeO.ite ?_ ?_)
      | (with_reducible refine LeO.bind ?_ (fun _ => ?_))
      | exact ih0 _ _ _
      | exact ih1 _ _ _ _ _
      | exact ih2 _ _ _ _ _ _ _
      | exact spec_wkNext.mono _ _ _
      | exact spec_wkTable.mono _ _ _ _
      | exact spec_wkWalk.mono _ _ _
      | exact LeO.none _
      | refine LeO.ite ?_ ?_
      | refine LeO.bind ?_ (fun _ => ?_)
    · intro y0 y1 y2 y3 y4
      unfold spec_RankOfNumber.l0
      repeat' first
      | (with_reducible exact ih0 _ _ _)
      | (with_reducible exact ih1 _ _ _ _ _)
      | (with_reducible exact ih2 _ _ _ _ _ _ _)
      | (with_reducible exact spec_wkNext.mono _ _ _)
      | (with_reducible exact spec_wkTable.mono _ _ _ _)
      | (with_reducible exact spec_wkWalk.mono _ _ _)
      | (with_reducible exact LeO.refl _)
      | (with_reducible exact LeO.none _)
      | (with_reducible refine LeO.ite ?_ ?_)
      | (with_reducible refine LeO.bind ?_ (fun _ => ?_))
      | exact ih0 _ _ _
      | exact ih1 _ _ _ _ _
      | exact ih2 _ _ _ _ _ _ _
      | exact spec_wkNext.mono _ _ _
      | exact spec_wkTable.mono _ _ _ _
      | exact spec_wkWalk.mono _ _ _
      | exact LeO.none _
      | refine LeO.ite ?_ ?_
      | refine LeO.bind ?_ (fun _ => ?_)
    · intro y0 y1 y2 y3 y4 y5 y6
      unfold spec_RankOfNumber.l1
      repeat' first
      | (with_reducible exact ih0 _ _ _)
      | (with_reducible exact ih1 _ _ _ _ _)
      | (with_reducible exact ih2 _ _ _ _ _ _ _)
      | (with_reducible exact spec_wkNext.mono _ _ _)
      | (with_reducible exact spec_wkTable.mono _ _ _ _)
      | (with_reducible exact spec_wkWalk.mono _ _ _)
      | (with_reducible exact LeO.refl _)
      | (with_reducible exact LeO.none _)
      | (with_reducible refine LeO.ite ?_ ?_)
      | (with_reducible refine LeO.bind ?_ (fun _ => ?_))
      | exact ih0 _ _ _
      | exact ih1 _ _ _ _ _
      | exact ih2 _ _ _ _ _ _ _
      | exact spec_wkNext.mono _ _ _
      | exact spec_wkTable.mono _ _ _ _
      | exact spec_wkWalk.mono _ _ _
      | exact LeO.none _
      | refine LeO.ite ?_ ?_
      | refine LeO.bind ?_ (fun _ => ?_)
theorem spec_RankOfNumber.mono : ∀ a0 a1 k, LeO (spec_RankOfNumber.f k a0 a1) (spec_RankOfNumber.f (k + 1) a0 a1) := by
  intro a0 a1 k
  obtain ⟨ih0, ih1, ih2⟩ := spec_RankOfNumber.mono_l k
  unfold spec_RankOfNumber.f
  repeat' first
      | (with_reducible exact ih0 _ _ _)
      | (with_reducible exact ih1 _ _ _ _ _)
      | (with_reducible exact ih2 _ _ _ _ _ _ _)
      | (with_reducible exact spec_wkNext.mono _ _ _)
      | (with_reducible exact spec_wkTable.mono _ _ _ _)
      | (with_reducible exact spec_wkWalk.mono _ _ _)
      | (with_reducible exact LeO.refl _)
      | (with_reducible exact LeO.none _)
      | (with_reducible refine LeO.ite ?_ ?_)
      | (with_reducible refine LeO.bind ?_ (fun _ => ?_))
      | exact ih0 _ _ _
      | exact ih1 _ _ _ _ _
      | exact ih2 _ _ _ _ _ _ _
      | exact spec_wkNext.mono _ _ _
      | exact spec_wkTable.mono _ _ _ _
      | exact spec_wkWalk.mono _ _ _
      | exact LeO.none _
      | refine LeO.ite ?_ ?_
      | refine LeO.bind ?_ (fun _ => ?_)
set_option maxHeartbeats 8000000 in
set_option maxRecDepth 100000 in
theorem spec_RankOfNumber.calls (k : Nat) (a0 : ByteArray) (a1 : ByteArray) (r1 : Int) (r2 : Bool) (w : World) (h : spec_RankOfNumber.f k a0 a1 = some (r1, r2)) :
    Calls Tryd.prog 31 #[.string a0, .string a1] w fun e w' => e = .returned (.tuple #[.int .i64 r1, .bool r2]) ∧ Below w.heap.size w w' := by
  have HB := Aside0.mk (Below.refl w.heap.size w)
  have H : ((spec_wkPiece.f a0).bind fun t101 => (if t101 = true then ((spec_wkWalk.f k a0 a1).bind fun t102 => (spec_RankOfNumber.j0 k a0 a1 (!t102))) else (spec_RankOfNumber.j0 k a0 a1 true))) = some (r1, r2) := h
  clear h
  have HC3 := Aside0.mk H
  clear H
  go_enter Tryd.func31, Tryd.ntmps31
  go_upto_region 1 with (fail)
  repeat (go_quiet (fail); go_upto_region 1 with (fail))
  go_cut [19] (fun v19 wc => ∃ (kq : Nat) (x19_2 : Bool), v19 = .bool x19_2 ∧ Aside0 (spec_RankOfNumber.j0 kq a0 a1 x19_2 = some (r1, r2)) ∧ Aside0 (kq ≤ k) ∧ Aside0 (Below w.heap.size w wc))
  case first =>
    have H := HC3.out
    clear HC3
    replace H := Option.bind_eq_some_iff.mp H
    obtain ⟨t101, A40, H⟩ := H
    replace H : (if t101 = true then ((spec_wkWalk.f k a0 a1).bind fun t102 => (spec_RankOfNumber.j0 k a0 a1 (!t102))) else (spec_RankOfNumber.j0 k a0 a1 true)) = some (r1, r2) := H
    have A4 := Aside0.mk A40
    clear A40
    by_cases c5 : t101 = true
    · subst c5
      have H1 : ((spec_wkWalk.f k a0 a1).bind fun t102 => (spec_RankOfNumber.j0 k a0 a1 (!t102))) = some (r1, r2) := by rw [if_pos rfl] at H; exact H
      clear H
      have H := H1
      clear H1
      replace H := Option.bind_eq_some_iff.mp H
      obtain ⟨t102, A60, H⟩ := H
      replace H : (spec_RankOfNumber.j0 k a0 a1 (!t102)) = some (r1, r2) := H
      have A6 := Aside0.mk A60
      clear A60
      have H' := Aside0.mk H
      clear H
      go_wp2_with (first | (go_at_call 46; (with_reducible refine (spec_wkPiece.calls a0 true _ A4.out).mono ?_); rintro e w' ⟨rfl, ⟨nd, rfl⟩⟩; (try first | exact ⟨rfl, _, World.drewN_drewN _ _ _⟩ | exact ⟨rfl, _, Eq.trans (World.drewN_drewN _ _ _) (congrArg (World.drewN _) (Nat.add_assoc _ _ _))⟩)) | (go_at_call 47; (with_reducible refine (spec_wkWalk.calls k a0 a1 t102 _ A6.out).mono ?_); rintro e w' ⟨rfl, ⟨nd, rfl⟩⟩; (try first | exact ⟨rfl, _, World.drewN_drewN _ _ _⟩ | exact ⟨rfl, _, Eq.trans (World.drewN_drewN _ _ _) (congrArg (World.drewN _) (Nat.add_assoc _ _ _))⟩)))
      repeat (go_quiet (first | (go_at_call 46; (with_reducible refine (spec_wkPiece.calls a0 true _ A4.out).mono ?_); rintro e w' ⟨rfl, ⟨nd, rfl⟩⟩; (try first | exact ⟨rfl, _, World.drewN_drewN _ _ _⟩ | exact ⟨rfl, _, Eq.trans (World.drewN_drewN _ _ _) (congrArg (World.drewN _) (Nat.add_assoc _ _ _))⟩)) | (go_at_call 47; (with_reducible refine (spec_wkWalk.calls k a0 a1 t102 _ A6.out).mono ?_); rintro e w' ⟨rfl, ⟨nd, rfl⟩⟩; (try first | exact ⟨rfl, _, World.drewN_drewN _ _ _⟩ | exact ⟨rfl, _, Eq.trans (World.drewN_drewN _ _ _) (congrArg (World.drewN _) (Nat.add_assoc _ _ _))⟩))); try go_wp2_with (first | (go_at_call 46; (with_reducible refine (spec_wkPiece.calls a0 true _ A4.out).mono ?_); rintro e w' ⟨rfl, ⟨nd, rfl⟩⟩; (try first | exact ⟨rfl, _, World.drewN_drewN _ _ _⟩ | exact ⟨rfl, _, Eq.trans (World.drewN_drewN _ _ _) (congrArg (World.drewN _) (Nat.add_assoc _ _ _))⟩)) | (go_at_call 47; (with_reducible refine (spec_wkWalk.calls k a0 a1 t102 _ A6.out).mono ?_); rintro e w' ⟨rfl, ⟨nd, rfl⟩⟩; (try first | exact ⟨rfl, _, World.drewN_drewN _ _ _⟩ | exact ⟨rfl, _, Eq.trans (World.drewN_drewN _ _ _) (congrArg (World.drewN _) (Nat.add_assoc _ _ _))⟩))))
      go_meet
      case rel => exact ⟨_, (!t102), (by first | rfl | (simp; done) | (simp [*]; done)), H', ⟨by first | omega | exact Nat.le_refl _⟩, ⟨by repeat (first | (with_reducible first | exact HB.out | apply below_alloc | apply pw_below_drewN | apply below_drew1) | exact HB.out)⟩⟩
    · replace c5 := Bool.eq_false_iff.mpr c5
      subst c5
      have H1 : (spec_RankOfNumber.j0 k a0 a1 true) = some (r1, r2) := by rw [if_neg (show ¬ (false = true) by decide)] at H; exact H
      clear H
      have H := H1
      clear H1
      have H' := Aside0.mk H
      clear H
      go_wp2_with (first | (go_at_call 46; (with_reducible refine (spec_wkPiece.calls a0 false _ A4.out).mono ?_); rintro e w' ⟨rfl, ⟨nd, rfl⟩⟩; (try first | exact ⟨rfl, _, World.drewN_drewN _ _ _⟩ | exact ⟨rfl, _, Eq.trans (World.drewN_drewN _ _ _) (congrArg (World.drewN _) (Nat.add_assoc _ _ _))⟩)))
      repeat (go_quiet (first | (go_at_call 46; (with_reducible refine (spec_wkPiece.calls a0 false _ A4.out).mono ?_); rintro e w' ⟨rfl, ⟨nd, rfl⟩⟩; (try first | exact ⟨rfl, _, World.drewN_drewN _ _ _⟩ | exact ⟨rfl, _, Eq.trans (World.drewN_drewN _ _ _) (congrArg (World.drewN _) (Nat.add_assoc _ _ _))⟩))); try go_wp2_with (first | (go_at_call 46; (with_reducible refine (spec_wkPiece.calls a0 false _ A4.out).mono ?_); rintro e w' ⟨rfl, ⟨nd, rfl⟩⟩; (try first | exact ⟨rfl, _, World.drewN_drewN _ _ _⟩ | exact ⟨rfl, _, Eq.trans (World.drewN_drewN _ _ _) (congrArg (World.drewN _) (Nat.add_assoc _ _ _))⟩))))
      go_meet
      case rel => exact ⟨_, (true), (by first | rfl | (simp; done) | (simp [*]; done)), H', ⟨by first | omega | exact Nat.le_refl _⟩, ⟨by repeat (first | (with_reducible first | exact HB.out | apply below_alloc | apply pw_below_drewN | apply below_drew1) | exact HB.out)⟩⟩
  case rest =>
    clear HC3
    try clear p2
    try clear c3
    try clear c5
    obtain ⟨kq, x19_2, rfl, HA, HJ2, HB⟩ := hcut
    cases kq with
    | zero => exact absurd HA.out (by simp [spec_RankOfNumber.j0])
    | succ kj2 =>
      have H := HA.out
      clear HA
      simp only [spec_RankOfNumber.j0] at H
      by_cases c7 : x19_2 = true
      · subst c7
        have H1 : (some (0, false)) = some (r1, r2) := by rw [if_pos rfl] at H; exact H
        clear H
        have H := H1
        clear H1
        simp only [Option.some.injEq, Prod.mk.injEq] at H
        obtain ⟨rfl, rfl⟩ := H
        go_wp2
        repeat (go_quiet (fail); try go_wp2)
        go_ret2
        exact ⟨by first | rfl | (simp [errW_none, errW_some] <;> rfl) | (simp [*, errW_none, errW_some] <;> rfl), by repeat (first | (with_reducible first | exact HB.out | apply below_alloc | apply pw_below_drewN | apply below_drew1) | exact HB.out)⟩
      · replace c7 := Bool.eq_false_iff.mpr c7
        subst c7
        have H1 : ((spec_wkTable.f kj2 a0 (wrap64 ((a1.size : Int) - 1)) 0).bind fun t103 => (if 0 ≤ (wrap64 ((a1.size : Int) - 1)) then (if (wrap64 ((a1.size : Int) - 1)) < (t103.length : Int) then (if 0 < (a1.size : Int) then (if 0 ≤ (((bt a1 0) - 48) % 256) then (if (((bt a1 0) - 48) % 256) < ((rd_L4 t103 (wrap64 ((a1.size : Int) - 1))).length : Int) then (if (rd (rd_L4 t103 (wrap64 ((a1.size : Int) - 1))) (((bt a1 0) - 48) % 256)) > 1000000000000000 then (some (0, false)) else (spec_RankOfNumber.l0 kj2 a0 a1 t103 0 1)) else (none)) else (none)) else (none)) else (none)) else (none))) = some (r1, r2) := by rw [if_neg (show ¬ (false = true) by decide)] at H; exact H
        clear H
        have H := H1
        clear H1
        replace H := Option.bind_eq_some_iff.mp H
        obtain ⟨t103, A80, H⟩ := H
        replace H : (if 0 ≤ (wrap64 ((a1.size : Int) - 1)) then (if (wrap64 ((a1.size : Int) - 1)) < (t103.length : Int) then (if 0 < (a1.size : Int) then (if 0 ≤ (((bt a1 0) - 48) % 256) then (if (((bt a1 0) - 48) % 256) < ((rd_L4 t103 (wrap64 ((a1.size : Int) - 1))).length : Int) then (if (rd (rd_L4 t103 (wrap64 ((a1.size : Int) - 1))) (((bt a1 0) - 48) % 256)) > 1000000000000000 then (some (0, false)) else (spec_RankOfNumber.l0 kj2 a0 a1 t103 0 1)) else (none)) else (none)) else (none)) else (none)) else (none)) = some (r1, r2) := H
        have A8 := Aside0.mk A80
        clear A80
        obtain ⟨ji9, hji9⟩ : ∃ j_ : Int, (wrap64 ((a1.size : Int) - 1)) = j_ := ⟨_, rfl⟩
        replace H : (if 0 ≤ (ji9) then (if (ji9) < (t103.length : Int) then (if 0 < (a1.size : Int) then (if 0 ≤ (((bt a1 0) - 48) % 256) then (if (((bt a1 0) - 48) % 256) < ((rd_L4 t103 (ji9)).length : Int) then (if (rd (rd_L4 t103 (ji9)) (((bt a1 0) - 48) % 256)) > 1000000000000000 then (some (0, false)) else (spec_RankOfNumber.l0 kj2 a0 a1 t103 0 1)) else (none)) else (none)) else (none)) else (none)) else (none)) = some (r1, r2) := by first | (rw [hji9] at H; exact H) | (simp only [hji9] at H ⊢; exact H)
        (try rw [hji9] at A8)
        have hji9w : (IntKind.i64.wrap ((a1.size : Int) - 1)) = ji9 := (i64_w _).trans hji9
        by_cases c10 : 0 ≤ (ji9)
        · rw [if_pos c10] at H
          have c10b0 : decide (0 ≤ (ji9)) = true := decide_eq_true c10
          clear c10
          by_cases c11 : (ji9) < (t103.length : Int)
          · rw [if_pos c11] at H
            have c11b0 : decide ((ji9) < (t103.length : Int)) = true := decide_eq_true c11
            clear c11
            by_cases c12 : 0 < (a1.size : Int)
            · rw [if_pos c12] at H
              have c12b0 : decide (0 < (a1.size : Int)) = true := decide_eq_true c12
              have c12b1 : decide (0 < a1.size) = true := decide_eq_true (by omega)
              clear c12
              obtain ⟨ji14, hji14⟩ : ∃ j_ : Int, (((bt a1 0) - 48) % 256) = j_ := ⟨_, rfl⟩
              have huji14 : IntKind.u8.wrap ((bt a1 0) - 48) = ji14 := hji14
              replace H : (if 0 ≤ (ji14) then (if (ji14) < ((rd_L4 t103 (ji9)).length : Int) then (if (rd (rd_L4 t103 (ji9)) (ji14)) > 1000000000000000 then (some (0, false)) else (spec_RankOfNumber.l0 kj2 a0 a1 t103 0 1)) else (none)) else (none)) = some (r1, r2) := by first | (rw [hji14] at H; exact H) | (simp only [hji14] at H ⊢; exact H)
              (try rw [hji14] at A8)
              by_cases c15 : 0 ≤ (ji14)
              · rw [if_pos c15] at H
                have c15b0 : decide (0 ≤ (ji14)) = true := decide_eq_true c15
                clear c15
                by_cases c16 : (ji14) < ((rd_L4 t103 (ji9)).length : Int)
                · rw [if_pos c16] at H
                  have c16b0 : decide ((ji14) < ((rd_L4 t103 (ji9)).length : Int)) = true := decide_eq_true c16
                  clear c16
                  by_cases c17 : (rd (rd_L4 t103 (ji9)) (ji14)) > 1000000000000000
                  · rw [if_pos c17] at H
                    have c17b0 : decide (1000000000000000 < (rd (rd_L4 t103 (ji9)) (ji14))) = true := decide_eq_true c17
                    clear c17
                    simp only [Option.some.injEq, Prod.mk.injEq] at H
                    obtain ⟨rfl, rfl⟩ := H
                    go_wp2_with (first | (go_at_call 59; (with_reducible refine (spec_wkTable.calls kj2 a0 ji9 0 t103 _ A8.out).mono ?_); rintro e w18 ⟨v104, rfl, ho0, hb⟩; have n0_ := Aside0.mk (Kd.S_lower ho0 (below_size (by repeat (first | (with_reducible first | exact HB.out | apply below_alloc | apply pw_below_drewN | apply below_drew1) | exact HB.out)))); have n1_ := Aside0.mk (below_step (by repeat (first | (with_reducible first | exact HB.out | apply below_alloc | apply pw_below_drewN | apply below_drew1) | exact HB.out)) hb); clear HB; have HO105 := n0_; have HB := n1_; clear n0_ n1_; (try clear hb); (try clear hb2); (try clear hk); (try clear hi); (try clear ho0); obtain ⟨Ao19, co19, eo19⟩ := Kd.S_slice HO105.out; subst eo19; have p106 : 0 ≤ ((ji9) : Int) := of_decide_eq_true (by first | (with_reducible assumption) | assumption); have q106 : (ji9) < (t103.length : Int) := of_decide_eq_true (by first | (with_reducible assumption) | assumption); obtain ⟨ad106, A106_0, c106_0, e106, hx106_0, hl106_0, hi106_0⟩ := at_L4 (Kd.S_reads' HO105.out).2.2 (ji9) p106 q106; cases e106; obtain ⟨ce106, hce106, hMe106, hcc106⟩ := Kd.S_get HO105.out [] (ji9) p106 (by first | exact q106 | exact of_decide_eq_true (by first | (with_reducible assumption) | assumption) | (have e_ := (Kd.S_reads' HO105.out).1; omega)); obtain ⟨ve106_0, rfl, ge106_0⟩ := hMe106; have hv106_0 := hcc106 0 _ rfl; rw [Nat.add_zero, show ((Kd.slice 3 (Kd.int .i64))).sz = 1 from rfl, Nat.mul_one] at hv106_0; replace hv106_0 := Option.some.inj (hv106_0.symm.trans hx106_0); rw [hv106_0] at ge106_0; have HL106_0 := Aside0.mk (show Kd.R (Kd.int .i64) 3 _ _ _ _ (rd_L4 t103 (ji9)) from ge106_0); clear hv106_0 ge106_0; clear hcc106 hce106; have HR106_0 := Aside0.mk hi106_0; have HC106_0 := Aside0.mk hl106_0; clear hi106_0 hl106_0; replace p106 := eq_true p106; replace q106 := eq_true q106; have p13 : 0 ≤ (0 : Int) := (by omega); have q13 : 0 < a1.size := (by have : (0 : Int) < (a1.size : Int) := of_decide_eq_true (by first | (with_reducible assumption) | assumption); omega); have hx13 : ∀ h : 0 < a1.size, ((a1[0]'h).toNat : Int) = bt a1 0 := bt_at a1 0; clear p13; have qi13 : (0 < (a1.size : Int)) = True := eq_true (of_decide_eq_true (by first | (with_reducible assumption) | assumption)); replace q13 := eq_true q13; have p107 : 0 ≤ ((ji14) : Int) := of_decide_eq_true (by first | (with_reducible assumption) | assumption); have q107 : (ji14) < ((rd_L4 t103 (ji9)).length : Int) := of_decide_eq_true (by first | (with_reducible assumption) | assumption); obtain ⟨ad107, e107, hx107_0⟩ := Kd.at_int (by repeat (first | (with_reducible exact HR106_0.out) | (with_reducible refine Kd.C_alloc ?_ _) | (with_reducible refine Kd.C_drewN ?_ _) | (with_reducible refine Kd.C_drew ?_) | exact HR106_0.out)) (ji14) p107 q107; cases e107; replace p107 := eq_true p107; replace q107 := eq_true q107))
                    repeat (go_quiet (first | (go_at_call 59; (with_reducible refine (spec_wkTable.calls kj2 a0 ji9 0 t103 _ A8.out).mono ?_); rintro e w18 ⟨v104, rfl, ho0, hb⟩; have n0_ := Aside0.mk (Kd.S_lower ho0 (below_size (by repeat (first | (with_reducible first | exact HB.out | apply below_alloc | apply pw_below_drewN | apply below_drew1) | exact HB.out)))); have n1_ := Aside0.mk (below_step (by repeat (first | (with_reducible first | exact HB.out | apply below_alloc | apply pw_below_drewN | apply below_drew1) | exact HB.out)) hb); clear HB; have HO105 := n0_; have HB := n1_; clear n0_ n1_; (try clear hb); (try clear hb2); (try clear hk); (try clear hi); (try clear ho0); obtain ⟨Ao19, co19, eo19⟩ := Kd.S_slice HO105.out; subst eo19; have p106 : 0 ≤ ((ji9) : Int) := of_decide_eq_true (by first | (with_reducible assumption) | assumption); have q106 : (ji9) < (t103.length : Int) := of_decide_eq_true (by first | (with_reducible assumption) | assumption); obtain ⟨ad106, A106_0, c106_0, e106, hx106_0, hl106_0, hi106_0⟩ := at_L4 (Kd.S_reads' HO105.out).2.2 (ji9) p106 q106; cases e106; obtain ⟨ce106, hce106, hMe106, hcc106⟩ := Kd.S_get HO105.out [] (ji9) p106 (by first | exact q106 | exact of_decide_eq_true (by first | (with_reducible assumption) | assumption) | (have e_ := (Kd.S_reads' HO105.out).1; omega)); obtain ⟨ve106_0, rfl, ge106_0⟩ := hMe106; have hv106_0 := hcc106 0 _ rfl; rw [Nat.add_zero, show ((Kd.slice 3 (Kd.int .i64))).sz = 1 from rfl, Nat.mul_one] at hv106_0; replace hv106_0 := Option.some.inj (hv106_0.symm.trans hx106_0); rw [hv106_0] at ge106_0; have HL106_0 := Aside0.mk (show Kd.R (Kd.int .i64) 3 _ _ _ _ (rd_L4 t103 (ji9)) from ge106_0); clear hv106_0 ge106_0; clear hcc106 hce106; have HR106_0 := Aside0.mk hi106_0; have HC106_0 := Aside0.mk hl106_0; clear hi106_0 hl106_0; replace p106 := eq_true p106; replace q106 := eq_true q106; have p13 : 0 ≤ (0 : Int) := (by omega); have q13 : 0 < a1.size := (by have : (0 : Int) < (a1.size : Int) := of_decide_eq_true (by first | (with_reducible assumption) | assumption); omega); have hx13 : ∀ h : 0 < a1.size, ((a1[0]'h).toNat : Int) = bt a1 0 := bt_at a1 0; clear p13; have qi13 : (0 < (a1.size : Int)) = True := eq_true (of_decide_eq_true (by first | (with_reducible assumption) | assumption)); replace q13 := eq_true q13; have p107 : 0 ≤ ((ji14) : Int) := of_decide_eq_true (by first | (with_reducible assumption) | assumption); have q107 : (ji14) < ((rd_L4 t103 (ji9)).length : Int) := of_decide_eq_true (by first | (with_reducible assumption) | assumption); obtain ⟨ad107, e107, hx107_0⟩ := Kd.at_int (by repeat (first | (with_reducible exact HR106_0.out) | (with_reducible refine Kd.C_alloc ?_ _) | (with_reducible refine Kd.C_drewN ?_ _) | (with_reducible refine Kd.C_drew ?_) | exact HR106_0.out)) (ji14) p107 q107; cases e107; replace p107 := eq_true p107; replace q107 := eq_true q107)); try go_wp2_with (first | (go_at_call 59; (with_reducible refine (spec_wkTable.calls kj2 a0 ji9 0 t103 _ A8.out).mono ?_); rintro e w18 ⟨v104, rfl, ho0, hb⟩; have n0_ := Aside0.mk (Kd.S_lower ho0 (below_size (by repeat (first | (with_reducible first | exact HB.out | apply below_alloc | apply pw_below_drewN | apply below_drew1) | exact HB.out)))); have n1_ := Aside0.mk (below_step (by repeat (first | (with_reducible first | exact HB.out | apply below_alloc | apply pw_below_drewN | apply below_drew1) | exact HB.out)) hb); clear HB; have HO105 := n0_; have HB := n1_; clear n0_ n1_; (try clear hb); (try clear hb2); (try clear hk); (try clear hi); (try clear ho0); obtain ⟨Ao19, co19, eo19⟩ := Kd.S_slice HO105.out; subst eo19; have p106 : 0 ≤ ((ji9) : Int) := of_decide_eq_true (by first | (with_reducible assumption) | assumption); have q106 : (ji9) < (t103.length : Int) := of_decide_eq_true (by first | (with_reducible assumption) | assumption); obtain ⟨ad106, A106_0, c106_0, e106, hx106_0, hl106_0, hi106_0⟩ := at_L4 (Kd.S_reads' HO105.out).2.2 (ji9) p106 q106; cases e106; obtain ⟨ce106, hce106, hMe106, hcc106⟩ := Kd.S_get HO105.out [] (ji9) p106 (by first | exact q106 | exact of_decide_eq_true (by first | (with_reducible assumption) | assumption) | (have e_ := (Kd.S_reads' HO105.out).1; omega)); obtain ⟨ve106_0, rfl, ge106_0⟩ := hMe106; have hv106_0 := hcc106 0 _ rfl; rw [Nat.add_zero, show ((Kd.slice 3 (Kd.int .i64))).sz = 1 from rfl, Nat.mul_one] at hv106_0; replace hv106_0 := Option.some.inj (hv106_0.symm.trans hx106_0); rw [hv106_0] at ge106_0; have HL106_0 := Aside0.mk (show Kd.R (Kd.int .i64) 3 _ _ _ _ (rd_L4 t103 (ji9)) from ge106_0); clear hv106_0 ge106_0; clear hcc106 hce106; have HR106_0 := Aside0.mk hi106_0; have HC106_0 := Aside0.mk hl106_0; clear hi106_0 hl106_0; replace p106 := eq_true p106; replace q106 := eq_true q106; have p13 : 0 ≤ (0 : Int) := (by omega); have q13 : 0 < a1.size := (by have : (0 : Int) < (a1.size : Int) := of_decide_eq_true (by first | (with_reducible assumption) | assumption); omega); have hx13 : ∀ h : 0 < a1.size, ((a1[0]'h).toNat : Int) = bt a1 0 := bt_at a1 0; clear p13; have qi13 : (0 < (a1.size : Int)) = True := eq_true (of_decide_eq_true (by first | (with_reducible assumption) | assumption)); replace q13 := eq_true q13; have p107 : 0 ≤ ((ji14) : Int) := of_decide_eq_true (by first | (with_reducible assumption) | assumption); have q107 : (ji14) < ((rd_L4 t103 (ji9)).length : Int) := of_decide_eq_true (by first | (with_reducible assumption) | assumption); obtain ⟨ad107, e107, hx107_0⟩ := Kd.at_int (by repeat (first | (with_reducible exact HR106_0.out) | (with_reducible refine Kd.C_alloc ?_ _) | (with_reducible refine Kd.C_drewN ?_ _) | (with_reducible refine Kd.C_drew ?_) | exact HR106_0.out)) (ji14) p107 q107; cases e107; replace p107 := eq_true p107; replace q107 := eq_true q107)))
                    go_ret2
                    exact ⟨by first | rfl | (simp [errW_none, errW_some] <;> rfl) | (simp only [← hji9, ← hji14]; first | rfl | (simp [errW_none, errW_some] <;> rfl)) | (simp [*, errW_none, errW_some] <;> rfl), by repeat (first | (with_reducible first | exact HB.out | apply below_alloc | apply pw_below_drewN | apply below_drew1) | exact HB.out)⟩
                  · rw [if_neg c17] at H
                    have c17b0 : decide (1000000000000000 < (rd (rd_L4 t103 (ji9)) (ji14))) = false := decide_eq_false c17
                    clear c17
                    have H' := Aside0.mk H
                    clear H
                    go_wp2_with (first | (go_at_call 59; (with_reducible refine (spec_wkTable.calls kj2 a0 ji9 0 t103 _ A8.out).mono ?_); rintro e w20 ⟨v104, rfl, ho0, hb⟩; have n0_ := Aside0.mk (Kd.S_lower ho0 (below_size (by repeat (first | (with_reducible first | exact HB.out | apply below_alloc | apply pw_below_drewN | apply below_drew1) | exact HB.out)))); have n1_ := Aside0.mk (below_step (by repeat (first | (with_reducible first | exact HB.out | apply below_alloc | apply pw_below_drewN | apply below_drew1) | exact HB.out)) hb); clear HB; have HO105 := n0_; have HB := n1_; clear n0_ n1_; (try clear hb); (try clear hb2); (try clear hk); (try clear hi); (try clear ho0); obtain ⟨Ao21, co21, eo21⟩ := Kd.S_slice HO105.out; subst eo21; have p106 : 0 ≤ ((ji9) : Int) := of_decide_eq_true (by first | (with_reducible assumption) | assumption); have q106 : (ji9) < (t103.length : Int) := of_decide_eq_true (by first | (with_reducible assumption) | assumption); obtain ⟨ad106, A106_0, c106_0, e106, hx106_0, hl106_0, hi106_0⟩ := at_L4 (Kd.S_reads' HO105.out).2.2 (ji9) p106 q106; cases e106; obtain ⟨ce106, hce106, hMe106, hcc106⟩ := Kd.S_get HO105.out [] (ji9) p106 (by first | exact q106 | exact of_decide_eq_true (by first | (with_reducible assumption) | assumption) | (have e_ := (Kd.S_reads' HO105.out).1; omega)); obtain ⟨ve106_0, rfl, ge106_0⟩ := hMe106; have hv106_0 := hcc106 0 _ rfl; rw [Nat.add_zero, show ((Kd.slice 3 (Kd.int .i64))).sz = 1 from rfl, Nat.mul_one] at hv106_0; replace hv106_0 := Option.some.inj (hv106_0.symm.trans hx106_0); rw [hv106_0] at ge106_0; have HL106_0 := Aside0.mk (show Kd.R (Kd.int .i64) 3 _ _ _ _ (rd_L4 t103 (ji9)) from ge106_0); clear hv106_0 ge106_0; clear hcc106 hce106; have HR106_0 := Aside0.mk hi106_0; have HC106_0 := Aside0.mk hl106_0; clear hi106_0 hl106_0; replace p106 := eq_true p106; replace q106 := eq_true q106; have p13 : 0 ≤ (0 : Int) := (by omega); have q13 : 0 < a1.size := (by have : (0 : Int) < (a1.size : Int) := of_decide_eq_true (by first | (with_reducible assumption) | assumption); omega); have hx13 : ∀ h : 0 < a1.size, ((a1[0]'h).toNat : Int) = bt a1 0 := bt_at a1 0; clear p13; have qi13 : (0 < (a1.size : Int)) = True := eq_true (of_decide_eq_true (by first | (with_reducible assumption) | assumption)); replace q13 := eq_true q13; have p107 : 0 ≤ ((ji14) : Int) := of_decide_eq_true (by first | (with_reducible assumption) | assumption); have q107 : (ji14) < ((rd_L4 t103 (ji9)).length : Int) := of_decide_eq_true (by first | (with_reducible assumption) | assumption); obtain ⟨ad107, e107, hx107_0⟩ := Kd.at_int (by repeat (first | (with_reducible exact HR106_0.out) | (with_reducible refine Kd.C_alloc ?_ _) | (with_reducible refine Kd.C_drewN ?_ _) | (with_reducible refine Kd.C_drew ?_) | exact HR106_0.out)) (ji14) p107 q107; cases e107; replace p107 := eq_true p107; replace q107 := eq_true q107))
                    repeat (go_quiet (first | (go_at_call 59; (with_reducible refine (spec_wkTable.calls kj2 a0 ji9 0 t103 _ A8.out).mono ?_); rintro e w20 ⟨v104, rfl, ho0, hb⟩; have n0_ := Aside0.mk (Kd.S_lower ho0 (below_size (by repeat (first | (with_reducible first | exact HB.out | apply below_alloc | apply pw_below_drewN | apply below_drew1) | exact HB.out)))); have n1_ := Aside0.mk (below_step (by repeat (first | (with_reducible first | exact HB.out | apply below_alloc | apply pw_below_drewN | apply below_drew1) | exact HB.out)) hb); clear HB; have HO105 := n0_; have HB := n1_; clear n0_ n1_; (try clear hb); (try clear hb2); (try clear hk); (try clear hi); (try clear ho0); obtain ⟨Ao21, co21, eo21⟩ := Kd.S_slice HO105.out; subst eo21; have p106 : 0 ≤ ((ji9) : Int) := of_decide_eq_true (by first | (with_reducible assumption) | assumption); have q106 : (ji9) < (t103.length : Int) := of_decide_eq_true (by first | (with_reducible assumption) | assumption); obtain ⟨ad106, A106_0, c106_0, e106, hx106_0, hl106_0, hi106_0⟩ := at_L4 (Kd.S_reads' HO105.out).2.2 (ji9) p106 q106; cases e106; obtain ⟨ce106, hce106, hMe106, hcc106⟩ := Kd.S_get HO105.out [] (ji9) p106 (by first | exact q106 | exact of_decide_eq_true (by first | (with_reducible assumption) | assumption) | (have e_ := (Kd.S_reads' HO105.out).1; omega)); obtain ⟨ve106_0, rfl, ge106_0⟩ := hMe106; have hv106_0 := hcc106 0 _ rfl; rw [Nat.add_zero, show ((Kd.slice 3 (Kd.int .i64))).sz = 1 from rfl, Nat.mul_one] at hv106_0; replace hv106_0 := Option.some.inj (hv106_0.symm.trans hx106_0); rw [hv106_0] at ge106_0; have HL106_0 := Aside0.mk (show Kd.R (Kd.int .i64) 3 _ _ _ _ (rd_L4 t103 (ji9)) from ge106_0); clear hv106_0 ge106_0; clear hcc106 hce106; have HR106_0 := Aside0.mk hi106_0; have HC106_0 := Aside0.mk hl106_0; clear hi106_0 hl106_0; replace p106 := eq_true p106; replace q106 := eq_true q106; have p13 : 0 ≤ (0 : Int) := (by omega); have q13 : 0 < a1.size := (by have : (0 : Int) < (a1.size : Int) := of_decide_eq_true (by first | (with_reducible assumption) | assumption); omega); have hx13 : ∀ h : 0 < a1.size, ((a1[0]'h).toNat : Int) = bt a1 0 := bt_at a1 0; clear p13; have qi13 : (0 < (a1.size : Int)) = True := eq_true (of_decide_eq_true (by first | (with_reducible assumption) | assumption)); replace q13 := eq_true q13; have p107 : 0 ≤ ((ji14) : Int) := of_decide_eq_true (by first | (with_reducible assumption) | assumption); have q107 : (ji14) < ((rd_L4 t103 (ji9)).length : Int) := of_decide_eq_true (by first | (with_reducible assumption) | assumption); obtain ⟨ad107, e107, hx107_0⟩ := Kd.at_int (by repeat (first | (with_reducible exact HR106_0.out) | (with_reducible refine Kd.C_alloc ?_ _) | (with_reducible refine Kd.C_drewN ?_ _) | (with_reducible refine Kd.C_drew ?_) | exact HR106_0.out)) (ji14) p107 q107; cases e107; replace p107 := eq_true p107; replace q107 := eq_true q107)); try go_wp2_with (first | (go_at_call 59; (with_reducible refine (spec_wkTable.calls kj2 a0 ji9 0 t103 _ A8.out).mono ?_); rintro e w20 ⟨v104, rfl, ho0, hb⟩; have n0_ := Aside0.mk (Kd.S_lower ho0 (below_size (by repeat (first | (with_reducible first | exact HB.out | apply below_alloc | apply pw_below_drewN | apply below_drew1) | exact HB.out)))); have n1_ := Aside0.mk (below_step (by repeat (first | (with_reducible first | exact HB.out | apply below_alloc | apply pw_below_drewN | apply below_drew1) | exact HB.out)) hb); clear HB; have HO105 := n0_; have HB := n1_; clear n0_ n1_; (try clear hb); (try clear hb2); (try clear hk); (try clear hi); (try clear ho0); obtain ⟨Ao21, co21, eo21⟩ := Kd.S_slice HO105.out; subst eo21; have p106 : 0 ≤ ((ji9) : Int) := of_decide_eq_true (by first | (with_reducible assumption) | assumption); have q106 : (ji9) < (t103.length : Int) := of_decide_eq_true (by first | (with_reducible assumption) | assumption); obtain ⟨ad106, A106_0, c106_0, e106, hx106_0, hl106_0, hi106_0⟩ := at_L4 (Kd.S_reads' HO105.out).2.2 (ji9) p106 q106; cases e106; obtain ⟨ce106, hce106, hMe106, hcc106⟩ := Kd.S_get HO105.out [] (ji9) p106 (by first | exact q106 | exact of_decide_eq_true (by first | (with_reducible assumption) | assumption) | (have e_ := (Kd.S_reads' HO105.out).1; omega)); obtain ⟨ve106_0, rfl, ge106_0⟩ := hMe106; have hv106_0 := hcc106 0 _ rfl; rw [Nat.add_zero, show ((Kd.slice 3 (Kd.int .i64))).sz = 1 from rfl, Nat.mul_one] at hv106_0; replace hv106_0 := Option.some.inj (hv106_0.symm.trans hx106_0); rw [hv106_0] at ge106_0; have HL106_0 := Aside0.mk (show Kd.R (Kd.int .i64) 3 _ _ _ _ (rd_L4 t103 (ji9)) from ge106_0); clear hv106_0 ge106_0; clear hcc106 hce106; have HR106_0 := Aside0.mk hi106_0; have HC106_0 := Aside0.mk hl106_0; clear hi106_0 hl106_0; replace p106 := eq_true p106; replace q106 := eq_true q106; have p13 : 0 ≤ (0 : Int) := (by omega); have q13 : 0 < a1.size := (by have : (0 : Int) < (a1.size : Int) := of_decide_eq_true (by first | (with_reducible assumption) | assumption); omega); have hx13 : ∀ h : 0 < a1.size, ((a1[0]'h).toNat : Int) = bt a1 0 := bt_at a1 0; clear p13; have qi13 : (0 < (a1.size : Int)) = True := eq_true (of_decide_eq_true (by first | (with_reducible assumption) | assumption)); replace q13 := eq_true q13; have p107 : 0 ≤ ((ji14) : Int) := of_decide_eq_true (by first | (with_reducible assumption) | assumption); have q107 : (ji14) < ((rd_L4 t103 (ji9)).length : Int) := of_decide_eq_true (by first | (with_reducible assumption) | assumption); obtain ⟨ad107, e107, hx107_0⟩ := Kd.at_int (by repeat (first | (with_reducible exact HR106_0.out) | (with_reducible refine Kd.C_alloc ?_ _) | (with_reducible refine Kd.C_drewN ?_ _) | (with_reducible refine Kd.C_drew ?_) | exact HR106_0.out)) (ji14) p107 q107; cases e107; replace p107 := eq_true p107; replace q107 := eq_true q107)))
                    go_loopg [7, 8] kj2 (fun kq v7 v8 w' => ∃ (x7_2 : Int) (x8_2 : Int), v7 = .int .i64 x7_2 ∧ v8 = .int .i64 x8_2 ∧ Aside0 (spec_RankOfNumber.l0 kq a0 a1 t103 x7_2 x8_2 = some (r1, r2)) ∧ Aside0 (kq ≤ kj2) ∧ Aside0 (Kd.S (Kd.slice 3 (Kd.int .i64)) 46 w' w.heap.size (fun _ => True) (.slice (some ad106) t103.length co21) t103) ∧ Aside0 (Kd.C (Kd.int .i64) w' (some ad107) (rd_L4 t103 (ji9)).length (rd_L4 t103 (ji9))) ∧ Aside0 (Below w.heap.size w w'))
                    case atStart => exact ⟨(0), (1), (by first | rfl | (simp; done) | (simp [*]; done)), (by first | rfl | (simp; done) | (simp [*]; done)), H', ⟨Nat.le_refl _⟩, ⟨by (with_reducible repeat (first | apply Kd.S_alloc | apply Kd.S_drewN | apply Kd.S_drew)); exact HO105.out⟩, ⟨by repeat (first | (with_reducible exact HR106_0.out) | (with_reducible refine Kd.C_alloc ?_ _) | (with_reducible refine Kd.C_drewN ?_ _) | (with_reducible refine Kd.C_drew ?_) | exact HR106_0.out)⟩, ⟨by repeat (first | (with_reducible first | exact HB.out | apply below_alloc | apply pw_below_drewN | apply below_drew1) | exact HB.out)⟩⟩
                    case round =>
                      clear H'
                      try clear c1
                      try clear p1
                      try clear q1
                      try clear hx1
                      try clear qi1
                      try clear p2
                      try clear c3
                      try clear c5
                      try clear p6
                      try clear c7
                      try clear c10
                      try clear c10b0
                      try clear p10
                      try clear q10
                      try clear hx10
                      try clear c11
                      try clear c11b0
                      try clear c12
                      try clear c12b0
                      try clear c12b1
                      try clear p13
                      try clear q13
                      try clear hx13
                      try clear qi13
                      try clear c15
                      try clear c15b0
                      try clear c16
                      try clear c16b0
                      try clear c17
                      try clear c17b0
                      try clear hx106_0
                      try clear hx107_0
                      try clear p106
                      try clear p107
                      try clear p13
                      try clear p2
                      try clear q106
                      try clear q107
                      try clear q13
                      obtain ⟨x7_2, x8_2, rfl, rfl, HA, HK2, HO_6, HR106_0, HB⟩ := hrel
                      cases gk with
                      | zero => exact absurd HA.out (by simp [spec_RankOfNumber.l0])
                      | succ k2 =>
                        have H := HA.out
                        clear HA
                        simp only [spec_RankOfNumber.l0] at H
                        by_cases c22 : x8_2 < (a1.size : Int)
                        · rw [if_pos c22] at H
                          have c22b0 : decide (x8_2 < (a1.size : Int)) = true := decide_eq_true c22
                          clear c22
                          obtain ⟨ji23, hji23⟩ : ∃ j_ : Int, (wrap64 (x8_2 - 1)) = j_ := ⟨_, rfl⟩
                          replace H : (if 0 ≤ (ji23) then (if (ji23) < (a1.size : Int) then ((spec_wkNext.f k2 a0 (bt a1 (ji23))).bind fun t108 => (spec_RankOfNumber.l1 k2 a0 a1 t103 x7_2 x8_2 t108 0)) else (none)) else (none)) = some (r1, r2) := by first | (rw [hji23] at H; exact H) | (simp only [hji23] at H ⊢; exact H)
                          have hji23w : (IntKind.i64.wrap (x8_2 - 1)) = ji23 := (i64_w _).trans hji23
                          by_cases c24 : 0 ≤ (ji23)
                          · rw [if_pos c24] at H
                            have c24b0 : decide (0 ≤ (ji23)) = true := decide_eq_true c24
                            clear c24
                            by_cases c25 : (ji23) < (a1.size : Int)
                            · rw [if_pos c25] at H
                              have c25b0 : decide ((ji23) < (a1.size : Int)) = true := decide_eq_true c25
                              clear c25
                              replace H := Option.bind_eq_some_iff.mp H
                              obtain ⟨t108, A270, H⟩ := H
                              replace H : (spec_RankOfNumber.l1 k2 a0 a1 t103 x7_2 x8_2 t108 0) = some (r1, r2) := H
                              have A27 := Aside0.mk A270
                              clear A270
                              have H' := Aside0.mk H
                              clear H
                              have p26 : 0 ≤ ((ji23) : Int) := of_decide_eq_true (by first | (with_reducible assumption) | assumption)
                              have q26 : (ji23) < (a1.size : Int) := of_decide_eq_true (by first | (with_reducible assumption) | assumption)
                              have hx26 := bt_at a1 (ji23)
                              replace p26 := eq_true p26
                              replace q26 := eq_true q26
                              go_wp2_with (first | (go_at_call 42; (with_reducible refine (spec_wkNext.calls k2 a0 (bt a1 (ji23)) t108 _ A27.out).mono ?_); rintro e w' ⟨rfl, ⟨nd, rfl⟩⟩; (try first | exact ⟨rfl, _, World.drewN_drewN _ _ _⟩ | exact ⟨rfl, _, Eq.trans (World.drewN_drewN _ _ _) (congrArg (World.drewN _) (Nat.add_assoc _ _ _))⟩)))
                              repeat (go_quiet (first | (go_at_call 42; (with_reducible refine (spec_wkNext.calls k2 a0 (bt a1 (ji23)) t108 _ A27.out).mono ?_); rintro e w' ⟨rfl, ⟨nd, rfl⟩⟩; (try first | exact ⟨rfl, _, World.drewN_drewN _ _ _⟩ | exact ⟨rfl, _, Eq.trans (World.drewN_drewN _ _ _) (congrArg (World.drewN _) (Nat.add_assoc _ _ _))⟩))); try go_wp2_with (first | (go_at_call 42; (with_reducible refine (spec_wkNext.calls k2 a0 (bt a1 (ji23)) t108 _ A27.out).mono ?_); rintro e w' ⟨rfl, ⟨nd, rfl⟩⟩; (try first | exact ⟨rfl, _, World.drewN_drewN _ _ _⟩ | exact ⟨rfl, _, Eq.trans (World.drewN_drewN _ _ _) (congrArg (World.drewN _) (Nat.add_assoc _ _ _))⟩))))
                              go_loopg [7, 10] k2 (fun kq v7 v10 w' => ∃ (x7_3 : Int) (x10_3 : Int), v7 = .int .i64 x7_3 ∧ v10 = .int .i64 x10_3 ∧ Aside0 (spec_RankOfNumber.l1 kq a0 a1 t103 x7_3 x8_2 t108 x10_3 = some (r1, r2)) ∧ Aside0 (kq ≤ k2) ∧ Aside0 (Kd.S (Kd.slice 3 (Kd.int .i64)) 46 w' w.heap.size (fun _ => True) (.slice (some ad106) t103.length co21) t103) ∧ Aside0 (Kd.C (Kd.int .i64) w' (some ad107) (rd_L4 t103 (ji9)).length (rd_L4 t103 (ji9))) ∧ Aside0 (Below w.heap.size w w'))
                              case atStart => exact ⟨(x7_2), (0), (by first | rfl | (simp; done) | (simp [*]; done)), (by first | rfl | (simp; done) | (simp [*]; done)), H', ⟨Nat.le_refl _⟩, ⟨by (with_reducible repeat (first | apply Kd.S_alloc | apply Kd.S_drewN | apply Kd.S_drew)); exact HO_6.out⟩, ⟨by repeat (first | (with_reducible exact HR106_0.out) | (with_reducible refine Kd.C_alloc ?_ _) | (with_reducible refine Kd.C_drewN ?_ _) | (with_reducible refine Kd.C_drew ?_) | exact HR106_0.out)⟩, ⟨by repeat (first | (with_reducible first | exact HB.out | apply below_alloc | apply pw_below_drewN | apply below_drew1) | exact HB.out)⟩⟩
                              case round =>
                                clear H'
                                try clear c1
                                try clear p1
                                try clear q1
                                try clear hx1
                                try clear qi1
                                try clear c2
                                try clear p2
                                try clear q2
                                try clear hx2
                                try clear c3
                                try clear c5
                                try clear p6
                                try clear c7
                                try clear c10
                                try clear c10b0
                                try clear p10
                                try clear q10
                                try clear hx10
                                try clear c11
                                try clear c11b0
                                try clear c12
                                try clear c12b0
                                try clear c12b1
                                try clear p13
                                try clear q13
                                try clear hx13
                                try clear qi13
                                try clear c15
                                try clear c15b0
                                try clear c16
                                try clear c16b0
                                try clear c17
                                try clear c17b0
                                try clear c22
                                try clear c22b0
                                try clear c24
                                try clear c24b0
                                try clear c25
                                try clear c25b0
                                try clear p26
                                try clear q26
                                try clear hx26
                                try clear hx106_0
                                try clear hx107_0
                                try clear p1
                                try clear p10
                                try clear p106
                                try clear p107
                                try clear p13
                                try clear p2
                                try clear p26
                                try clear p6
                                try clear q1
                                try clear q10
                                try clear q106
                                try clear q107
                                try clear q13
                                try clear q26
                                obtain ⟨x7_3, x10_3, rfl, rfl, HA, HK3, HO_6, HR106_0, HB⟩ := hrel
                                cases gk with
                                | zero => exact absurd HA.out (by simp [spec_RankOfNumber.l1])
                                | succ k3 =>
                                  have H := HA.out
                                  clear HA
                                  simp only [spec_RankOfNumber.l1] at H
                                  by_cases c28 : x10_3 < (t108.size : Int)
                                  · rw [if_pos c28] at H
                                    have c28b0 : decide (x10_3 < (t108.size : Int)) = true := decide_eq_true c28
                                    clear c28
                                    by_cases c29 : 0 ≤ x10_3
                                    · rw [if_pos c29] at H
                                      have c29b0 : decide (0 ≤ x10_3) = true := decide_eq_true c29
                                      clear c29
                                      by_cases c31 : 0 ≤ x8_2
                                      · rw [if_pos c31] at H
                                        have c31b0 : decide (0 ≤ x8_2) = true := decide_eq_true c31
                                        clear c31
                                        by_cases c32 : x8_2 < (a1.size : Int)
                                        · rw [if_pos c32] at H
                                          have c32b0 : decide (x8_2 < (a1.size : Int)) = true := decide_eq_true c32
                                          clear c32
                                          by_cases c34 : (bt t108 x10_3) = (bt a1 x8_2)
                                          · rw [if_pos c34] at H
                                            have c34b0 : ((bt t108 x10_3) == (bt a1 x8_2)) = true := beq_iff_eq.mpr c34
                                            have c34b1 : ((bt t108 x10_3) != (bt a1 x8_2)) = false := bne_eq_false_iff_eq.mpr c34
                                            clear c34
                                            have H' := Aside0.mk H
                                            clear H
                                            have p30 : 0 ≤ (x10_3 : Int) := of_decide_eq_true (by first | (with_reducible assumption) | assumption)
                                            have q30 : x10_3 < (t108.size : Int) := of_decide_eq_true (by first | (with_reducible assumption) | assumption)
                                            have hx30 := bt_at t108 x10_3
                                            replace p30 := eq_true p30
                                            replace q30 := eq_true q30
                                            have p33 : 0 ≤ (x8_2 : Int) := of_decide_eq_true (by first | (with_reducible assumption) | assumption)
                                            have q33 : x8_2 < (a1.size : Int) := of_decide_eq_true (by first | (with_reducible assumption) | assumption)
                                            have hx33 := bt_at a1 x8_2
                                            replace p33 := eq_true p33
                                            replace q33 := eq_true q33
                                            go_wp2
                                            repeat (go_quiet (fail); try go_wp2)
                                            go_roundg k3
                                            case measure => have := HJ2.out; have := HK2.out; have := HK3.out; omega
                                            case rel => exact ⟨(x7_3), (wrap64 (x8_2 + 1)), (by first | rfl | (simp; done) | (simp [*]; done)), (by first | rfl | (simp; done) | (simp [*]; done)), H', ⟨by have := HJ2.out; have := HK2.out; have := HK3.out; omega⟩, ⟨by (with_reducible repeat (first | apply Kd.S_alloc | apply Kd.S_drewN | apply Kd.S_drew)); exact HO_6.out⟩, ⟨by repeat (first | (with_reducible exact HR106_0.out) | (with_reducible refine Kd.C_alloc ?_ _) | (with_reducible refine Kd.C_drewN ?_ _) | (with_reducible refine Kd.C_drew ?_) | exact HR106_0.out)⟩, ⟨by repeat (first | (with_reducible first | exact HB.out | apply below_alloc | apply pw_below_drewN | apply below_drew1) | exact HB.out)⟩⟩
                                          · rw [if_neg c34] at H
                                            have c34b0 : ((bt t108 x10_3) == (bt a1 x8_2)) = false := beq_eq_false_iff_ne.mpr c34
                                            have c34b1 : ((bt t108 x10_3) != (bt a1 x8_2)) = true := bne_iff_ne.mpr c34
                                            obtain ⟨ji35, hji35⟩ : ∃ j_ : Int, (wrap64 ((wrap64 ((a1.size : Int) - 1)) - x8_2)) = j_ := ⟨_, rfl⟩
                                            replace H : (if 0 ≤ (ji35) then (if (ji35) < (t103.length : Int) then (if 0 ≤ (((bt t108 x10_3) - 48) % 256) then (if (((bt t108 x10_3) - 48) % 256) < ((rd_L4 t103 (ji35)).length : Int) then (spec_RankOfNumber.l1 k3 a0 a1 t103 (wrap64 (x7_3 + (rd (rd_L4 t103 (ji35)) (((bt t108 x10_3) - 48) % 256)))) x8_2 t108 (wrap64 (x10_3 + 1))) else (none)) else (none)) else (none)) else (none)) = some (r1, r2) := by first | (rw [hji35] at H; exact H) | (simp only [hji35] at H ⊢; exact H)
                                            have hji35w : (IntKind.i64.wrap ((wrap64 ((a1.size : Int) - 1)) - x8_2)) = ji35 := (i64_w _).trans hji35
                                            have hji35v : (IntKind.i64.wrap (ji9 - x8_2)) = ji35 := (i64_w _).trans (by rw [← hji9]; exact hji35)
                                            by_cases c36 : 0 ≤ (ji35)
                                            · rw [if_pos c36] at H
                                              have c36b0 : decide (0 ≤ (ji35)) = true := decide_eq_true c36
                                              clear c36
                                              by_cases c37 : (ji35) < (t103.length : Int)
                                              · rw [if_pos c37] at H
                                                have c37b0 : decide ((ji35) < (t103.length : Int)) = true := decide_eq_true c37
                                                clear c37
                                                obtain ⟨ji39, hji39⟩ : ∃ j_ : Int, (((bt t108 x10_3) - 48) % 256) = j_ := ⟨_, rfl⟩
                                                have huji39 : IntKind.u8.wrap ((bt t108 x10_3) - 48) = ji39 := hji39
                                                replace H : (if 0 ≤ (ji39) then (if (ji39) < ((rd_L4 t103 (ji35)).length : Int) then (spec_RankOfNumber.l1 k3 a0 a1 t103 (wrap64 (x7_3 + (rd (rd_L4 t103 (ji35)) (ji39)))) x8_2 t108 (wrap64 (x10_3 + 1))) else (none)) else (none)) = some (r1, r2) := by first | (rw [hji39] at H; exact H) | (simp only [hji39] at H ⊢; exact H)
                                                by_cases c40 : 0 ≤ (ji39)
                                                · rw [if_pos c40] at H
                                                  have c40b0 : decide (0 ≤ (ji39)) = true := decide_eq_true c40
                                                  clear c40
                                                  by_cases c41 : (ji39) < ((rd_L4 t103 (ji35)).length : Int)
                                                  · rw [if_pos c41] at H
                                                    have c41b0 : decide ((ji39) < ((rd_L4 t103 (ji35)).length : Int)) = true := decide_eq_true c41
                                                    clear c41
                                                    have H' := Aside0.mk H
                                                    clear H
                                                    have p30 : 0 ≤ (x10_3 : Int) := of_decide_eq_true (by first | (with_reducible assumption) | assumption)
                                                    have q30 : x10_3 < (t108.size : Int) := of_decide_eq_true (by first | (with_reducible assumption) | assumption)
                                                    have hx30 := bt_at t108 x10_3
                                                    replace p30 := eq_true p30
                                                    replace q30 := eq_true q30
                                                    have p33 : 0 ≤ (x8_2 : Int) := of_decide_eq_true (by first | (with_reducible assumption) | assumption)
                                                    have q33 : x8_2 < (a1.size : Int) := of_decide_eq_true (by first | (with_reducible assumption) | assumption)
                                                    have hx33 := bt_at a1 x8_2
                                                    replace p33 := eq_true p33
                                                    replace q33 := eq_true q33
                                                    have p109 : 0 ≤ ((ji35) : Int) := of_decide_eq_true (by first | (with_reducible assumption) | assumption)
                                                    have q109 : (ji35) < (t103.length : Int) := of_decide_eq_true (by first | (with_reducible assumption) | assumption)
                                                    obtain ⟨ad109, A109_0, c109_0, e109, hx109_0, hl109_0, hi109_0⟩ := at_L4 (Kd.S_reads' HO_6.out).2.2 (ji35) p109 q109
                                                    obtain rfl : ad106 = ad109 := (by injection e109)
                                                    obtain ⟨ce109, hce109, hMe109, hcc109⟩ := Kd.S_get HO_6.out [] (ji35) p109 (by first | exact q109 | exact of_decide_eq_true (by first | (with_reducible assumption) | assumption) | (have e_ := (Kd.S_reads' HO_6.out).1; omega))
                                                    obtain ⟨ve109_0, rfl, ge109_0⟩ := hMe109
                                                    have hv109_0 := hcc109 0 _ rfl
                                                    rw [Nat.add_zero, show ((Kd.slice 3 (Kd.int .i64))).sz = 1 from rfl, Nat.mul_one] at hv109_0
                                                    replace hv109_0 := Option.some.inj (hv109_0.symm.trans hx109_0)
                                                    rw [hv109_0] at ge109_0
                                                    have HL109_0 := Aside0.mk (show Kd.R (Kd.int .i64) 3 _ _ _ _ (rd_L4 t103 (ji35)) from ge109_0)
                                                    clear hv109_0 ge109_0
                                                    clear hcc109 hce109
                                                    have HR109_0 := Aside0.mk hi109_0
                                                    have HC109_0 := Aside0.mk hl109_0
                                                    clear hi109_0 hl109_0
                                                    replace p109 := eq_true p109
                                                    replace q109 := eq_true q109
                                                    have p38 : 0 ≤ (x10_3 : Int) := of_decide_eq_true (by first | (with_reducible assumption) | assumption)
                                                    have q38 : x10_3 < (t108.size : Int) := of_decide_eq_true (by first | (with_reducible assumption) | assumption)
                                                    have hx38 := bt_at t108 x10_3
                                                    replace p38 := eq_true p38
                                                    replace q38 := eq_true q38
                                                    have p110 : 0 ≤ ((ji39) : Int) := of_decide_eq_true (by first | (with_reducible assumption) | assumption)
                                                    have q110 : (ji39) < ((rd_L4 t103 (ji35)).length : Int) := of_decide_eq_true (by first | (with_reducible assumption) | assumption)
                                                    obtain ⟨ad110, e110, hx110_0⟩ := Kd.at_int (by repeat (first | (with_reducible exact HR109_0.out) | (with_reducible refine Kd.C_alloc ?_ _) | (with_reducible refine Kd.C_drewN ?_ _) | (with_reducible refine Kd.C_drew ?_) | exact HR109_0.out)) (ji39) p110 q110
                                                    cases e110
                                                    replace p110 := eq_true p110
                                                    replace q110 := eq_true q110
                                                    go_wp2
                                                    repeat (go_quiet (fail); try go_wp2)
                                                    go_roundg k3
                                                    case measure => have := HJ2.out; have := HK2.out; have := HK3.out; omega
                                                    case rel => exact ⟨(wrap64 (x7_3 + (rd (rd_L4 t103 (ji35)) (ji39)))), (wrap64 (x10_3 + 1)), (by first | rfl | (simp; done) | (simp only [← hji35, ← hji39] <;> (first | rfl | simp)) | (simp [*]; done)), (by first | rfl | (simp; done) | (simp [*]; done)), H', ⟨by have := HJ2.out; have := HK2.out; have := HK3.out; omega⟩, ⟨by (with_reducible repeat (first | apply Kd.S_alloc | apply Kd.S_drewN | apply Kd.S_drew)); exact HO_6.out⟩, ⟨by repeat (first | (with_reducible exact HR106_0.out) | (with_reducible refine Kd.C_alloc ?_ _) | (with_reducible refine Kd.C_drewN ?_ _) | (with_reducible refine Kd.C_drew ?_) | exact HR106_0.out)⟩, ⟨by repeat (first | (with_reducible first | exact HB.out | apply below_alloc | apply pw_below_drewN | apply below_drew1) | exact HB.out)⟩⟩
                                                  · rw [if_neg c41] at H
                                                    exact absurd H (by simp)
                                                · rw [if_neg c40] at H
                                                  exact absurd H (by simp)
                                              · rw [if_neg c37] at H
                                                exact absurd H (by simp)
                                            · rw [if_neg c36] at H
                                              exact absurd H (by simp)
                                        · rw [if_neg c32] at H
                                          exact absurd H (by simp)
                                      · rw [if_neg c31] at H
                                        exact absurd H (by simp)
                                    · rw [if_neg c29] at H
                                      exact absurd H (by simp)
                                  · rw [if_neg c28] at H
                                    have c28b0 : decide (x10_3 < (t108.size : Int)) = false := decide_eq_false c28
                                    clear c28
                                    have H' := Aside0.mk H
                                    clear H
                                    go_wp2
                                    repeat (go_quiet (fail); try go_wp2)
                                    go_roundg k3
                                    case measure => have := HJ2.out; have := HK2.out; have := HK3.out; omega
                                    case rel => exact ⟨(x7_3), (wrap64 (x8_2 + 1)), (by first | rfl | (simp; done) | (simp [*]; done)), (by first | rfl | (simp; done) | (simp [*]; done)), H', ⟨by have := HJ2.out; have := HK2.out; have := HK3.out; omega⟩, ⟨by (with_reducible repeat (first | apply Kd.S_alloc | apply Kd.S_drewN | apply Kd.S_drew)); exact HO_6.out⟩, ⟨by repeat (first | (with_reducible exact HR106_0.out) | (with_reducible refine Kd.C_alloc ?_ _) | (with_reducible refine Kd.C_drewN ?_ _) | (with_reducible refine Kd.C_drew ?_) | exact HR106_0.out)⟩, ⟨by repeat (first | (with_reducible first | exact HB.out | apply below_alloc | apply pw_below_drewN | apply below_drew1) | exact HB.out)⟩⟩
                            · rw [if_neg c25] at H
                              exact absurd H (by simp)
                          · rw [if_neg c24] at H
                            exact absurd H (by simp)
                        · rw [if_neg c22] at H
                          have c22b0 : decide (x8_2 < (a1.size : Int)) = false := decide_eq_false c22
                          clear c22
                          simp only [Option.some.injEq, Prod.mk.injEq] at H
                          obtain ⟨rfl, rfl⟩ := H
                          go_wp2
                          repeat (go_quiet (fail); try go_wp2)
                          go_ret2
                          exact ⟨by first | rfl | (simp [errW_none, errW_some] <;> rfl) | (simp only [← hji9, ← hji14]; first | rfl | (simp [errW_none, errW_some] <;> rfl)) | (simp [*, errW_none, errW_some] <;> rfl), by repeat (first | (with_reducible first | exact HB.out | apply below_alloc | apply pw_below_drewN | apply below_drew1) | exact HB.out)⟩
                · rw [if_neg c16] at H
                  exact absurd H (by simp)
              · rw [if_neg c15] at H
                exact absurd H (by simp)
            · rw [if_neg c12] at H
              exact absurd H (by simp)
          · rw [if_neg c11] at H
            exact absurd H (by simp)
        · rw [if_neg c10] at H
          exact absurd H (by simp)

end Go.Proofs.YtbichbiiephmhaaDoor.P

-- printed by xprint.py
namespace Go.Proofs.YtbichbiiephmhaaDoor.P
open Go.RowKit Go.Proofs.YtbichbiiephmhaaDoorW.PrintWords Go.Proofs.YtbichbiiephmhaaDoorW.PrintLast Go.Proofs.YtbichbiiephmhaaDoorW.PrintMore
attribute [local go_sem] max2_int min2_int max_two min_two max_three min_three max_four min_four   -- for this text's walks alone
set_option linter.unusedVariables false
set_option linter.unusedSimpArgs false

/-! ### laws_FnExactRankOfNumber: function 11 -/
def laws_FnExactRankOfNumber.f (k : Nat) (a0 : ByteArray) (a1 : ByteArray) : Option (Bool) := if (a0.size : Int) > 1048576 then (some true) else (if (a1.size : Int) > 1048576 then (some true) else ((spec_RankOfNumber.f k a0 a1).bind fun bt101 => ((impl_RankOfNumber.f k a0 a1).bind fun bt103 => (if bt103.1 = bt101.1 then (if (bt103.2 != bt101.2) = true then (some false) else (some true)) else (some false)))))
theorem laws_FnExactRankOfNumber.mono : ∀ a0 a1 k, LeO (laws_FnExactRankOfNumber.f k a0 a1) (laws_FnExactRankOfNumber.f (k + 1) a0 a1) := by
  intro a0 a1 k
  unfold laws_FnExactRankOfNumber.f
  repeat' first
      | (with_reducible exact impl_RankOfNumber.mono _ _ _)
      | (with_reducible exact spec_RankOfNumber.mono _ _ _)
      | (with_reducible exact LeO.refl _)
      | (with_reducible exact LeO.none _)
      | (with_reducible refine LeO.ite ?_ ?_)
      | (with_reducible refine LeO.bind ?_ (fun _ => ?_))
      | exact impl_RankOfNumber.mono _ _ _
      | exact spec_RankOfNumber.mono _ _ _
      | exact LeO.none _
      | refine LeO.ite ?_ ?_
      | refine LeO.bind ?_ (fun _ => ?_)
set_option maxHeartbeats 8000000 in
set_option maxRecDepth 100000 in
theorem laws_FnExactRankOfNumber.calls (k : Nat) (a0 : ByteArray) (a1 : ByteArray) (r : Bool) (w : World) (h : laws_FnExactRankOfNumber.f k a0 a1 = some r) :
    Calls Tryd.prog 11 #[.string a0, .string a1] w fun e w' => e = .returned (.bool r) ∧ Below w.heap.size w w' := by
  have HB := Aside0.mk (Below.refl w.heap.size w)
  have H : (if (a0.size : Int) > 1048576 then (some true) else (if (a1.size : Int) > 1048576 then (some true) else ((spec_RankOfNumber.f k a0 a1).bind fun bt101 => ((impl_RankOfNumber.f k a0 a1).bind fun bt103 => (if bt103.1 = bt101.1 then (if (bt103.2 != bt101.2) = true then (some false) else (some true)) else (some false)))))) = some r := h
  clear h
  by_cases c3 : (a0.size : Int) > 1048576
  · rw [if_pos c3] at H
    have c3b0 : decide (1048576 < (a0.size : Int)) = true := decide_eq_true c3
    have c3b1 : decide (1048576 < a0.size) = true := decide_eq_true (by omega)
    clear c3
    obtain rfl := Option.some.inj H
    go_enter Tryd.func11, Tryd.ntmps11
    go_wp2
    go_ret
    exact ⟨by first | rfl | (simp [errW_none, errW_some] <;> rfl) | (simp [*, errW_none, errW_some] <;> rfl), by repeat (first | (with_reducible first | exact HB.out | apply below_alloc | apply pw_below_drewN | apply below_drew1) | exact HB.out)⟩
  · rw [if_neg c3] at H
    have c3b0 : decide (1048576 < (a0.size : Int)) = false := decide_eq_false c3
    have c3b1 : decide (1048576 < a0.size) = false := decide_eq_false (by omega)
    clear c3
    by_cases c4 : (a1.size : Int) > 1048576
    · rw [if_pos c4] at H
      have c4b0 : decide (1048576 < (a1.size : Int)) = true := decide_eq_true c4
      have c4b1 : decide (1048576 < a1.size) = true := decide_eq_true (by omega)
      clear c4
      obtain rfl := Option.some.inj H
      go_enter Tryd.func11, Tryd.ntmps11
      go_wp2
      go_ret
      exact ⟨by first | rfl | (simp [errW_none, errW_some] <;> rfl) | (simp [*, errW_none, errW_some] <;> rfl), by repeat (first | (with_reducible first | exact HB.out | apply below_alloc | apply pw_below_drewN | apply below_drew1) | exact HB.out)⟩
    · rw [if_neg c4] at H
      have c4b0 : decide (1048576 < (a1.size : Int)) = false := decide_eq_false c4
      have c4b1 : decide (1048576 < a1.size) = false := decide_eq_false (by omega)
      clear c4
      replace H := Option.bind_eq_some_iff.mp H
      obtain ⟨⟨t101, t102⟩, A50, H⟩ := H
      replace H : ((impl_RankOfNumber.f k a0 a1).bind fun bt103 => (if bt103.1 = t101 then (if (bt103.2 != t102) = true then (some false) else (some true)) else (some false))) = some r := H
      have A5 := Aside0.mk A50
      clear A50
      replace H := Option.bind_eq_some_iff.mp H
      obtain ⟨⟨t103, t104⟩, A60, H⟩ := H
      replace H : (if t103 = t101 then (if (t104 != t102) = true then (some false) else (some true)) else (some false)) = some r := H
      have A6 := Aside0.mk A60
      clear A60
      by_cases c7 : t103 = t101
      · rw [if_pos c7] at H
        have c7b0 : (t103 == t101) = true := beq_iff_eq.mpr c7
        have c7b1 : (t103 != t101) = false := bne_eq_false_iff_eq.mpr c7
        clear c7
        by_cases c8 : (t104 != t102) = true
        · rw [if_pos c8] at H
          have c8b0 : (t104 != t102) = true := c8
          (try (have c8b1 : decide (t104 = t102) = false := by simpa using c8))
          (try (have c8b2 : (t104 == t102) = false := by simpa using c8))
          (try (have c8b3 : ¬ (t104 = t102) := by simpa using c8))
          clear c8
          obtain rfl := Option.some.inj H
          go_enter Tryd.func11, Tryd.ntmps11
          go_wp2_with (first | ((with_reducible refine gate_callee (f := 31) rfl ?_); refine goesL_ (some 18) rfl rfl Tryd.func31 (by kernel_rfl) rfl #[.string a0, .string a1] rfl (by (try simp only [List.map_toArray, List.map_cons, List.map_nil]); first | done | rfl | (simp only [List.length_drop, List.length_take]; rfl)) ?_; (with_reducible refine (spec_RankOfNumber.calls k a0 a1 t101 t102 _ A5.out).mono ?_); rintro e w9 ⟨rfl, hb⟩; refine ⟨_, rfl, ?_⟩; have n0_ := Aside0.mk (below_step (by repeat (first | (with_reducible first | exact HB.out | apply below_alloc | apply pw_below_drewN | apply below_drew1) | exact HB.out)) hb); clear HB; have HB := n0_; clear n0_; (try clear hb); (try clear hb2); (try clear hk); (try clear hi)) | ((with_reducible refine gate_callee (f := 32) rfl ?_); refine goesL_ (some 24) rfl rfl Tryd.func32 (by kernel_rfl) rfl #[.string a0, .string a1] rfl (by (try simp only [List.map_toArray, List.map_cons, List.map_nil]); first | done | rfl | (simp only [List.length_drop, List.length_take]; rfl)) ?_; (with_reducible refine (impl_RankOfNumber.calls k a0 a1 t103 t104 _ A6.out).mono ?_); rintro e w10 ⟨rfl, hb⟩; refine ⟨_, rfl, ?_⟩; have n0_ := Aside0.mk (below_step (by repeat (first | (with_reducible first | exact HB.out | apply below_alloc | apply pw_below_drewN | apply below_drew1) | exact HB.out)) hb); clear HB; have HB := n0_; clear n0_; (try clear hb); (try clear hb2); (try clear hk); (try clear hi)))
          go_ret
          exact ⟨by first | rfl | (simp [errW_none, errW_some] <;> rfl) | (simp [*, errW_none, errW_some] <;> rfl), by repeat (first | (with_reducible first | exact HB.out | apply below_alloc | apply pw_below_drewN | apply below_drew1) | exact HB.out)⟩
        · rw [if_neg c8] at H
          have c8b0 : (t104 != t102) = false := by simpa using c8
          (try (have c8b1 : decide (t104 = t102) = true := by simpa using c8))
          (try (have c8b2 : (t104 == t102) = true := by simpa using c8))
          clear c8
          obtain rfl := Option.some.inj H
          go_enter Tryd.func11, Tryd.ntmps11
          go_wp2_with (first | ((with_reducible refine gate_callee (f := 31) rfl ?_); refine goesL_ (some 18) rfl rfl Tryd.func31 (by kernel_rfl) rfl #[.string a0, .string a1] rfl (by (try simp only [List.map_toArray, List.map_cons, List.map_nil]); first | done | rfl | (simp only [List.length_drop, List.length_take]; rfl)) ?_; (with_reducible refine (spec_RankOfNumber.calls k a0 a1 t101 t102 _ A5.out).mono ?_); rintro e w11 ⟨rfl, hb⟩; refine ⟨_, rfl, ?_⟩; have n0_ := Aside0.mk (below_step (by repeat (first | (with_reducible first | exact HB.out | apply below_alloc | apply pw_below_drewN | apply below_drew1) | exact HB.out)) hb); clear HB; have HB := n0_; clear n0_; (try clear hb); (try clear hb2); (try clear hk); (try clear hi)) | ((with_reducible refine gate_callee (f := 32) rfl ?_); refine goesL_ (some 24) rfl rfl Tryd.func32 (by kernel_rfl) rfl #[.string a0, .string a1] rfl (by (try simp only [List.map_toArray, List.map_cons, List.map_nil]); first | done | rfl | (simp only [List.length_drop, List.length_take]; rfl)) ?_; (with_reducible refine (impl_RankOfNumber.calls k a0 a1 t103 t104 _ A6.out).mono ?_); rintro e w12 ⟨rfl, hb⟩; refine ⟨_, rfl, ?_⟩; have n0_ := Aside0.mk (below_step (by repeat (first | (with_reducible first | exact HB.out | apply below_alloc | apply pw_below_drewN | apply below_drew1) | exact HB.out)) hb); clear HB; have HB := n0_; clear n0_; (try clear hb); (try clear hb2); (try clear hk); (try clear hi)))
          go_ret
          exact ⟨by first | rfl | (simp [errW_none, errW_some] <;> rfl) | (simp [*, errW_none, errW_some] <;> rfl), by repeat (first | (with_reducible first | exact HB.out | apply below_alloc | apply pw_below_drewN | apply below_drew1) | exact HB.out)⟩
      · rw [if_neg c7] at H
        have c7b0 : (t103 == t101) = false := beq_eq_false_iff_ne.mpr c7
        have c7b1 : (t103 != t101) = true := bne_iff_ne.mpr c7
        obtain rfl := Option.some.inj H
        go_enter Tryd.func11, Tryd.ntmps11
        go_wp2_with (first | ((with_reducible refine gate_callee (f := 31) rfl ?_); refine goesL_ (some 18) rfl rfl Tryd.func31 (by kernel_rfl) rfl #[.string a0, .string a1] rfl (by (try simp only [List.map_toArray, List.map_cons, List.map_nil]); first | done | rfl | (simp only [List.length_drop, List.length_take]; rfl)) ?_; (with_reducible refine (spec_RankOfNumber.calls k a0 a1 t101 t102 _ A5.out).mono ?_); rintro e w13 ⟨rfl, hb⟩; refine ⟨_, rfl, ?_⟩; have n0_ := Aside0.mk (below_step (by repeat (first | (with_reducible first | exact HB.out | apply below_alloc | apply pw_below_drewN | apply below_drew1) | exact HB.out)) hb); clear HB; have HB := n0_; clear n0_; (try clear hb); (try clear hb2); (try clear hk); (try clear hi)) | ((with_reducible refine gate_callee (f := 32) rfl ?_); refine goesL_ (some 24) rfl rfl Tryd.func32 (by kernel_rfl) rfl #[.string a0, .string a1] rfl (by (try simp only [List.map_toArray, List.map_cons, List.map_nil]); first | done | rfl | (simp only [List.length_drop, List.length_take]; rfl)) ?_; (with_reducible refine (impl_RankOfNumber.calls k a0 a1 t103 t104 _ A6.out).mono ?_); rintro e w14 ⟨rfl, hb⟩; refine ⟨_, rfl, ?_⟩; have n0_ := Aside0.mk (below_step (by repeat (first | (with_reducible first | exact HB.out | apply below_alloc | apply pw_below_drewN | apply below_drew1) | exact HB.out)) hb); clear HB; have HB := n0_; clear n0_; (try clear hb); (try clear hb2); (try clear hk); (try clear hi)))
        go_ret
        exact ⟨by first | rfl | (simp [errW_none, errW_some] <;> rfl) | (simp [*, errW_none, errW_some] <;> rfl), by repeat (first | (with_reducible first | exact HB.out | apply below_alloc | apply pw_below_drewN | apply below_drew1) | exact HB.out)⟩

end Go.Proofs.YtbichbiiephmhaaDoor.P

namespace Go.Proofs.YtbichbiiephmhaaDoor
open Go.RowKit Go.Proofs.YtbichbiiephmhaaDoor.P Go.Proofs.YtbichbiiephmhaaDoorW.PrintWords Go.Proofs.YtbichbiiephmhaaDoorW.PrintLast
/-- The pure statement of FnExactRankOfNumber. -/
def PureFnExactRankOfNumber : Prop := ∀ (a0 : ByteArray) (a1 : ByteArray), a0.size ≤ 9223372036854775807 → a1.size ≤ 9223372036854775807 →  ∃ k, laws_FnExactRankOfNumber.f k a0 a1 = some true
end Go.Proofs.YtbichbiiephmhaaDoor

namespace Go.Proofs.YtbichbiiephmhaaDoor
open Go.RowKit Go.Proofs.YtbichbiiephmhaaDoorW.PrintWords
/-! Plain words for the pure statements: answers that stand from some number of rounds on. -/
theorem Ev.succ {α : Type} {g : Nat → Option α} {r : α} (h : Ev (fun k => g (k + 1)) r) : Ev g r := Ev.step (fun _ => rfl) h
theorem Ev.const {α : Type} {a : Option α} {r : α} (h : a = some r) : Ev (fun _ => a) r := ⟨0, fun _ _ => h⟩
theorem Ev.pos {α : Type} {c : Prop} [Decidable c] {g f : Nat → Option α} {r : α} (hc : c) (h : Ev g r) : Ev (fun k => if c then g k else f k) r := by simp only [if_pos hc]; exact h
theorem Ev.neg {α : Type} {c : Prop} [Decidable c] {g f : Nat → Option α} {r : α} (hc : ¬ c) (h : Ev f r) : Ev (fun k => if c then g k else f k) r := by simp only [if_neg hc]; exact h
theorem Ev.yes {α : Type} {c : Prop} [Decidable c] {g f : Nat → Option α} {r : α} (h : Ev g r) (hc : c := by first | omega | rfl | trivial | decide | simp | (simp; omega)) : Ev (fun k => if c then g k else f k) r := Ev.pos hc h
theorem Ev.no {α : Type} {c : Prop} [Decidable c] {g f : Nat → Option α} {r : α} (h : Ev f r) (hc : ¬ c := by first | omega | decide | simp | (simp; omega)) : Ev (fun k => if c then g k else f k) r := Ev.neg hc h
theorem Ev.bindc {α β : Type} {a : Option α} {x : α} {f : Nat → α → Option β} {r : β} (h : a = some x) (k : Ev (fun n => f n x) r) : Ev (fun n => a.bind (f n)) r := by subst h; exact k
theorem wrap_id {n : Int} (h1 : -9223372036854775808 ≤ n) (h2 : n ≤ 9223372036854775807) : wrap64 n = n := IntWalk.wrap64_in n ⟨h1, h2⟩
theorem wf_i64 {n : Int} (h : (Lit.int .i64 n).wf = true) : -9223372036854775808 ≤ n ∧ n ≤ 9223372036854775807 := by
  have e1 : IntKind.i64.min = -9223372036854775808 := rfl
  have e2 : IntKind.i64.max = 9223372036854775807 := rfl
  simp only [Lit.wf, e1, e2, Bool.and_eq_true, decide_eq_true_eq] at h
  exact h
theorem rd_nat (l : List Int) (j : Nat) (h : j < l.length) : rd l (j : Int) = l[j] := by unfold rd; simp [List.getD, h]
end Go.Proofs.YtbichbiiephmhaaDoor

namespace Go.Proofs.YtbichbiiephmhaaDoor
open Go.RowKit Go.Proofs.YtbichbiiephmhaaDoorW.PrintWords
set_option linter.unusedSimpArgs false
set_option linter.unusedVariables false
/-! Strings as lists of bytes. -/
/-- A string's bytes. -/
def bl (s : ByteArray) : List UInt8 := s.data.toList
theorem bl_len (s : ByteArray) : s.size = (bl s).length := rfl
theorem bl_inj {s t : ByteArray} (h : bl s = bl t) : s = t := ByteArray.ext (Array.toList_inj.1 h)
theorem bl_toList (s : ByteArray) : s.toList = bl s := Go.ByteArray.toList_eq s
theorem bl_mk (a : Array UInt8) : bl ⟨a⟩ = a.toList := rfl
theorem mk_bl (s : ByteArray) : (⟨(bl s).toArray⟩ : ByteArray) = s := bl_inj (by simp [bl])
theorem bl_extract (s : ByteArray) (i j : Nat) : bl (s.extract i j) = ((bl s).drop i).take (j - i) := by simp [bl, ByteArray.data_extract]
theorem bl_append (s t : ByteArray) : bl (s ++ t) = bl s ++ bl t := by simp [bl, ByteArray.data_append]
theorem bl_nums (l : List Int) : bl (strOfNums l) = l.map fun n => UInt8.ofNat n.toNat := rfl
theorem bl_empty : bl (⟨#[]⟩ : ByteArray) = [] := rfl
theorem bt_nat (s : ByteArray) (i : Nat) (h : i < (bl s).length) : bt s (i : Int) = ((bl s)[i].toNat : Int) := by
  unfold bt
  have h' : ((i : Int)).toNat < s.size := by rw [Int.toNat_natCast]; exact h
  rw [dif_pos h']; rfl
theorem of_toNat (c : UInt8) : UInt8.ofNat ((c.toNat : Int)).toNat = c := by rw [Int.toNat_natCast]; simp
theorem bt_of (s : ByteArray) (i : Nat) (h : i < (bl s).length) : UInt8.ofNat (bt s (i : Int)).toNat = (bl s)[i] := by rw [bt_nat s i h]; exact of_toNat _
theorem byte_eq (c d : UInt8) : ((c.toNat : Int) = (d.toNat : Int)) ↔ c = d := by
  constructor
  · intro h; exact UInt8.toNat_inj.1 (by exact_mod_cast h)
  · intro h; rw [h]
theorem byte_lt (c d : UInt8) : ((c.toNat : Int) < (d.toNat : Int)) ↔ c < d := by rw [UInt8.lt_iff_toNat_lt]; omega
theorem byte_le (c d : UInt8) : ((c.toNat : Int) ≤ (d.toNat : Int)) ↔ c ≤ d := by rw [UInt8.le_iff_toNat_le]; omega
theorem dropWhile_nil {α : Type} (p : α → Bool) : ∀ l : List α, l.dropWhile p = [] ↔ l.all p = true
  | [] => by simp
  | x :: xs => by
    by_cases h : p x = true
    · simp [List.dropWhile_cons, h, dropWhile_nil p xs]
    · simp [List.dropWhile_cons, h]
theorem dropWhile_keeps {α : Type} (p : α → Bool) : ∀ l : List α, (l.dropWhile p).all p = l.all p
  | [] => rfl
  | x :: xs => by
    by_cases h : p x = true
    · simp only [List.dropWhile_cons, h, if_true, List.all_cons, Bool.true_and]; exact dropWhile_keeps p xs
    · simp [List.dropWhile_cons, h]
theorem trimS_nil (l cs : List UInt8) : Lib.trimS l cs = [] ↔ l.all (cs.contains ·) = true := by
  unfold Lib.trimS Lib.trimLeftS Lib.trimRightS
  rw [dropWhile_nil, List.all_reverse, dropWhile_keeps, List.all_reverse]
theorem indexByte_neg (l : List UInt8) (c : UInt8) : Lib.indexByte l c < 0 ↔ ¬ c ∈ l := by
  induction l with
  | nil => simp [Lib.indexByte]
  | cons b l ih =>
    have hge := Lib.indexByte_ge l c
    unfold Lib.indexByte
    by_cases h : b = c
    · subst h; simp
    · have h1 : (b == c) = false := by simpa using h
      rw [h1]
      have h2 : ¬ c = b := fun e => h e.symm
      simp only [Bool.false_eq_true, if_false, List.mem_cons, h2, false_or]
      by_cases e : Lib.indexByte l c = -1
      · simp only [e, beq_self_eq_true, if_true]
        have := ih.1 (by omega)
        simp [this]
      · have e' : (Lib.indexByte l c == -1) = false := by simpa using e
        rw [e']
        simp only [Bool.false_eq_true, if_false]
        have hp : ¬ Lib.indexByte l c < 0 := by omega
        have := mt ih.2 hp
        constructor
        · intro h3; omega
        · intro h3; exact absurd h3 this
/-- The letters. -/
def isLow (c : UInt8) : Bool := decide (97 ≤ c.toNat) && decide (c.toNat ≤ 122)
theorem u8_all (P : UInt8 → Prop) [DecidablePred P] (h : ∀ n, n < 256 → P (UInt8.ofNat n)) (c : UInt8) : P c := by
  have := h c.toNat c.toNat_lt
  rwa [show UInt8.ofNat c.toNat = c from by simp] at this
theorem low_contains (c : UInt8) : ([97, 98, 99, 100, 101, 102, 103, 104, 105, 106, 107, 108, 109, 110, 111, 112, 113, 114, 115, 116, 117, 118, 119, 120, 121, 122] : List UInt8).contains c = isLow c := by
  refine u8_all (fun c => _ = isLow c) ?_ c
  decide +kernel
theorem dig_contains (c : UInt8) : ([48, 49, 50, 51, 52, 53, 54, 55, 56, 57] : List UInt8).contains c = (decide (48 ≤ c.toNat) && decide (c.toNat ≤ 57)) := by
  refine u8_all (fun c => _ = (decide (48 ≤ c.toNat) && decide (c.toNat ≤ 57))) ?_ c
  decide +kernel
end Go.Proofs.YtbichbiiephmhaaDoor

namespace Go.Proofs.YtbichbiiephmhaaDoor
open Go.RowKit Go.Proofs.YtbichbiiephmhaaDoor.P Go.Proofs.YtbichbiiephmhaaDoorW.PrintWords
set_option linter.unusedSimpArgs false
set_option linter.unusedVariables false
theorem in_eq (n a b : Int) : impl_in.f n a b = some (decide (a ≤ n) && decide (n ≤ b)) := by
  unfold impl_in.f
  by_cases h : a ≤ n
  · rw [if_pos h]; simp [h]
  · rw [if_neg h]; simp [h]
theorem l1In_eq (n a b : Int) : spec_l1In.f n a b = some (decide (a ≤ n) && decide (n ≤ b)) := by
  unfold spec_l1In.f
  by_cases h : a ≤ n
  · rw [if_pos h]; simp [h]
  · rw [if_neg h]; simp [h]
end Go.Proofs.YtbichbiiephmhaaDoor

namespace Go.Proofs.YtbichbiiephmhaaDoor
open Go.RowKit Go.Proofs.YtbichbiiephmhaaDoor.P Go.Proofs.YtbichbiiephmhaaDoorW.PrintWords
set_option linter.unusedSimpArgs false
set_option linter.unusedVariables false
theorem over_eq (s cs : ByteArray) (h1 : s.size ≤ 9223372036854775807) (h2 : cs.size < 4294967281) (h3 : (bl cs).all (fun b => decide (b.toNat < 128)) = true) : impl_over.f s cs = some ((bl s).all ((bl cs).contains ·)) := by
  unfold impl_over.f strings_Trim.f
  rw [if_pos ⟨h1, h2, h3⟩]
  simp only [Option.bind_some]
  congr 1
  rw [bl_toList, bl_mk, List.toList_toArray]
  have := trimS_nil (bl s) (bl cs)
  unfold bl at this ⊢
  rw [Bool.eq_iff_iff, beq_iff_eq]
  exact this
/-- Is it a digit's sign? -/
def isDig (c : UInt8) : Bool := decide (48 ≤ c.toNat) && decide (c.toNat ≤ 57)
theorem overDig_eq (s : ByteArray) (h1 : s.size ≤ 9223372036854775807) : impl_over.f s (⟨#[48, 49, 50, 51, 52, 53, 54, 55, 56, 57]⟩ : ByteArray) = some ((bl s).all isDig) := by
  rw [over_eq s _ h1 (by decide) (by decide)]
  congr 1
  congr 1
  funext c
  exact dig_contains c
/-- Digits, of a length. -/
def digsB (l : List UInt8) (a b : Nat) : Bool := decide (a ≤ l.length) && decide (l.length ≤ b) && l.all isDig
theorem isDigits_eq (s : ByteArray) (a b : Nat) (h1 : s.size ≤ 9223372036854775807) : impl_isDigits.f s a b = some (digsB (bl s) a b) := by
  unfold impl_isDigits.f digsB
  rw [in_eq]
  have e : (decide ((a : Int) ≤ (s.size : Int)) && decide ((s.size : Int) ≤ (b : Int))) = (decide (a ≤ (bl s).length) && decide ((bl s).length ≤ b)) := by
    rw [bl_len]; congr 1 <;> (rw [decide_eq_decide]; omega)
  rw [e]
  simp only [Option.bind_some]
  cases (decide (a ≤ (bl s).length) && decide ((bl s).length ≤ b)) with
  | false => rfl
  | true => rw [if_pos rfl, overDig_eq s h1]; rfl
theorem isDig_at {l : List UInt8} (h : l.all isDig = true) (i : Nat) (hi : i < l.length) : 48 ≤ l[i].toNat ∧ l[i].toNat ≤ 57 := by
  have := List.all_eq_true.1 h _ (List.getElem_mem hi)
  unfold isDig at this
  simpa only [Bool.and_eq_true, decide_eq_true_eq] using this
end Go.Proofs.YtbichbiiephmhaaDoor

namespace Go.Proofs.YtbichbiiephmhaaDoor
open Go.RowKit Go.Proofs.YtbichbiiephmhaaDoor.P Go.Proofs.YtbichbiiephmhaaDoorW.PrintWords
set_option linter.unusedSimpArgs false
set_option linter.unusedVariables false
/-- Is it a piece? -/
def pieceB (l : List UInt8) : Bool := decide (l = [110]) || decide (l = [107]) || decide (l = [114]) || decide (l = [98])
theorem pieceB_of {s : ByteArray} (h : pieceB (bl s) = true) : s = ⟨#[110]⟩ ∨ s = ⟨#[107]⟩ ∨ s = ⟨#[114]⟩ ∨ s = ⟨#[98]⟩ := by
  unfold pieceB at h
  simp only [Bool.or_eq_true, decide_eq_true_eq] at h
  rcases h with ((h | h) | h) | h
  · exact .inl (bl_inj h)
  · exact .inr (.inl (bl_inj h))
  · exact .inr (.inr (.inl (bl_inj h)))
  · exact .inr (.inr (.inr (bl_inj h)))
theorem isPiece_eq (s : ByteArray) : impl_isPiece.f s = some (pieceB (bl s)) := by
  unfold impl_isPiece.f strings_Contains.f
  have e : (s.size : Int) = 1 ↔ (bl s).length = 1 := by rw [bl_len]; omega
  cases h : bl s with
  | nil => rw [if_neg (by rw [e, h]; simp)]; rfl
  | cons c r =>
    cases r with
    | cons d r => rw [if_neg (by rw [e, h]; simp)]; simp [pieceB]
    | nil =>
      rw [if_pos (by rw [e, h]; rfl), if_pos (by rw [bl_len, h]; rfl)]
      have hd : s.data.toList = [c] := h
      simp only [Option.bind_some, hd]
      congr 1
      refine u8_all (fun c => decide (0 ≤ Lib.indexByte [110, 107, 114, 98] c) = pieceB [c]) ?_ c
      decide +kernel
theorem wkPiece_eq (s : ByteArray) : spec_wkPiece.f s = some (pieceB (bl s)) := by
  unfold spec_wkPiece.f pieceB
  rw [bl_toList]
  by_cases h1 : bl s = [110]
  · rw [if_pos h1, decide_eq_true h1]; rfl
  · rw [if_neg h1, decide_eq_false h1]
    by_cases h2 : bl s = [107]
    · rw [if_pos h2, decide_eq_true h2]; rfl
    · rw [if_neg h2, decide_eq_false h2]
      by_cases h3 : bl s = [114]
      · rw [if_pos h3, decide_eq_true h3]; rfl
      · rw [if_neg h3, decide_eq_false h3]; simp only [Bool.false_or]; congr 1; rw [Bool.eq_iff_iff, beq_iff_eq, decide_eq_true_eq]
end Go.Proofs.YtbichbiiephmhaaDoor

-- printed by xprint.py
namespace Go.Proofs.YtbichbiiephmhaaDoor.P
open Go.RowKit Go.Proofs.YtbichbiiephmhaaDoorW.PrintWords Go.Proofs.YtbichbiiephmhaaDoorW.PrintLast Go.Proofs.YtbichbiiephmhaaDoorW.PrintMore
attribute [local go_sem] max2_int min2_int max_two min_two max_three min_three max_four min_four   -- for this text's walks alone
set_option linter.unusedVariables false
set_option linter.unusedSimpArgs false

/-! ### spec_wkAsked: function 41 -/
def spec_wkAsked.f (k : Nat) (a0 : ByteArray) (a1 : ByteArray) : Option (Bool) := (spec_wkPiece.f a0).bind fun t101 => (if t101 = true then ((spec_wkDigits.f k a1).bind fun t102 => (if t102 = true then (some ((a1.size : Int) == 1)) else (some false))) else (some false))
theorem spec_wkAsked.mono : ∀ a0 a1 k, LeO (spec_wkAsked.f k a0 a1) (spec_wkAsked.f (k + 1) a0 a1) := by
  intro a0 a1 k
  unfold spec_wkAsked.f
  repeat' first
      | (with_reducible exact spec_wkDigits.mono _ _)
      | (with_reducible exact LeO.refl _)
      | (with_reducible exact LeO.none _)
      | (with_reducible refine LeO.ite ?_ ?_)
      | (with_reducible refine LeO.bind ?_ (fun _ => ?_))
      | exact spec_wkDigits.mono _ _
      | exact LeO.none _
      | refine LeO.ite ?_ ?_
      | refine LeO.bind ?_ (fun _ => ?_)
set_option maxHeartbeats 8000000 in
set_option maxRecDepth 100000 in
theorem spec_wkAsked.calls (k : Nat) (a0 : ByteArray) (a1 : ByteArray) (r : Bool) (w : World) (h : spec_wkAsked.f k a0 a1 = some r) :
    Calls Tryd.prog 41 #[.string a0, .string a1] w fun e w' => e = .returned (.bool r) ∧ Drawn0 w w' := by
  have H : ((spec_wkPiece.f a0).bind fun t101 => (if t101 = true then ((spec_wkDigits.f k a1).bind fun t102 => (if t102 = true then (some ((a1.size : Int) == 1)) else (some false))) else (some false))) = some r := h
  clear h
  replace H := Option.bind_eq_some_iff.mp H
  obtain ⟨t101, A30, H⟩ := H
  replace H : (if t101 = true then ((spec_wkDigits.f k a1).bind fun t102 => (if t102 = true then (some ((a1.size : Int) == 1)) else (some false))) else (some false)) = some r := H
  have A3 := Aside0.mk A30
  clear A30
  by_cases c4 : t101 = true
  · subst c4
    have H1 : ((spec_wkDigits.f k a1).bind fun t102 => (if t102 = true then (some ((a1.size : Int) == 1)) else (some false))) = some r := by rw [if_pos rfl] at H; exact H
    clear H
    have H := H1
    clear H1
    replace H := Option.bind_eq_some_iff.mp H
    obtain ⟨t102, A50, H⟩ := H
    replace H : (if t102 = true then (some ((a1.size : Int) == 1)) else (some false)) = some r := H
    have A5 := Aside0.mk A50
    clear A50
    by_cases c6 : t102 = true
    · subst c6
      have H1 : (some ((a1.size : Int) == 1)) = some r := by rw [if_pos rfl] at H; exact H
      clear H
      have H := H1
      clear H1
      obtain rfl := Option.some.inj H
      go_enter Tryd.func41, Tryd.ntmps41
      go_wp2_with (first | ((with_reducible refine gate_callee (f := 46) rfl ?_); refine goesL_ (some 6) rfl rfl Tryd.func46 (by kernel_rfl) rfl #[.string a0] rfl (by (try simp only [List.map_toArray, List.map_cons, List.map_nil]); first | done | rfl | (simp only [List.length_drop, List.length_take]; rfl)) ?_; (with_reducible refine (spec_wkPiece.calls a0 true _ A3.out).mono ?_); rintro e w' ⟨rfl, ⟨nd, rfl⟩⟩; refine ⟨_, rfl, ?_⟩) | (go_at_call 33; (with_reducible refine (spec_wkDigits.calls k a1 true _ A5.out).mono ?_); rintro e w' ⟨rfl, ⟨nd, rfl⟩⟩))
      go_ret
      exact ⟨by first | rfl | (simp; done) | (simp [*]; done), by repeat (first | exact Drawn0.refl _ | apply Drawn0.step)⟩
    · replace c6 := Bool.eq_false_iff.mpr c6
      subst c6
      have H1 : (some false) = some r := by rw [if_neg (show ¬ (false = true) by decide)] at H; exact H
      clear H
      have H := H1
      clear H1
      obtain rfl := Option.some.inj H
      go_enter Tryd.func41, Tryd.ntmps41
      go_wp2_with (first | ((with_reducible refine gate_callee (f := 46) rfl ?_); refine goesL_ (some 6) rfl rfl Tryd.func46 (by kernel_rfl) rfl #[.string a0] rfl (by (try simp only [List.map_toArray, List.map_cons, List.map_nil]); first | done | rfl | (simp only [List.length_drop, List.length_take]; rfl)) ?_; (with_reducible refine (spec_wkPiece.calls a0 true _ A3.out).mono ?_); rintro e w' ⟨rfl, ⟨nd, rfl⟩⟩; refine ⟨_, rfl, ?_⟩) | (go_at_call 33; (with_reducible refine (spec_wkDigits.calls k a1 false _ A5.out).mono ?_); rintro e w' ⟨rfl, ⟨nd, rfl⟩⟩))
      go_ret
      exact ⟨by first | rfl | (simp; done) | (simp [*]; done), by repeat (first | exact Drawn0.refl _ | apply Drawn0.step)⟩
  · replace c4 := Bool.eq_false_iff.mpr c4
    subst c4
    have H1 : (some false) = some r := by rw [if_neg (show ¬ (false = true) by decide)] at H; exact H
    clear H
    have H := H1
    clear H1
    obtain rfl := Option.some.inj H
    go_enter Tryd.func41, Tryd.ntmps41
    go_wp2_with (first | ((with_reducible refine gate_callee (f := 46) rfl ?_); refine goesL_ (some 6) rfl rfl Tryd.func46 (by kernel_rfl) rfl #[.string a0] rfl (by (try simp only [List.map_toArray, List.map_cons, List.map_nil]); first | done | rfl | (simp only [List.length_drop, List.length_take]; rfl)) ?_; (with_reducible refine (spec_wkPiece.calls a0 false _ A3.out).mono ?_); rintro e w' ⟨rfl, ⟨nd, rfl⟩⟩; refine ⟨_, rfl, ?_⟩))
    go_ret
    exact ⟨by first | rfl | (simp; done) | (simp [*]; done), by repeat (first | exact Drawn0.refl _ | apply Drawn0.step)⟩

end Go.Proofs.YtbichbiiephmhaaDoor.P

namespace Go.Proofs.YtbichbiiephmhaaDoor
open Go.RowKit Go.Proofs.YtbichbiiephmhaaDoor.P Go.Proofs.YtbichbiiephmhaaDoorW.PrintWords
set_option linter.unusedSimpArgs false
set_option linter.unusedVariables false
theorem isDigit_eq (s : ByteArray) (h1 : s.size ≤ 9223372036854775807) : impl_isDigit.f s = some (digsB (bl s) 1 1) := by
  unfold impl_isDigit.f
  rw [show impl_isDigits.f s 1 1 = some (digsB (bl s) 1 1) from isDigits_eq s 1 1 h1]; rfl
theorem digit_of {s : ByteArray} (h : digsB (bl s) 1 1 = true) : ∃ d : Nat, d < 10 ∧ s = ⟨#[UInt8.ofNat (48 + d)]⟩ := by
  unfold digsB at h
  simp only [Bool.and_eq_true, decide_eq_true_eq] at h
  have hl : (bl s).length = 1 := by omega
  obtain ⟨c, hc⟩ := List.length_eq_one_iff.1 hl
  have hd := isDig_at h.2 0 (by omega)
  simp only [hc, List.getElem_cons_zero] at hd
  refine ⟨c.toNat - 48, by omega, bl_inj ?_⟩
  rw [hc, bl_mk]
  show [c] = [UInt8.ofNat (48 + (c.toNat - 48))]
  rw [show 48 + (c.toNat - 48) = c.toNat from by omega]; simp
theorem wkDigits_l0 (s : ByteArray) (hs : s.size ≤ 9223372036854775806) : ∀ (d i : Nat), i + d = s.size → Ev (fun k => spec_wkDigits.l0 k s i) (((bl s).drop i).all isDig)
  | 0, i, hi => by
    apply Ev.succ
    simp only [spec_wkDigits.l0]
    refine Ev.neg (by omega) (Ev.const ?_)
    rw [List.drop_of_length_le (by rw [← bl_len]; omega)]; rfl
  | d + 1, i, hi => by
    have hlt : i < (bl s).length := by rw [← bl_len]; omega
    apply Ev.succ
    simp only [spec_wkDigits.l0]
    refine Ev.pos (by omega) (Ev.pos (by omega) ?_)
    rw [wrap_id (by omega) (by omega), bt_nat s i hlt, List.drop_eq_getElem_cons hlt, List.all_cons]
    by_cases c1 : ((bl s)[i].toNat : Int) < 48
    · refine Ev.pos c1 (Ev.const ?_)
      have : isDig (bl s)[i] = false := by unfold isDig; rw [Bool.and_eq_false_iff]; left; rw [decide_eq_false_iff_not]; omega
      rw [this]; rfl
    · refine Ev.neg c1 ?_
      by_cases c2 : ((bl s)[i].toNat : Int) > 57
      · refine Ev.pos c2 (Ev.const ?_)
        have : isDig (bl s)[i] = false := by unfold isDig; rw [Bool.and_eq_false_iff]; right; rw [decide_eq_false_iff_not]; omega
        rw [this]; rfl
      · refine Ev.neg c2 ?_
        have : isDig (bl s)[i] = true := by unfold isDig; rw [Bool.and_eq_true, decide_eq_true_eq, decide_eq_true_eq]; omega
        rw [this, Bool.true_and]
        exact_mod_cast wkDigits_l0 s hs d (i + 1) (by omega)
theorem wkDigits_ev (s : ByteArray) : Ev (fun k => spec_wkDigits.f k s) (digsB (bl s) 1 40) := by
  unfold spec_wkDigits.f digsB
  refine Ev.bindc (l1In_eq _ _ _) ?_
  have e : (decide ((1 : Int) ≤ (s.size : Int)) && decide ((s.size : Int) ≤ 40)) = (decide (1 ≤ (bl s).length) && decide ((bl s).length ≤ 40)) := by
    rw [bl_len]; congr 1 <;> (rw [decide_eq_decide]; omega)
  rw [e]
  cases h : (decide (1 ≤ (bl s).length) && decide ((bl s).length ≤ 40)) with
  | false => exact Ev.no (Ev.now _)
  | true =>
    have : s.size ≤ 40 := by simp only [Bool.and_eq_true, decide_eq_true_eq] at h; rw [bl_len]; omega
    refine Ev.yes ?_
    rw [Bool.true_and]
    exact wkDigits_l0 s (by omega) s.size 0 (by omega)
theorem wkAsked_ev (a s : ByteArray) : Ev (fun k => spec_wkAsked.f k a s) (pieceB (bl a) && digsB (bl s) 1 1) := by
  unfold spec_wkAsked.f
  refine Ev.bindc (wkPiece_eq a) ?_
  cases pieceB (bl a) with
  | false => exact Ev.no (Ev.now _)
  | true =>
    refine Ev.yes (Ev.bind (wkDigits_ev s) ?_)
    rw [Bool.true_and]
    cases h : digsB (bl s) 1 40 with
    | false =>
      refine Ev.no (Ev.const ?_)
      have : digsB (bl s) 1 1 = false := by
        rw [Bool.eq_false_iff]; intro h'; rw [Bool.eq_false_iff] at h; apply h
        unfold digsB at h' ⊢
        simp only [Bool.and_eq_true, decide_eq_true_eq] at h' ⊢
        exact ⟨⟨by omega, by omega⟩, h'.2⟩
      rw [this]
    | true =>
      refine Ev.yes (Ev.const ?_)
      unfold digsB at h ⊢
      simp only [Bool.and_eq_true, decide_eq_true_eq] at h
      rw [h.2, Bool.and_true, bl_len]
      congr 1
      rw [Bool.eq_iff_iff, beq_iff_eq, Bool.and_eq_true, decide_eq_true_eq, decide_eq_true_eq]
      omega
end Go.Proofs.YtbichbiiephmhaaDoor

namespace Go.Proofs.YtbichbiiephmhaaDoor
open Go.RowKit Go.Proofs.YtbichbiiephmhaaDoor.P Go.Proofs.YtbichbiiephmhaaDoorW.PrintWords
set_option linter.unusedSimpArgs false
set_option linter.unusedVariables false
/-- The next digits of all digits. -/
def tbl (p : ByteArray) : List (List Int) := (impl_moves.f 300 p).getD []
def isPc (p : ByteArray) : Prop := p = ⟨#[110]⟩ ∨ p = ⟨#[107]⟩ ∨ p = ⟨#[114]⟩ ∨ p = ⟨#[98]⟩
theorem isPc_of {s : ByteArray} (h : pieceB (bl s) = true) : isPc s := pieceB_of h
theorem tbl_n : (impl_moves.f 300 ⟨#[110]⟩).isSome = true := by decide +kernel
theorem tbl_k : (impl_moves.f 300 ⟨#[107]⟩).isSome = true := by decide +kernel
theorem tbl_r : (impl_moves.f 300 ⟨#[114]⟩).isSome = true := by decide +kernel
theorem tbl_b : (impl_moves.f 300 ⟨#[98]⟩).isSome = true := by decide +kernel
theorem moves_at {p : ByteArray} (h : isPc p) : impl_moves.f 300 p = some (tbl p) := by
  have : (impl_moves.f 300 p).isSome = true := by
    rcases h with rfl | rfl | rfl | rfl
    · exact tbl_n
    · exact tbl_k
    · exact tbl_r
    · exact tbl_b
  obtain ⟨l, hl⟩ := Option.isSome_iff_exists.1 this
  unfold tbl; rw [hl]; rfl
theorem moves_ev {p : ByteArray} (h : isPc p) : Ev (fun k => impl_moves.f k p) (tbl p) := Ev.of (impl_moves.mono _) (moves_at h)
theorem tbl_shape {p : ByteArray} (h : isPc p) : (tbl p).length = 10 ∧ ∀ l ∈ tbl p, l.length ≤ 8 ∧ ∀ x ∈ l, 0 ≤ x ∧ x < 10 := by
  rcases h with rfl | rfl | rfl | rfl <;> decide +kernel
theorem rd_tbl {p : ByteArray} (h : isPc p) (d : Nat) (hd : d < 10) : (tbl p).getD d [] ∈ tbl p := by
  have := (tbl_shape h).1
  rw [List.getD_eq_getElem?_getD, List.getElem?_eq_getElem (by omega)]
  exact List.getElem_mem _
end Go.Proofs.YtbichbiiephmhaaDoor

namespace Go.Proofs.YtbichbiiephmhaaDoor
open Go.RowKit Go.Proofs.YtbichbiiephmhaaDoor.P Go.Proofs.YtbichbiiephmhaaDoorW.PrintWords
set_option linter.unusedSimpArgs false
set_option linter.unusedVariables false
theorem goes_n : ∀ d e : Fin 10, spec_wkGoes.f 100 ⟨#[110]⟩ (48 + d.val) (48 + e.val) = some (decide ((e.val : Int) ∈ (tbl ⟨#[110]⟩).getD d.val [])) := by decide +kernel
theorem goes_k : ∀ d e : Fin 10, spec_wkGoes.f 100 ⟨#[107]⟩ (48 + d.val) (48 + e.val) = some (decide ((e.val : Int) ∈ (tbl ⟨#[107]⟩).getD d.val [])) := by decide +kernel
theorem goes_r : ∀ d e : Fin 10, spec_wkGoes.f 100 ⟨#[114]⟩ (48 + d.val) (48 + e.val) = some (decide ((e.val : Int) ∈ (tbl ⟨#[114]⟩).getD d.val [])) := by decide +kernel
theorem goes_b : ∀ d e : Fin 10, spec_wkGoes.f 100 ⟨#[98]⟩ (48 + d.val) (48 + e.val) = some (decide ((e.val : Int) ∈ (tbl ⟨#[98]⟩).getD d.val [])) := by decide +kernel
theorem goes_ev {p : ByteArray} (h : isPc p) (d e : Nat) (hd : d < 10) (he : e < 10) : Ev (fun k => spec_wkGoes.f k p (48 + d) (48 + e)) (decide ((e : Int) ∈ (tbl p).getD d [])) := by
  refine Ev.of (k := 100) (spec_wkGoes.mono _ _ _) ?_
  rcases h with rfl | rfl | rfl | rfl
  · exact goes_n ⟨d, hd⟩ ⟨e, he⟩
  · exact goes_k ⟨d, hd⟩ ⟨e, he⟩
  · exact goes_r ⟨d, hd⟩ ⟨e, he⟩
  · exact goes_b ⟨d, hd⟩ ⟨e, he⟩
theorem idx_l0 (l : List Int) (x : Int) (hl : l.length ≤ 1000000) : ∀ (d i : Nat), i + d = l.length → ∃ r, Ev (fun k => slices_Index_int_int.l0 k l x (l.length : Int) i) r ∧ (0 ≤ r ↔ x ∈ l.drop i)
  | 0, i, hi => by
    refine ⟨-1, ?_, ?_⟩
    · apply Ev.succ; simp only [slices_Index_int_int.l0]; exact Ev.neg (by omega) (Ev.now _)
    · rw [List.drop_of_length_le (by omega)]; simp
  | d + 1, i, hi => by
    have hlt : i < l.length := by omega
    obtain ⟨r, hr, h⟩ := idx_l0 l x hl d (i + 1) (by omega)
    rw [List.drop_eq_getElem_cons hlt]
    by_cases e : x = l[i]
    · refine ⟨i, ?_, ?_⟩
      · apply Ev.succ; simp only [slices_Index_int_int.l0]
        rw [rd_nat l i hlt]
        exact Ev.yes (Ev.yes (Ev.yes (Ev.pos e (Ev.now _))))
      · exact ⟨fun _ => List.mem_cons.2 (.inl e), fun _ => by omega⟩
    · refine ⟨r, ?_, ?_⟩
      · apply Ev.succ; simp only [slices_Index_int_int.l0]
        rw [rd_nat l i hlt, wrap_id (by omega) (by omega)]
        refine Ev.yes (Ev.yes (Ev.yes (Ev.neg e ?_)))
        exact_mod_cast hr
      · rw [h, List.mem_cons]
        exact ⟨.inr, fun h' => h'.elim (fun h'' => absurd h'' e) id⟩
theorem contains_ev (l : List Int) (x : Int) (hl : l.length ≤ 1000000) : Ev (fun k => slices_Contains_int_int.f k l x) (decide (x ∈ l)) := by
  obtain ⟨r, hr, h⟩ := idx_l0 l x hl l.length 0 (by omega)
  unfold slices_Contains_int_int.f slices_Index_int_int.f
  refine Ev.bind hr (Ev.const ?_)
  congr 1
  rw [decide_eq_decide]
  rw [List.drop_zero] at h
  exact h
end Go.Proofs.YtbichbiiephmhaaDoor

namespace Go.Proofs.YtbichbiiephmhaaDoor
open Go.RowKit Go.Proofs.YtbichbiiephmhaaDoor.P Go.Proofs.YtbichbiiephmhaaDoorW.PrintWords
set_option linter.unusedSimpArgs false
set_option linter.unusedVariables false
namespace IsWalk
/-- Does each digit lead to the next one? -/
def walkB (p : ByteArray) : List UInt8 → Bool
  | c :: d :: r => decide (((d.toNat : Int) - 48) ∈ (tbl p).getD (c.toNat - 48) []) && walkB p (d :: r)
  | _ => true
theorem impl_l0 {p : ByteArray} (hp : isPc p) (s : ByteArray) (hs : (bl s).length ≤ 40) (hd : (bl s).all isDig = true) : ∀ (d i : Nat), i + d + 1 = (bl s).length → Ev (fun k => impl_isWalk.l0 k s (tbl p) ((i : Int) + 1)) (walkB p ((bl s).drop i))
  | 0, i, hi => by
    apply Ev.succ; simp only [impl_isWalk.l0]
    refine Ev.neg (by rw [bl_len]; omega) (Ev.const ?_)
    rw [List.drop_eq_getElem_cons (by omega), List.drop_of_length_le (by omega)]; rfl
  | d + 1, i, hi => by
    have h0 : i < (bl s).length := by omega
    have h1 : i + 1 < (bl s).length := by omega
    have d0 := isDig_at hd i h0
    have d1 := isDig_at hd (i + 1) h1
    have hsz : s.size = (bl s).length := rfl
    apply Ev.succ; simp only [impl_isWalk.l0, impl_digit.f, Option.bind_some]
    have e1 : wrap64 ((i : Int) + 1 - 1) = (i : Int) := by rw [wrap_id (by omega) (by omega)]; omega
    have e2 : bt s ((i : Int) + 1) = ((bl s)[i + 1].toNat : Int) := bt_nat s (i + 1) h1
    rw [e1, bt_nat s i h0, e2, wrap_id (n := (i : Int) + 1 + 1) (by omega) (by omega)]
    have e3 : (((bl s)[i].toNat : Int) - 48) % 256 = (((bl s)[i].toNat - 48 : Nat) : Int) := by omega
    have e4 : (((bl s)[i + 1].toNat : Int) - 48) % 256 = ((bl s)[i + 1].toNat : Int) - 48 := by omega
    rw [e3, e4]
    have hl := (tbl_shape hp).1
    refine Ev.yes (Ev.yes (Ev.yes (Ev.yes (Ev.yes (Ev.yes ?_)))))
    have e5 : rd_L4 (tbl p) (((bl s)[i].toNat - 48 : Nat) : Int) = (tbl p).getD ((bl s)[i].toNat - 48) [] := by unfold rd_L4; rw [Int.toNat_natCast]
    rw [e5, List.drop_eq_getElem_cons h0, List.drop_eq_getElem_cons h1]
    unfold walkB
    refine Ev.bind (contains_ev _ _ (by have := ((tbl_shape hp).2 _ (rd_tbl hp ((bl s)[i].toNat - 48) (by omega))).1; omega)) ?_
    cases hc : decide (((bl s)[i + 1].toNat : Int) - 48 ∈ (tbl p).getD ((bl s)[i].toNat - 48) []) with
    | false => exact Ev.no (Ev.now _)
    | true =>
      refine Ev.yes ?_
      rw [Bool.true_and, ← List.drop_eq_getElem_cons h1]
      have := impl_l0 hp s hs hd d (i + 1) (by omega)
      exact_mod_cast this
theorem spec_l0 {p : ByteArray} (hp : isPc p) (s : ByteArray) (hs : (bl s).length ≤ 40) (hd : (bl s).all isDig = true) : ∀ (d i : Nat), i + d + 1 = (bl s).length → Ev (fun k => spec_wkWalk.l0 k p s ((i : Int) + 1)) (walkB p ((bl s).drop i))
  | 0, i, hi => by
    apply Ev.succ; simp only [spec_wkWalk.l0]
    refine Ev.neg (by rw [bl_len]; omega) (Ev.const ?_)
    rw [List.drop_eq_getElem_cons (by omega), List.drop_of_length_le (by omega)]; rfl
  | d + 1, i, hi => by
    have h0 : i < (bl s).length := by omega
    have h1 : i + 1 < (bl s).length := by omega
    have d0 := isDig_at hd i h0
    have d1 := isDig_at hd (i + 1) h1
    have hsz : s.size = (bl s).length := rfl
    apply Ev.succ; simp only [spec_wkWalk.l0]
    have e1 : wrap64 ((i : Int) + 1 - 1) = (i : Int) := by rw [wrap_id (by omega) (by omega)]; omega
    have e2 : bt s ((i : Int) + 1) = ((bl s)[i + 1].toNat : Int) := bt_nat s (i + 1) h1
    rw [e1, bt_nat s i h0, e2, wrap_id (n := (i : Int) + 1 + 1) (by omega) (by omega)]
    refine Ev.yes (Ev.yes (Ev.yes (Ev.yes ?_)))
    have hg := goes_ev hp ((bl s)[i].toNat - 48) ((bl s)[i + 1].toNat - 48) (by omega) (by omega)
    have e3 : (48 : Int) + (((bl s)[i].toNat - 48 : Nat) : Int) = ((bl s)[i].toNat : Int) := by omega
    have e4 : (48 : Int) + (((bl s)[i + 1].toNat - 48 : Nat) : Int) = ((bl s)[i + 1].toNat : Int) := by omega
    have e5 : (((bl s)[i + 1].toNat - 48 : Nat) : Int) = ((bl s)[i + 1].toNat : Int) - 48 := by omega
    rw [e3, e4, e5] at hg
    rw [List.drop_eq_getElem_cons h0, List.drop_eq_getElem_cons h1]
    unfold walkB
    refine Ev.bind hg ?_
    cases hc : decide (((bl s)[i + 1].toNat : Int) - 48 ∈ (tbl p).getD ((bl s)[i].toNat - 48) []) with
    | false => exact Ev.no (Ev.now _)
    | true =>
      refine Ev.yes ?_
      rw [Bool.true_and, ← List.drop_eq_getElem_cons h1]
      have := spec_l0 hp s hs hd d (i + 1) (by omega)
      exact_mod_cast this
/-- A walk of a piece. -/
theorem impl_walk {p : ByteArray} (hp : isPc p) (s : ByteArray) (h1 : s.size ≤ 9223372036854775807) : Ev (fun k => impl_isWalk.f k p s) (digsB (bl s) 1 40 && walkB p (bl s)) := by
  unfold impl_isWalk.f
  refine Ev.bindc (show impl_isDigits.f s 1 40 = some (digsB (bl s) 1 40) from isDigits_eq s 1 40 h1) ?_
  cases h : digsB (bl s) 1 40 with
  | false => exact Ev.no (Ev.now _)
  | true =>
    unfold digsB at h
    simp only [Bool.and_eq_true, decide_eq_true_eq] at h
    refine Ev.yes (Ev.bind (moves_ev hp) ?_)
    rw [Bool.true_and]
    exact impl_l0 hp s h.1.2 h.2 ((bl s).length - 1) 0 (by omega)
theorem spec_walk {p : ByteArray} (hp : isPc p) (s : ByteArray) : Ev (fun k => spec_wkWalk.f k p s) (digsB (bl s) 1 40 && walkB p (bl s)) := by
  unfold spec_wkWalk.f
  refine Ev.bind (wkDigits_ev s) ?_
  cases h : digsB (bl s) 1 40 with
  | false => exact Ev.no (Ev.now _)
  | true =>
    unfold digsB at h
    simp only [Bool.and_eq_true, decide_eq_true_eq] at h
    refine Ev.yes ?_
    rw [Bool.true_and]
    exact spec_l0 hp s h.1.2 h.2 ((bl s).length - 1) 0 (by omega)
end IsWalk
end Go.Proofs.YtbichbiiephmhaaDoor

namespace Go.Proofs.YtbichbiiephmhaaDoor
open Go.RowKit Go.Proofs.YtbichbiiephmhaaDoor.P Go.Proofs.YtbichbiiephmhaaDoorW.PrintWords
set_option linter.unusedSimpArgs false
set_option linter.unusedVariables false
/-! Numbers of walks, step by step: both sides lay the same rows. -/
/-- One key's number: the sum of the next keys' numbers, cut at the greatest. -/
def sumOf (row es : List Int) (a : Int) : Int := es.foldl (fun a e => mn (wrap64 (a + rd row e)) 1000000000000001) a
def stp (tb : List (List Int)) (row : List Int) : List Int := tb.map (fun es => sumOf row es 0)
/-- The row after n steps. -/
def itr (tb : List (List Int)) (row : List Int) : Nat → List Int
  | 0 => row
  | n + 1 => stp tb (itr tb row n)
theorem itr_len {tb : List (List Int)} {row : List Int} (ht : tb.length = 10) (hr : row.length = 10) : ∀ n, (itr tb row n).length = 10
  | 0 => hr
  | n + 1 => by simp [itr, stp, ht]
theorem mid_rd (P Z : List Int) (a : Int) : rd (P ++ a :: Z) (P.length : Int) = a := by
  unfold rd; simp [List.getD_eq_getElem?_getD]
theorem mid_set (P Z : List Int) (a b : Int) : (P ++ a :: Z).set P.length b = P ++ b :: Z := by
  simp [List.set_append]
theorem least_mn (a b : Int) : spec_l1Least.f a b = some (mn a b) := by
  unfold spec_l1Least.f mn; split <;> split <;> first | rfl | (congr 1; omega)
theorem sumOf_step (row es : List Int) (a : Int) (j : Nat) (h : j < es.length) : sumOf row (es.drop j) a = sumOf row (es.drop (j + 1)) (mn (wrap64 (a + rd row es[j])) 1000000000000001) := by
  rw [List.drop_eq_getElem_cons h]; rfl
theorem stepped_l1 (tb : List (List Int)) (row es P Z : List Int) (hr : row.length = 10) (hes : es.length ≤ 8) (hx : ∀ x ∈ es, 0 ≤ x ∧ x < 10) (hP : P.length < 10) (r : List Int) : ∀ (n j : Nat) (a : Int), j + n = es.length →
    Ev (fun k => impl_stepped.l0 k row (P ++ sumOf row (es.drop j) a :: Z) tb 10 ((P.length + 1 : Nat) : Int)) r →
    Ev (fun k => impl_stepped.l1 k row (P ++ a :: Z) P.length tb 10 P.length es (es.length : Int) j) r
  | 0, j, a, hj, h => by
    apply Ev.succ
    simp only [impl_stepped.l1]
    refine Ev.neg (by omega) ?_
    rw [wrap_id (by omega) (by omega)]
    rw [List.drop_of_length_le (by omega)] at h
    exact_mod_cast h
  | n + 1, j, a, hj, h => by
    have hlt : j < es.length := by omega
    have hxj := hx _ (List.getElem_mem hlt)
    apply Ev.succ
    simp only [impl_stepped.l1]
    rw [rd_nat es j hlt, mid_rd, Int.toNat_natCast, mid_set, wrap_id (n := (j : Int) + 1) (by omega) (by omega)]
    refine Ev.pos (by omega) (Ev.pos (by omega) (Ev.pos (by omega) (Ev.pos (by omega) (Ev.pos (by simp; omega) (Ev.pos hxj.1 (Ev.pos (by omega) ?_))))))
    rw [sumOf_step row es a j hlt] at h
    rw [show (j : Int) + 1 = ((j + 1 : Nat) : Int) by omega]
    exact stepped_l1 tb row es P Z hr hes hx hP r n (j + 1) _ (by omega) h
theorem stepped_l0 (tb : List (List Int)) (row : List Int) (ht : tb.length = 10) (htb : ∀ l ∈ tb, l.length ≤ 8 ∧ ∀ x ∈ l, 0 ≤ x ∧ x < 10) (hr : row.length = 10) : ∀ (n : Nat) (P : List Int), P.length + n = 10 →
    Ev (fun k => impl_stepped.l0 k row (P ++ List.replicate n 0) tb 10 P.length) (P ++ (tb.drop P.length).map (fun es => sumOf row es 0))
  | 0, P, hP => by
    apply Ev.succ
    simp only [impl_stepped.l0]
    refine Ev.neg (by omega) (Ev.const ?_)
    rw [List.drop_of_length_le (by omega)]; rfl
  | n + 1, P, hP => by
    have hlt : P.length < tb.length := by omega
    obtain ⟨h8, hx⟩ := htb _ (List.getElem_mem hlt)
    have e : tb.getD (P.length : Int).toNat [] = tb[P.length] := by rw [Int.toNat_natCast, List.getD_eq_getElem?_getD, List.getElem?_eq_getElem hlt]; rfl
    apply Ev.succ
    simp only [impl_stepped.l0]
    refine Ev.pos (by omega) (Ev.pos (by omega) (Ev.pos (by omega) ?_))
    have h := stepped_l0 tb row ht htb hr n (P ++ [sumOf row tb[P.length] 0]) (by simp; omega)
    have h1 := stepped_l1 tb row tb[P.length] P (List.replicate n 0) hr h8 hx (by omega) _ tb[P.length].length 0 0 (by omega) (by
      rw [List.drop_zero]
      simp only [List.append_assoc, List.singleton_append, List.length_append, List.length_cons, List.length_nil] at h
      exact_mod_cast h)
    rw [List.drop_eq_getElem_cons hlt, List.map_cons]
    rw [← e] at h1 ⊢
    rw [List.replicate_succ]
    exact_mod_cast h1
theorem stepped_ev {tb : List (List Int)} {row : List Int} (ht : tb.length = 10) (htb : ∀ l ∈ tb, l.length ≤ 8 ∧ ∀ x ∈ l, 0 ≤ x ∧ x < 10) (hr : row.length = 10) :
    Ev (fun k => impl_stepped.f k tb row) (stp tb row) := by
  unfold impl_stepped.f
  refine Ev.pos (by omega) ?_
  have := stepped_l0 tb row ht htb hr 10 [] (by simp)
  rw [ht]
  simpa [stp] using this
/-- Digits as a text. -/
def digsOf (l : List Int) : ByteArray := ⟨(l.map fun e => UInt8.ofNat (48 + e.toNat)).toArray⟩
theorem wkNext_n : ∀ d : Fin 10, spec_wkNext.f 200 ⟨#[110]⟩ (48 + d.val) = some (digsOf ((tbl ⟨#[110]⟩).getD d.val [])) := by decide +kernel
theorem wkNext_k : ∀ d : Fin 10, spec_wkNext.f 200 ⟨#[107]⟩ (48 + d.val) = some (digsOf ((tbl ⟨#[107]⟩).getD d.val [])) := by decide +kernel
theorem wkNext_r : ∀ d : Fin 10, spec_wkNext.f 200 ⟨#[114]⟩ (48 + d.val) = some (digsOf ((tbl ⟨#[114]⟩).getD d.val [])) := by decide +kernel
theorem wkNext_b : ∀ d : Fin 10, spec_wkNext.f 200 ⟨#[98]⟩ (48 + d.val) = some (digsOf ((tbl ⟨#[98]⟩).getD d.val [])) := by decide +kernel
theorem wkNext_ev {p : ByteArray} (h : isPc p) (d : Nat) (hd : d < 10) : Ev (fun k => spec_wkNext.f k p (48 + d)) (digsOf ((tbl p).getD d [])) := by
  refine Ev.of (k := 200) (spec_wkNext.mono _ _) ?_
  rcases h with rfl | rfl | rfl | rfl
  · exact wkNext_n ⟨d, hd⟩
  · exact wkNext_k ⟨d, hd⟩
  · exact wkNext_r ⟨d, hd⟩
  · exact wkNext_b ⟨d, hd⟩
theorem digsOf_len (l : List Int) : (digsOf l).size = l.length := by show (List.toArray _).size = _; simp
theorem digsOf_bt (l : List Int) (hx : ∀ x ∈ l, 0 ≤ x ∧ x < 10) (j : Nat) (h : j < l.length) : bt (digsOf l) (j : Int) = 48 + l[j] := by
  have hl : (bl (digsOf l)).length = l.length := by rw [← bl_len, digsOf_len]
  rw [bt_nat (digsOf l) j (by omega)]
  have e : (bl (digsOf l))[j]'(by omega) = UInt8.ofNat (48 + l[j].toNat) := by
    have : bl (digsOf l) = l.map fun e => UInt8.ofNat (48 + e.toNat) := by show (List.toArray _).toList = _; simp
    simp only [this, List.getElem_map]
  rw [e]
  have hx' := hx _ (List.getElem_mem h)
  rw [UInt8.toNat_ofNat']
  omega
theorem wkTable_l3 {p : ByteArray} (s : Int) (row es P Z : List Int) (x9 : List (List Int)) (hr : row.length = 10) (hes : es.length ≤ 8) (hx : ∀ x ∈ es, 0 ≤ x ∧ x < 10) (hP : P.length < 10) (hZ : P.length + 1 + Z.length = 10) (r : List (List Int)) : ∀ (n j : Nat) (a : Int), j + n = es.length →
    Ev (fun k => spec_wkTable.l2 k p s row x9 (P ++ sumOf row (es.drop j) a :: Z) 10 ((P.length + 1 : Nat) : Int)) r →
    Ev (fun k => spec_wkTable.l3 k p s row x9 (P ++ a :: Z) P.length (digsOf es) j 10 P.length) r
  | 0, j, a, hj, h => by
    apply Ev.succ
    simp only [spec_wkTable.l3]
    refine Ev.neg (by rw [digsOf_len]; omega) ?_
    rw [wrap_id (by omega) (by omega)]
    rw [List.drop_of_length_le (by omega)] at h
    exact_mod_cast h
  | n + 1, j, a, hj, h => by
    have hlt : j < es.length := by omega
    have hxj := hx _ (List.getElem_mem hlt)
    have e8 : (48 + es[j] - 48) % 256 = es[j] := by rw [show 48 + es[j] - 48 = es[j] by omega]; exact Int.emod_eq_of_lt (by omega) (by omega)
    apply Ev.succ
    simp only [spec_wkTable.l3]
    rw [digsOf_bt es hx j hlt, e8, mid_rd, Int.toNat_natCast, wrap_id (n := (j : Int) + 1) (by omega) (by omega)]
    refine Ev.pos (by rw [digsOf_len]; omega) (Ev.pos (by omega) (Ev.pos (by simp; omega) (Ev.pos (by omega) (Ev.pos hxj.1 (Ev.pos (by omega) (Ev.bindc (least_mn _ _) ?_))))))
    rw [mid_set]
    rw [sumOf_step row es a j hlt] at h
    rw [show (j : Int) + 1 = ((j + 1 : Nat) : Int) by omega]
    exact wkTable_l3 s row es P Z x9 hr hes hx hP hZ r n (j + 1) _ (by omega) h
theorem wkTable_l2 {p : ByteArray} (hp : isPc p) (s : Int) (row : List Int) (x9 : List (List Int)) (hr : row.length = 10) (h9 : x9.length < 1000000) (r : List (List Int))
    (h : Ev (fun k => spec_wkTable.l1 k p (wrap64 (s - 1)) (stp (tbl p) row) (x9 ++ [stp (tbl p) row])) r) : ∀ (n : Nat) (P : List Int), P.length + n = 10 → P = ((tbl p).take P.length).map (fun es => sumOf row es 0) →
    Ev (fun k => spec_wkTable.l2 k p s row x9 (P ++ List.replicate n 0) 10 P.length) r
  | 0, P, hP, hq => by
    have e : P = stp (tbl p) row := by
      rw [hq, List.take_of_length_le (by rw [(tbl_shape hp).1]; omega)]; rfl
    apply Ev.succ
    simp only [spec_wkTable.l2]
    refine Ev.neg (by omega) (Ev.pos (by omega) ?_)
    rw [List.replicate_zero, List.append_nil, e]
    exact h
  | n + 1, P, hP, hq => by
    obtain ⟨h10, htb⟩ := tbl_shape hp
    have hlt : P.length < (tbl p).length := by omega
    obtain ⟨h8, hx⟩ := htb _ (List.getElem_mem hlt)
    have e : (tbl p).getD P.length [] = (tbl p)[P.length] := by rw [List.getD_eq_getElem?_getD, List.getElem?_eq_getElem hlt]; rfl
    apply Ev.succ
    simp only [spec_wkTable.l2]
    refine Ev.pos (by omega) ?_
    have e1 : wrap64 (48 + (P.length : Int)) % 256 = 48 + (P.length : Int) := by rw [wrap_id (by omega) (by omega)]; exact Int.emod_eq_of_lt (by omega) (by omega)
    rw [e1]
    refine Ev.bind (wkNext_ev hp P.length (by omega)) ?_
    rw [e, List.replicate_succ]
    have h2 := wkTable_l2 hp s row x9 hr h9 r h n (P ++ [sumOf row (tbl p)[P.length] 0]) (by simp; omega) (by
      rw [List.length_append, List.length_singleton, List.take_succ_eq_append_getElem hlt, List.map_append, ← hq]; rfl)
    exact wkTable_l3 s row (tbl p)[P.length] P (List.replicate n 0) x9 hr h8 hx (by omega) (by simp; omega) r (tbl p)[P.length].length 0 0 (by omega) (by
      rw [List.drop_zero]
      simp only [List.append_assoc, List.singleton_append, List.length_append, List.length_cons, List.length_nil] at h2
      exact_mod_cast h2)
/-- The rows of so many steps. -/
def rowsOf (tb : List (List Int)) (row : List Int) (n : Nat) : List (List Int) := (List.range (n + 1)).map (itr tb row)
theorem rowsOf_succ (tb : List (List Int)) (row : List Int) (n : Nat) : rowsOf tb row (n + 1) = rowsOf tb row n ++ [itr tb row (n + 1)] := by
  unfold rowsOf; rw [List.range_succ, List.map_append]; rfl
theorem wkTable_l1 {p : ByteArray} (hp : isPc p) (row : List Int) (hr : row.length = 10) : ∀ (n i : Nat), i + n ≤ 1000 →
    Ev (fun k => spec_wkTable.l1 k p n (itr (tbl p) row i) (rowsOf (tbl p) row i)) (rowsOf (tbl p) row (i + n))
  | 0, i, hi => by
    apply Ev.succ
    simp only [spec_wkTable.l1]
    exact Ev.neg (by omega) (Ev.now _)
  | n + 1, i, hi => by
    apply Ev.succ
    simp only [spec_wkTable.l1]
    refine Ev.pos (by omega) (Ev.pos (by omega) (Ev.bindc rfl ?_))
    have h := wkTable_l1 hp row hr n (i + 1) (by omega)
    rw [rowsOf_succ] at h
    have e : wrap64 (((n + 1 : Nat) : Int) - 1) = n := by rw [wrap_id (by omega) (by omega)]; omega
    have := wkTable_l2 hp ((n + 1 : Nat) : Int) (itr (tbl p) row i) (rowsOf (tbl p) row i) (itr_len (tbl_shape hp).1 hr i) (by unfold rowsOf; simp; omega) _ (by rw [e]; exact h) 10 [] (by simp) (by simp)
    rw [show i + (n + 1) = i + 1 + n by omega]
    simpa using this
/-- The first row: to one digit (as a sign), or to any. -/
def row0 (t0 : Int) : List Int := (List.range 10).map fun d : Nat => if t0 = 0 ∨ (d : Int) = (t0 - 48) % 256 then 1 else 0
theorem wkTable_l0 {p : ByteArray} (s t0 : Int) (r : List (List Int)) (h : Ev (fun k => spec_wkTable.l1 k p s (row0 t0) [row0 t0]) r) : ∀ (n : Nat) (P : List Int), P.length + n = 10 → P = (List.range P.length).map (fun d : Nat => if t0 = 0 ∨ (d : Int) = (t0 - 48) % 256 then 1 else 0) →
    Ev (fun k => spec_wkTable.l0 k p s t0 (P ++ List.replicate n 0) 10 P.length) r
  | 0, P, hP, hq => by
    have e : P = row0 t0 := by rw [hq, show P.length = 10 by omega]; rfl
    apply Ev.succ
    simp only [spec_wkTable.l0]
    refine Ev.neg (by omega) ?_
    rw [List.replicate_zero, List.append_nil, e]
    exact h
  | n + 1, P, hP, hq => by
    apply Ev.succ
    simp only [spec_wkTable.l0]
    refine Ev.pos (by omega) ?_
    rw [List.replicate_succ, Int.toNat_natCast, mid_set, wrap_id (n := (P.length : Int) + 1) (by omega) (by omega)]
    have nx : ∀ v, v = (if t0 = 0 ∨ (P.length : Int) = (t0 - 48) % 256 then 1 else 0) → Ev (fun k => spec_wkTable.l0 k p s t0 (P ++ v :: List.replicate n 0) 10 ((P.length : Int) + 1)) r := by
      intro v hv
      have := wkTable_l0 s t0 r h n (P ++ [v]) (by simp; omega) (by
        rw [List.length_append, List.length_singleton, List.range_succ, List.map_append, ← hq, hv]; rfl)
      simp only [List.append_assoc, List.singleton_append, List.length_append, List.length_cons, List.length_nil] at this
      exact_mod_cast this
    by_cases c : t0 = 0
    · refine Ev.pos c (Ev.pos (by omega) (Ev.pos (by simp; omega) ?_))
      exact nx 1 (by rw [if_pos (.inl c)])
    · refine Ev.neg c ?_
      by_cases c2 : (P.length : Int) = (t0 - 48) % 256
      · refine Ev.pos c2 (Ev.pos (by omega) (Ev.pos (by simp; omega) ?_))
        exact nx 1 (by rw [if_pos (.inr c2)])
      · refine Ev.neg c2 ?_
        exact nx 0 (by rw [if_neg (fun h' => h'.elim c c2)])
theorem row0_len (t0 : Int) : (row0 t0).length = 10 := by simp [row0]
theorem wkTable_ev {p : ByteArray} (hp : isPc p) (n : Nat) (hn : n ≤ 1000) (t0 : Int) : Ev (fun k => spec_wkTable.f k p n t0) (rowsOf (tbl p) (row0 t0) n) := by
  unfold spec_wkTable.f
  refine Ev.pos (by omega) (Ev.bindc rfl ?_)
  have h := wkTable_l1 hp (row0 t0) (row0_len t0) n 0 (by omega)
  rw [Nat.zero_add] at h
  have := wkTable_l0 n t0 _ h 10 [] (by simp) (by simp)
  simpa using this
theorem rowsOf_at (tb : List (List Int)) (row : List Int) (n i : Nat) (h : i ≤ n) : (rowsOf tb row n).getD (i : Int).toNat [] = itr tb row i := by
  unfold rowsOf
  rw [Int.toNat_natCast, List.getD_eq_getElem?_getD, List.getElem?_eq_getElem (by simp; omega)]
  simp
theorem rowsOf_len (tb : List (List Int)) (row : List Int) (n : Nat) : (rowsOf tb row n).length = n + 1 := by simp [rowsOf]
end Go.Proofs.YtbichbiiephmhaaDoor

namespace Go.Proofs.YtbichbiiephmhaaDoor
open Go.RowKit Go.Proofs.YtbichbiiephmhaaDoor.P Go.Proofs.YtbichbiiephmhaaDoorW.PrintWords
set_option linter.unusedSimpArgs false
set_option linter.unusedVariables false
theorem row0_any : row0 0 = List.replicate 10 1 := by decide
theorem numbers_l0 {p : ByteArray} (hp : isPc p) (n : Nat) (hn : n ≤ 1000) : ∀ (d i : Nat), i + d = n →
    Ev (fun k => impl_numbers.l0 k (itr (tbl p) (row0 0) i) (tbl p) n i) (itr (tbl p) (row0 0) n)
  | 0, i, hi => by
    apply Ev.succ
    simp only [impl_numbers.l0]
    refine Ev.neg (by omega) (Ev.const ?_)
    rw [show i = n by omega]
  | d + 1, i, hi => by
    obtain ⟨h10, htb⟩ := tbl_shape hp
    apply Ev.succ
    simp only [impl_numbers.l0]
    refine Ev.pos (by omega) (Ev.bind (stepped_ev h10 htb (itr_len h10 (row0_len 0) i)) ?_)
    rw [wrap_id (by omega) (by omega), show (i : Int) + 1 = ((i + 1 : Nat) : Int) by omega]
    exact numbers_l0 hp n hn d (i + 1) (by omega)
theorem numbers_ev {p : ByteArray} (hp : isPc p) (n : Nat) (hn : n ≤ 1000) : Ev (fun k => impl_numbers.f k p ((n : Int) + 1)) (itr (tbl p) (row0 0) n) := by
  unfold impl_numbers.f
  refine Ev.bindc (x := List.replicate 10 1) rfl (Ev.bind (moves_ev hp) ?_)
  rw [show wrap64 ((n : Int) + 1 - 1) = n by rw [wrap_id (by omega) (by omega)]; omega, ← row0_any]
  exact numbers_l0 hp n hn n 0 (by omega)
end Go.Proofs.YtbichbiiephmhaaDoor

namespace Go.Proofs.YtbichbiiephmhaaDoor
open Go.RowKit Go.Proofs.YtbichbiiephmhaaDoor.P Go.Proofs.YtbichbiiephmhaaDoorW.PrintWords
set_option linter.unusedSimpArgs false
set_option linter.unusedVariables false
theorem mn_bd' (a b : Int) (ha : 0 ≤ a) (hb : 0 ≤ b) : 0 ≤ mn a b ∧ mn a b ≤ b := by unfold mn; split <;> omega
theorem rd_bd (row : List Int) (h : ∀ x ∈ row, 0 ≤ x ∧ x ≤ 1000000000000001) (e : Int) : 0 ≤ rd row e ∧ rd row e ≤ 1000000000000001 := by
  unfold rd
  rw [List.getD_eq_getElem?_getD]
  cases h' : row[e.toNat]? with
  | none => simp
  | some x => exact h x (List.mem_of_getElem? h')
theorem sumOf_bd (row : List Int) (h : ∀ x ∈ row, 0 ≤ x ∧ x ≤ 1000000000000001) : ∀ (es : List Int) (a : Int), 0 ≤ a → a ≤ 1000000000000001 → 0 ≤ sumOf row es a ∧ sumOf row es a ≤ 1000000000000001
  | [], a, h0, h1 => ⟨h0, h1⟩
  | e :: es, a, h0, h1 => by
    have hr := rd_bd row h e
    have hm := mn_bd' (wrap64 (a + rd row e)) 1000000000000001 (by rw [wrap_id (by omega) (by omega)]; omega) (by omega)
    exact sumOf_bd row h es _ hm.1 hm.2
theorem itr_bd (tb : List (List Int)) (row : List Int) (h : ∀ x ∈ row, 0 ≤ x ∧ x ≤ 1000000000000001) : ∀ n, ∀ x ∈ itr tb row n, 0 ≤ x ∧ x ≤ 1000000000000001
  | 0 => h
  | n + 1 => by
    intro x hx
    simp only [itr, stp, List.mem_map] at hx
    obtain ⟨es, _, rfl⟩ := hx
    exact sumOf_bd _ (itr_bd tb row h n) es 0 (by omega) (by omega)
theorem row0_bd : ∀ x ∈ row0 0, 0 ≤ x ∧ x ≤ 1000000000000001 := by decide
end Go.Proofs.YtbichbiiephmhaaDoor

-- printed by xprint.py
namespace Go.Proofs.YtbichbiiephmhaaDoor.P
open Go.RowKit Go.Proofs.YtbichbiiephmhaaDoorW.PrintWords Go.Proofs.YtbichbiiephmhaaDoorW.PrintLast Go.Proofs.YtbichbiiephmhaaDoorW.PrintMore
attribute [local go_sem] max2_int min2_int max_two min_two max_three min_three max_four min_four   -- for this text's walks alone
set_option linter.unusedVariables false
set_option linter.unusedSimpArgs false

/-! ### spec_wkCount: function 51 -/
def spec_wkCount.f (k : Nat) (a0 : ByteArray) (a1 : Int) (a2 : Int) (a3 : Int) : Option (Int × Bool) := (spec_wkTable.f k a0 a3 a2).bind fun t101 => (if 0 ≤ a3 then (if a3 < (t101.length : Int) then (if 0 ≤ ((a1 - 48) % 256) then (if ((a1 - 48) % 256) < ((rd_L4 t101 a3).length : Int) then (if (rd (rd_L4 t101 a3) ((a1 - 48) % 256)) > 1000000000000000 then (some (0, false)) else (some (rd (rd_L4 t101 a3) ((a1 - 48) % 256), true))) else (none)) else (none)) else (none)) else (none))
theorem spec_wkCount.mono : ∀ a0 a1 a2 a3 k, LeO (spec_wkCount.f k a0 a1 a2 a3) (spec_wkCount.f (k + 1) a0 a1 a2 a3) := by
  intro a0 a1 a2 a3 k
  unfold spec_wkCount.f
  repeat' first
      | (with_reducible exact spec_wkTable.mono _ _ _ _)
      | (with_reducible exact LeO.refl _)
      | (with_reducible exact LeO.none _)
      | (with_reducible refine LeO.ite ?_ ?_)
      | (with_reducible refine LeO.bind ?_ (fun _ => ?_))
      | exact spec_wkTable.mono _ _ _ _
      | exact LeO.none _
      | refine LeO.ite ?_ ?_
      | refine LeO.bind ?_ (fun _ => ?_)
set_option maxHeartbeats 8000000 in
set_option maxRecDepth 100000 in
theorem spec_wkCount.calls (k : Nat) (a0 : ByteArray) (a1 : Int) (a2 : Int) (a3 : Int) (r1 : Int) (r2 : Bool) (w : World) (h : spec_wkCount.f k a0 a1 a2 a3 = some (r1, r2)) :
    Calls Tryd.prog 51 #[.string a0, .int .u8 a1, .int .u8 a2, .int .i64 a3] w fun e w' => e = .returned (.tuple #[.int .i64 r1, .bool r2]) ∧ Below w.heap.size w w' := by
  have HB := Aside0.mk (Below.refl w.heap.size w)
  have H : ((spec_wkTable.f k a0 a3 a2).bind fun t101 => (if 0 ≤ a3 then (if a3 < (t101.length : Int) then (if 0 ≤ ((a1 - 48) % 256) then (if ((a1 - 48) % 256) < ((rd_L4 t101 a3).length : Int) then (if (rd (rd_L4 t101 a3) ((a1 - 48) % 256)) > 1000000000000000 then (some (0, false)) else (some (rd (rd_L4 t101 a3) ((a1 - 48) % 256), true))) else (none)) else (none)) else (none)) else (none))) = some (r1, r2) := h
  clear h
  replace H := Option.bind_eq_some_iff.mp H
  obtain ⟨t101, A50, H⟩ := H
  replace H : (if 0 ≤ a3 then (if a3 < (t101.length : Int) then (if 0 ≤ ((a1 - 48) % 256) then (if ((a1 - 48) % 256) < ((rd_L4 t101 a3).length : Int) then (if (rd (rd_L4 t101 a3) ((a1 - 48) % 256)) > 1000000000000000 then (some (0, false)) else (some (rd (rd_L4 t101 a3) ((a1 - 48) % 256), true))) else (none)) else (none)) else (none)) else (none)) = some (r1, r2) := H
  have A5 := Aside0.mk A50
  clear A50
  by_cases c6 : 0 ≤ a3
  · rw [if_pos c6] at H
    have c6b0 : decide (0 ≤ a3) = true := decide_eq_true c6
    clear c6
    by_cases c7 : a3 < (t101.length : Int)
    · rw [if_pos c7] at H
      have c7b0 : decide (a3 < (t101.length : Int)) = true := decide_eq_true c7
      clear c7
      obtain ⟨ji8, hji8⟩ : ∃ j_ : Int, ((a1 - 48) % 256) = j_ := ⟨_, rfl⟩
      have huji8 : IntKind.u8.wrap (a1 - 48) = ji8 := hji8
      replace H : (if 0 ≤ (ji8) then (if (ji8) < ((rd_L4 t101 a3).length : Int) then (if (rd (rd_L4 t101 a3) (ji8)) > 1000000000000000 then (some (0, false)) else (some (rd (rd_L4 t101 a3) (ji8), true))) else (none)) else (none)) = some (r1, r2) := by first | (rw [hji8] at H; exact H) | (simp only [hji8] at H ⊢; exact H)
      (try rw [hji8] at A5)
      by_cases c9 : 0 ≤ (ji8)
      · rw [if_pos c9] at H
        have c9b0 : decide (0 ≤ (ji8)) = true := decide_eq_true c9
        clear c9
        by_cases c10 : (ji8) < ((rd_L4 t101 a3).length : Int)
        · rw [if_pos c10] at H
          have c10b0 : decide ((ji8) < ((rd_L4 t101 a3).length : Int)) = true := decide_eq_true c10
          clear c10
          by_cases c11 : (rd (rd_L4 t101 a3) (ji8)) > 1000000000000000
          · rw [if_pos c11] at H
            have c11b0 : decide (1000000000000000 < (rd (rd_L4 t101 a3) (ji8))) = true := decide_eq_true c11
            clear c11
            simp only [Option.some.injEq, Prod.mk.injEq] at H
            obtain ⟨rfl, rfl⟩ := H
            go_enter Tryd.func51, Tryd.ntmps51
            go_wp2_with (first | ((with_reducible refine gate_callee (f := 59) rfl ?_); refine goesL_ (some 14) rfl rfl Tryd.func59 (by kernel_rfl) rfl #[.string a0, .int .i64 a3, .int .u8 a2] rfl (by (try simp only [List.map_toArray, List.map_cons, List.map_nil]); first | done | rfl | (simp only [List.length_drop, List.length_take]; rfl)) ?_; (with_reducible refine (spec_wkTable.calls k a0 a3 a2 t101 _ A5.out).mono ?_); rintro e w12 ⟨v102, rfl, ho0, hb⟩; refine ⟨_, rfl, ?_⟩; have n0_ := Aside0.mk (Kd.S_lower ho0 (below_size (by repeat (first | (with_reducible first | exact HB.out | apply below_alloc | apply pw_below_drewN | apply below_drew1) | exact HB.out)))); have n1_ := Aside0.mk (below_step (by repeat (first | (with_reducible first | exact HB.out | apply below_alloc | apply pw_below_drewN | apply below_drew1) | exact HB.out)) hb); clear HB; have HO103 := n0_; have HB := n1_; clear n0_ n1_; (try clear hb); (try clear hb2); (try clear hk); (try clear hi); (try clear ho0); obtain ⟨Ao13, co13, eo13⟩ := Kd.S_slice HO103.out; subst eo13; have p104 : 0 ≤ (a3 : Int) := of_decide_eq_true (by first | (with_reducible assumption) | assumption); have q104 : a3 < (t101.length : Int) := of_decide_eq_true (by first | (with_reducible assumption) | assumption); obtain ⟨ad104, A104_0, c104_0, e104, hx104_0, hl104_0, hi104_0⟩ := at_L4 (Kd.S_reads' HO103.out).2.2 a3 p104 q104; cases e104; obtain ⟨ce104, hce104, hMe104, hcc104⟩ := Kd.S_get HO103.out [] a3 p104 (by first | exact q104 | exact of_decide_eq_true (by first | (with_reducible assumption) | assumption) | (have e_ := (Kd.S_reads' HO103.out).1; omega)); obtain ⟨ve104_0, rfl, ge104_0⟩ := hMe104; have hv104_0 := hcc104 0 _ rfl; rw [Nat.add_zero, show ((Kd.slice 3 (Kd.int .i64))).sz = 1 from rfl, Nat.mul_one] at hv104_0; replace hv104_0 := Option.some.inj (hv104_0.symm.trans hx104_0); rw [hv104_0] at ge104_0; have HL104_0 := Aside0.mk (show Kd.R (Kd.int .i64) 3 _ _ _ _ (rd_L4 t101 a3) from ge104_0); clear hv104_0 ge104_0; clear hcc104 hce104; have HR104_0 := Aside0.mk hi104_0; have HC104_0 := Aside0.mk hl104_0; clear hi104_0 hl104_0; replace p104 := eq_true p104; replace q104 := eq_true q104; have p105 : 0 ≤ ((ji8) : Int) := of_decide_eq_true (by first | (with_reducible assumption) | assumption); have q105 : (ji8) < ((rd_L4 t101 a3).length : Int) := of_decide_eq_true (by first | (with_reducible assumption) | assumption); obtain ⟨ad105, e105, hx105_0⟩ := Kd.at_int (by repeat (first | (with_reducible exact HR104_0.out) | (with_reducible refine Kd.C_alloc ?_ _) | (with_reducible refine Kd.C_drewN ?_ _) | (with_reducible refine Kd.C_drew ?_) | exact HR104_0.out)) (ji8) p105 q105; cases e105; replace p105 := eq_true p105; replace q105 := eq_true q105))
            go_ret2
            exact ⟨by first | rfl | (simp [errW_none, errW_some] <;> rfl) | (simp only [← hji8]; first | rfl | (simp [errW_none, errW_some] <;> rfl)) | (simp [*, errW_none, errW_some] <;> rfl), by repeat (first | (with_reducible first | exact HB.out | apply below_alloc | apply pw_below_drewN | apply below_drew1) | exact HB.out)⟩
          · rw [if_neg c11] at H
            have c11b0 : decide (1000000000000000 < (rd (rd_L4 t101 a3) (ji8))) = false := decide_eq_false c11
            clear c11
            simp only [Option.some.injEq, Prod.mk.injEq] at H
            obtain ⟨rfl, rfl⟩ := H
            go_enter Tryd.func51, Tryd.ntmps51
            go_wp2_with (first | ((with_reducible refine gate_callee (f := 59) rfl ?_); refine goesL_ (some 14) rfl rfl Tryd.func59 (by kernel_rfl) rfl #[.string a0, .int .i64 a3, .int .u8 a2] rfl (by (try simp only [List.map_toArray, List.map_cons, List.map_nil]); first | done | rfl | (simp only [List.length_drop, List.length_take]; rfl)) ?_; (with_reducible refine (spec_wkTable.calls k a0 a3 a2 t101 _ A5.out).mono ?_); rintro e w14 ⟨v102, rfl, ho0, hb⟩; refine ⟨_, rfl, ?_⟩; have n0_ := Aside0.mk (Kd.S_lower ho0 (below_size (by repeat (first | (with_reducible first | exact HB.out | apply below_alloc | apply pw_below_drewN | apply below_drew1) | exact HB.out)))); have n1_ := Aside0.mk (below_step (by repeat (first | (with_reducible first | exact HB.out | apply below_alloc | apply pw_below_drewN | apply below_drew1) | exact HB.out)) hb); clear HB; have HO103 := n0_; have HB := n1_; clear n0_ n1_; (try clear hb); (try clear hb2); (try clear hk); (try clear hi); (try clear ho0); obtain ⟨Ao15, co15, eo15⟩ := Kd.S_slice HO103.out; subst eo15; have p104 : 0 ≤ (a3 : Int) := of_decide_eq_true (by first | (with_reducible assumption) | assumption); have q104 : a3 < (t101.length : Int) := of_decide_eq_true (by first | (with_reducible assumption) | assumption); obtain ⟨ad104, A104_0, c104_0, e104, hx104_0, hl104_0, hi104_0⟩ := at_L4 (Kd.S_reads' HO103.out).2.2 a3 p104 q104; cases e104; obtain ⟨ce104, hce104, hMe104, hcc104⟩ := Kd.S_get HO103.out [] a3 p104 (by first | exact q104 | exact of_decide_eq_true (by first | (with_reducible assumption) | assumption) | (have e_ := (Kd.S_reads' HO103.out).1; omega)); obtain ⟨ve104_0, rfl, ge104_0⟩ := hMe104; have hv104_0 := hcc104 0 _ rfl; rw [Nat.add_zero, show ((Kd.slice 3 (Kd.int .i64))).sz = 1 from rfl, Nat.mul_one] at hv104_0; replace hv104_0 := Option.some.inj (hv104_0.symm.trans hx104_0); rw [hv104_0] at ge104_0; have HL104_0 := Aside0.mk (show Kd.R (Kd.int .i64) 3 _ _ _ _ (rd_L4 t101 a3) from ge104_0); clear hv104_0 ge104_0; clear hcc104 hce104; have HR104_0 := Aside0.mk hi104_0; have HC104_0 := Aside0.mk hl104_0; clear hi104_0 hl104_0; replace p104 := eq_true p104; replace q104 := eq_true q104; have p105 : 0 ≤ ((ji8) : Int) := of_decide_eq_true (by first | (with_reducible assumption) | assumption); have q105 : (ji8) < ((rd_L4 t101 a3).length : Int) := of_decide_eq_true (by first | (with_reducible assumption) | assumption); obtain ⟨ad105, e105, hx105_0⟩ := Kd.at_int (by repeat (first | (with_reducible exact HR104_0.out) | (with_reducible refine Kd.C_alloc ?_ _) | (with_reducible refine Kd.C_drewN ?_ _) | (with_reducible refine Kd.C_drew ?_) | exact HR104_0.out)) (ji8) p105 q105; cases e105; replace p105 := eq_true p105; replace q105 := eq_true q105))
            go_ret2
            exact ⟨by first | rfl | (simp [errW_none, errW_some] <;> rfl) | (simp only [← hji8]; first | rfl | (simp [errW_none, errW_some] <;> rfl)) | (simp [*, errW_none, errW_some] <;> rfl), by repeat (first | (with_reducible first | exact HB.out | apply below_alloc | apply pw_below_drewN | apply below_drew1) | exact HB.out)⟩
        · rw [if_neg c10] at H
          exact absurd H (by simp)
      · rw [if_neg c9] at H
        exact absurd H (by simp)
    · rw [if_neg c7] at H
      exact absurd H (by simp)
  · rw [if_neg c6] at H
    exact absurd H (by simp)

end Go.Proofs.YtbichbiiephmhaaDoor.P

namespace Go.Proofs.YtbichbiiephmhaaDoor
open Go.RowKit Go.Proofs.YtbichbiiephmhaaDoor.P Go.Proofs.YtbichbiiephmhaaDoorW.PrintWords
set_option linter.unusedSimpArgs false
set_option linter.unusedVariables false
/-- A number that is not too great. -/
def fewP (n : Int) : Int × Bool := if n > 1000000000000000 then (0, false) else (n, true)
theorem few_eq (n : Int) : impl_few.f n = some (fewP n) := by unfold impl_few.f fewP; split <;> rfl
theorem wkCount_ev {p : ByteArray} (hp : isPc p) (e n : Nat) (he : e < 10) (hn : n ≤ 1000) (t0 : Int) : Ev (fun k => spec_wkCount.f k p (48 + e) t0 n) (fewP (rd (itr (tbl p) (row0 t0) n) e)) := by
  unfold spec_wkCount.f
  refine Ev.bind (wkTable_ev hp n hn t0) ?_
  have e1 : (48 + (e : Int) - 48) % 256 = e := by rw [show 48 + (e : Int) - 48 = e by omega]; exact Int.emod_eq_of_lt (by omega) (by omega)
  have e2 : rd_L4 (rowsOf (tbl p) (row0 t0) n) n = itr (tbl p) (row0 t0) n := rowsOf_at _ _ _ _ (Nat.le_refl _)
  rw [e1, e2]
  have hl := itr_len (tbl_shape hp).1 (row0_len t0) n
  refine Ev.pos (by omega) (Ev.pos (by rw [rowsOf_len]; omega) (Ev.pos (by omega) (Ev.pos (by omega) (Ev.const ?_))))
  unfold fewP; split <;> rfl
theorem sign_bt (d : Nat) (h : d < 10) : bt (⟨#[UInt8.ofNat (48 + d)]⟩ : ByteArray) 0 = 48 + d := by
  have : ∀ d : Fin 10, bt (⟨#[UInt8.ofNat (48 + d.val)]⟩ : ByteArray) 0 = 48 + d.val := by decide
  exact this ⟨d, h⟩
theorem sign_size (d : Nat) : (0 : Int) < ((⟨#[UInt8.ofNat (48 + d)]⟩ : ByteArray).size : Int) := by show (0 : Int) < ((1 : Nat) : Int); omega
theorem digit_sign (d : Nat) (h : d < 10) : ((48 + (d : Int)) - 48) % 256 = d := by rw [show 48 + (d : Int) - 48 = d by omega]; exact Int.emod_eq_of_lt (by omega) (by omega)
end Go.Proofs.YtbichbiiephmhaaDoor

-- printed by xprint.py
namespace Go.Proofs.YtbichbiiephmhaaDoor.P
open Go.RowKit Go.Proofs.YtbichbiiephmhaaDoorW.PrintWords Go.Proofs.YtbichbiiephmhaaDoorW.PrintLast Go.Proofs.YtbichbiiephmhaaDoorW.PrintMore
attribute [local go_sem] max2_int min2_int max_two min_two max_three min_three max_four min_four   -- for this text's walks alone
set_option linter.unusedVariables false
set_option linter.unusedSimpArgs false

/-! ### spec_CountNumbers: function 23 -/
def spec_CountNumbers.f (k : Nat) (a0 : ByteArray) (a1 : ByteArray) (a2 : Int) : Option (Int × Bool) := (spec_wkAsked.f k a0 a1).bind fun t101 => (if t101 = true then ((spec_l1In.f a2 1 40).bind fun t102 => (if t102 = true then (if 0 < (a1.size : Int) then ((spec_wkCount.f k a0 (bt a1 0) 0 (wrap64 (a2 - 1))).bind fun bt103 => (some (bt103.1, bt103.2))) else (none)) else (some (0, false)))) else (some (0, false)))
theorem spec_CountNumbers.mono : ∀ a0 a1 a2 k, LeO (spec_CountNumbers.f k a0 a1 a2) (spec_CountNumbers.f (k + 1) a0 a1 a2) := by
  intro a0 a1 a2 k
  unfold spec_CountNumbers.f
  repeat' first
      | (with_reducible exact spec_wkAsked.mono _ _ _)
      | (with_reducible exact spec_wkCount.mono _ _ _ _ _)
      | (with_reducible exact LeO.refl _)
      | (with_reducible exact LeO.none _)
      | (with_reducible refine LeO.ite ?_ ?_)
      | (with_reducible refine LeO.bind ?_ (fun _ => ?_))
      | exact spec_wkAsked.mono _ _ _
      | exact spec_wkCount.mono _ _ _ _ _
      | exact LeO.none _
      | refine LeO.ite ?_ ?_
      | refine LeO.bind ?_ (fun _ => ?_)
set_option maxHeartbeats 8000000 in
set_option maxRecDepth 100000 in
theorem spec_CountNumbers.calls (k : Nat) (a0 : ByteArray) (a1 : ByteArray) (a2 : Int) (r1 : Int) (r2 : Bool) (w : World) (h : spec_CountNumbers.f k a0 a1 a2 = some (r1, r2)) :
    Calls Tryd.prog 23 #[.string a0, .string a1, .int .i64 a2] w fun e w' => e = .returned (.tuple #[.int .i64 r1, .bool r2]) ∧ Below w.heap.size w w' := by
  have HB := Aside0.mk (Below.refl w.heap.size w)
  have H : ((spec_wkAsked.f k a0 a1).bind fun t101 => (if t101 = true then ((spec_l1In.f a2 1 40).bind fun t102 => (if t102 = true then (if 0 < (a1.size : Int) then ((spec_wkCount.f k a0 (bt a1 0) 0 (wrap64 (a2 - 1))).bind fun bt103 => (some (bt103.1, bt103.2))) else (none)) else (some (0, false)))) else (some (0, false)))) = some (r1, r2) := h
  clear h
  replace H := Option.bind_eq_some_iff.mp H
  obtain ⟨t101, A40, H⟩ := H
  replace H : (if t101 = true then ((spec_l1In.f a2 1 40).bind fun t102 => (if t102 = true then (if 0 < (a1.size : Int) then ((spec_wkCount.f k a0 (bt a1 0) 0 (wrap64 (a2 - 1))).bind fun bt103 => (some (bt103.1, bt103.2))) else (none)) else (some (0, false)))) else (some (0, false))) = some (r1, r2) := H
  have A4 := Aside0.mk A40
  clear A40
  by_cases c5 : t101 = true
  · subst c5
    have H1 : ((spec_l1In.f a2 1 40).bind fun t102 => (if t102 = true then (if 0 < (a1.size : Int) then ((spec_wkCount.f k a0 (bt a1 0) 0 (wrap64 (a2 - 1))).bind fun bt103 => (some (bt103.1, bt103.2))) else (none)) else (some (0, false)))) = some (r1, r2) := by rw [if_pos rfl] at H; exact H
    clear H
    have H := H1
    clear H1
    replace H := Option.bind_eq_some_iff.mp H
    obtain ⟨t102, A60, H⟩ := H
    replace H : (if t102 = true then (if 0 < (a1.size : Int) then ((spec_wkCount.f k a0 (bt a1 0) 0 (wrap64 (a2 - 1))).bind fun bt103 => (some (bt103.1, bt103.2))) else (none)) else (some (0, false))) = some (r1, r2) := H
    have A6 := Aside0.mk A60
    clear A60
    by_cases c7 : t102 = true
    · subst c7
      have H1 : (if 0 < (a1.size : Int) then ((spec_wkCount.f k a0 (bt a1 0) 0 (wrap64 (a2 - 1))).bind fun bt103 => (some (bt103.1, bt103.2))) else (none)) = some (r1, r2) := by rw [if_pos rfl] at H; exact H
      clear H
      have H := H1
      clear H1
      by_cases c8 : 0 < (a1.size : Int)
      · rw [if_pos c8] at H
        have c8b0 : decide (0 < (a1.size : Int)) = true := decide_eq_true c8
        have c8b1 : decide (0 < a1.size) = true := decide_eq_true (by omega)
        clear c8
        replace H := Option.bind_eq_some_iff.mp H
        obtain ⟨⟨t103, t104⟩, A100, H⟩ := H
        replace H : (some (t103, t104)) = some (r1, r2) := H
        have A10 := Aside0.mk A100
        clear A100
        simp only [Option.some.injEq, Prod.mk.injEq] at H
        obtain ⟨rfl, rfl⟩ := H
        go_enter Tryd.func23, Tryd.ntmps23
        go_wp2_with (first | ((with_reducible refine gate_callee (f := 41) rfl ?_); refine goesL_ (some 10) rfl rfl Tryd.func41 (by kernel_rfl) rfl #[.string a0, .string a1] rfl (by (try simp only [List.map_toArray, List.map_cons, List.map_nil]); first | done | rfl | (simp only [List.length_drop, List.length_take]; rfl)) ?_; (with_reducible refine (spec_wkAsked.calls k a0 a1 true _ A4.out).mono ?_); rintro e w' ⟨rfl, ⟨nd, rfl⟩⟩; refine ⟨_, rfl, ?_⟩) | (go_at_call 50; (with_reducible refine (spec_l1In.calls a2 1 40 true _ A6.out).mono ?_); rintro e w' ⟨rfl, ⟨nd, rfl⟩⟩; have p9 : 0 ≤ (0 : Int) := (by omega); have q9 : 0 < a1.size := (by have : (0 : Int) < (a1.size : Int) := of_decide_eq_true (by first | (with_reducible assumption) | assumption); omega); have hx9 : ∀ h : 0 < a1.size, ((a1[0]'h).toNat : Int) = bt a1 0 := bt_at a1 0; clear p9; have qi9 : (0 < (a1.size : Int)) = True := eq_true (of_decide_eq_true (by first | (with_reducible assumption) | assumption)); replace q9 := eq_true q9) | ((with_reducible refine gate_callee (f := 51) rfl ?_); refine goesL_ (some 22) rfl rfl Tryd.func51 (by kernel_rfl) rfl #[.string a0, .int .u8 (bt a1 0), .int .u8 0, .int .i64 (wrap64 (a2 - 1))] rfl (by (try simp only [List.map_toArray, List.map_cons, List.map_nil]); first | done | rfl | (simp only [List.length_drop, List.length_take]; rfl)) ?_; (with_reducible refine (spec_wkCount.calls k a0 (bt a1 0) 0 (wrap64 (a2 - 1)) t103 t104 _ A10.out).mono ?_); rintro e w11 ⟨rfl, hb⟩; refine ⟨_, rfl, ?_⟩; have n0_ := Aside0.mk (below_step (by repeat (first | (with_reducible first | exact HB.out | apply below_alloc | apply pw_below_drewN | apply below_drew1) | exact HB.out)) hb); clear HB; have HB := n0_; clear n0_; (try clear hb); (try clear hb2); (try clear hk); (try clear hi)))
        go_ret2
        exact ⟨by first | rfl | (simp [errW_none, errW_some] <;> rfl) | (simp [*, errW_none, errW_some] <;> rfl), by repeat (first | (with_reducible first | exact HB.out | apply below_alloc | apply pw_below_drewN | apply below_drew1) | exact HB.out)⟩
      · rw [if_neg c8] at H
        exact absurd H (by simp)
    · replace c7 := Bool.eq_false_iff.mpr c7
      subst c7
      have H1 : (some (0, false)) = some (r1, r2) := by rw [if_neg (show ¬ (false = true) by decide)] at H; exact H
      clear H
      have H := H1
      clear H1
      simp only [Option.some.injEq, Prod.mk.injEq] at H
      obtain ⟨rfl, rfl⟩ := H
      go_enter Tryd.func23, Tryd.ntmps23
      go_wp2_with (first | ((with_reducible refine gate_callee (f := 41) rfl ?_); refine goesL_ (some 10) rfl rfl Tryd.func41 (by kernel_rfl) rfl #[.string a0, .string a1] rfl (by (try simp only [List.map_toArray, List.map_cons, List.map_nil]); first | done | rfl | (simp only [List.length_drop, List.length_take]; rfl)) ?_; (with_reducible refine (spec_wkAsked.calls k a0 a1 true _ A4.out).mono ?_); rintro e w' ⟨rfl, ⟨nd, rfl⟩⟩; refine ⟨_, rfl, ?_⟩) | (go_at_call 50; (with_reducible refine (spec_l1In.calls a2 1 40 false _ A6.out).mono ?_); rintro e w' ⟨rfl, ⟨nd, rfl⟩⟩))
      go_ret2
      exact ⟨by first | rfl | (simp [errW_none, errW_some] <;> rfl) | (simp [*, errW_none, errW_some] <;> rfl), by repeat (first | (with_reducible first | exact HB.out | apply below_alloc | apply pw_below_drewN | apply below_drew1) | exact HB.out)⟩
  · replace c5 := Bool.eq_false_iff.mpr c5
    subst c5
    have H1 : (some (0, false)) = some (r1, r2) := by rw [if_neg (show ¬ (false = true) by decide)] at H; exact H
    clear H
    have H := H1
    clear H1
    simp only [Option.some.injEq, Prod.mk.injEq] at H
    obtain ⟨rfl, rfl⟩ := H
    go_enter Tryd.func23, Tryd.ntmps23
    go_wp2_with (first | ((with_reducible refine gate_callee (f := 41) rfl ?_); refine goesL_ (some 10) rfl rfl Tryd.func41 (by kernel_rfl) rfl #[.string a0, .string a1] rfl (by (try simp only [List.map_toArray, List.map_cons, List.map_nil]); first | done | rfl | (simp only [List.length_drop, List.length_take]; rfl)) ?_; (with_reducible refine (spec_wkAsked.calls k a0 a1 false _ A4.out).mono ?_); rintro e w' ⟨rfl, ⟨nd, rfl⟩⟩; refine ⟨_, rfl, ?_⟩))
    go_ret2
    exact ⟨by first | rfl | (simp [errW_none, errW_some] <;> rfl) | (simp [*, errW_none, errW_some] <;> rfl), by repeat (first | (with_reducible first | exact HB.out | apply below_alloc | apply pw_below_drewN | apply below_drew1) | exact HB.out)⟩

end Go.Proofs.YtbichbiiephmhaaDoor.P

namespace Go.Proofs.YtbichbiiephmhaaDoor
open Go.RowKit Go.Proofs.YtbichbiiephmhaaDoor.P Go.Proofs.YtbichbiiephmhaaDoorW.PrintWords
set_option linter.unusedSimpArgs false
set_option linter.unusedVariables false
theorem countNumbers_two (a s : ByteArray) (n : Int) (h1 : s.size ≤ 9223372036854775807) : ∃ r, Ev (fun k => spec_CountNumbers.f k a s n) r ∧ Ev (fun k => impl_CountNumbers.f k a s n) r ∧ (r.2 = true → ∃ (d m : Nat), isPc a ∧ d < 10 ∧ s = ⟨#[UInt8.ofNat (48 + d)]⟩ ∧ n = (m : Int) + 1 ∧ m < 40 ∧ 0 ≤ r.1 ∧ r.1 ≤ 1000000000000000 ∧ r = fewP (rd (itr (tbl a) (row0 0) m) d)) := by
  unfold spec_CountNumbers.f impl_CountNumbers.f
  have fi : Ev (fun k => impl_CountNumbers.j0 k a s n true) (0, false) := by
    apply Ev.succ; simp only [impl_CountNumbers.j0]; exact Ev.yes (Ev.now _)
  cases hp : pieceB (bl a) with
  | false => exact ⟨(0, false), Ev.bind (wkAsked_ev a s) (by rw [hp, Bool.false_and]; exact Ev.no (Ev.now _)), Ev.bindc (by rw [isPiece_eq, hp]) (Ev.no fi), fun h => by cases h⟩
  | true =>
    cases hd : digsB (bl s) 1 1 with
    | false => exact ⟨(0, false), Ev.bind (wkAsked_ev a s) (by rw [hp, hd, Bool.and_false]; exact Ev.no (Ev.now _)), Ev.bindc (by rw [isPiece_eq, hp]) (Ev.yes (Ev.bindc (by rw [isDigit_eq s h1, hd]) (Ev.no fi))), fun h => by cases h⟩
    | true =>
      cases hn : (decide (1 ≤ n) && decide (n ≤ 40)) with
      | false => exact ⟨(0, false), Ev.bind (wkAsked_ev a s) (by rw [hp, hd, Bool.and_true]; exact Ev.yes (Ev.bindc (by rw [l1In_eq, hn]) (Ev.no (Ev.now _)))), Ev.bindc (by rw [isPiece_eq, hp]) (Ev.yes (Ev.bindc (by rw [isDigit_eq s h1, hd]) (Ev.yes (Ev.bindc (x := false) (by unfold impl_longOk.f; rw [in_eq, hn]; rfl) fi)))), fun h => by cases h⟩
      | true =>
        have hpc := isPc_of hp
        obtain ⟨d, hd10, rfl⟩ := digit_of hd
        simp only [Bool.and_eq_true, decide_eq_true_eq] at hn
        obtain ⟨m, rfl⟩ : ∃ m : Nat, n = (m : Int) + 1 := ⟨(n - 1).toNat, by omega⟩
        have hr := itr_len (tbl_shape hpc).1 (row0_len 0) m
        have em : wrap64 ((m : Int) + 1 - 1) = m := by rw [wrap_id (by omega) (by omega)]; omega
        have hlo : (decide (1 ≤ (m : Int) + 1) && decide ((m : Int) + 1 ≤ 40)) = true := by simp; omega
        refine ⟨fewP (rd (itr (tbl a) (row0 0) m) d), Ev.bind (wkAsked_ev a _) ?_, Ev.bindc (by rw [isPiece_eq, hp]) (Ev.yes (Ev.bindc (by rw [isDigit_eq _ h1, hd]) (Ev.yes (Ev.bindc (by unfold impl_longOk.f; rw [in_eq, hlo]; rfl) (Ev.succ ?_))))), fun h => ⟨d, m, hpc, hd10, rfl, rfl, by omega, ?_, ?_, rfl⟩⟩
        · rw [hp, hd, Bool.and_true, em]
          refine Ev.yes (Ev.bindc (by rw [l1In_eq, hlo]) (Ev.yes (Ev.pos (sign_size d) ?_)))
          rw [sign_bt d hd10]
          exact Ev.bind (wkCount_ev hpc d m hd10 (by omega) 0) (Ev.now _)
        · simp only [impl_CountNumbers.j0]
          refine Ev.no (Ev.bind (numbers_ev hpc m (by omega)) (Ev.pos (sign_size d) ?_))
          rw [sign_bt d hd10]
          simp only [impl_digit.f, Option.bind_some, digit_sign d hd10]
          refine Ev.pos (by omega) (Ev.pos (by omega) (Ev.bindc (few_eq _) (Ev.now _)))
        · have hb := rd_bd _ (itr_bd (tbl a) (row0 0) row0_bd m) (d : Int)
          unfold fewP; split <;> simp only <;> omega
        · have hb := rd_bd _ (itr_bd (tbl a) (row0 0) row0_bd m) (d : Int)
          unfold fewP; split <;> simp only <;> omega
end Go.Proofs.YtbichbiiephmhaaDoor

namespace Go.Proofs.YtbichbiiephmhaaDoor
open Go.RowKit Go.Proofs.YtbichbiiephmhaaDoor.P Go.Proofs.YtbichbiiephmhaaDoorW.PrintWords IsWalk
set_option linter.unusedSimpArgs false
set_option linter.unusedVariables false
namespace RankOf
theorem nexts_n : ∀ d : Fin 10, impl_nexts.f 200 ⟨#[110]⟩ (d.val : Int) = some ((tbl ⟨#[110]⟩).getD d.val []) := by decide +kernel
theorem nexts_k : ∀ d : Fin 10, impl_nexts.f 200 ⟨#[107]⟩ (d.val : Int) = some ((tbl ⟨#[107]⟩).getD d.val []) := by decide +kernel
theorem nexts_r : ∀ d : Fin 10, impl_nexts.f 200 ⟨#[114]⟩ (d.val : Int) = some ((tbl ⟨#[114]⟩).getD d.val []) := by decide +kernel
theorem nexts_b : ∀ d : Fin 10, impl_nexts.f 200 ⟨#[98]⟩ (d.val : Int) = some ((tbl ⟨#[98]⟩).getD d.val []) := by decide +kernel
theorem nexts_ev {p : ByteArray} (h : isPc p) (d : Nat) (hd : d < 10) : Ev (fun k => impl_nexts.f k p d) ((tbl p).getD d []) := by
  refine Ev.of (k := 200) (impl_nexts.mono _ _) ?_
  rcases h with rfl | rfl | rfl | rfl
  · exact nexts_n ⟨d, hd⟩
  · exact nexts_k ⟨d, hd⟩
  · exact nexts_r ⟨d, hd⟩
  · exact nexts_b ⟨d, hd⟩
/-- Do the numbers rise? -/
def rises : List Int → Bool
  | a :: b :: r => decide (a < b) && rises (b :: r)
  | _ => true
theorem tbl_rises {p : ByteArray} (h : isPc p) : ∀ l ∈ tbl p, rises l = true := by
  rcases h with rfl | rfl | rfl | rfl <;> decide +kernel
def addI (row : List Int) (c : Int) : List Int → Int → Int
  | [], acc => acc
  | e :: es, acc => addI row c es (if e < c then wrap64 (acc + rd row e) else acc)
def addS (row : List Int) (c : Int) : List Int → Int → Int
  | [], acc => acc
  | e :: es, acc => if e = c then acc else addS row c es (wrap64 (acc + rd row e))
theorem rises_lt : ∀ (es : List Int) (a : Int), rises (a :: es) = true → ∀ x ∈ es, a < x
  | [], a, _ => by simp
  | b :: r, a, h => by
    simp only [rises, Bool.and_eq_true, decide_eq_true_eq] at h
    intro x hx
    rcases List.mem_cons.1 hx with rfl | hx
    · exact h.1
    · have := rises_lt r b h.2 x hx; omega
theorem rises_tail (a : Int) (es : List Int) (h : rises (a :: es) = true) : rises es = true := by
  cases es with
  | nil => rfl
  | cons b r => simp only [rises, Bool.and_eq_true] at h; exact h.2
theorem addI_done (row : List Int) (c : Int) : ∀ (es : List Int) (acc : Int), (∀ x ∈ es, c < x) → addI row c es acc = acc
  | [], acc, _ => rfl
  | e :: es, acc, h => by
    have := h e List.mem_cons_self
    rw [addI, if_neg (by omega)]
    exact addI_done row c es acc (fun x hx => h x (List.mem_cons_of_mem _ hx))
theorem addI_S (row : List Int) (c : Int) : ∀ (es : List Int) (acc : Int), rises es = true → c ∈ es → addI row c es acc = addS row c es acc
  | [], acc, _, h => by simp at h
  | e :: es, acc, hr, h => by
    rw [addI, addS]
    by_cases e1 : e = c
    · subst e1
      rw [if_neg (by omega), if_pos rfl]
      exact addI_done row e es acc (rises_lt es e hr)
    · have hm : c ∈ es := by rcases List.mem_cons.1 h with h' | h'; exact absurd h'.symm e1; exact h'
      rw [if_pos (rises_lt es e hr c hm), if_neg e1]
      exact addI_S row c es _ (rises_tail e es hr) hm
/-- The rank of a walk, told by its signs. -/
def rankP (tb : List (List Int)) : List UInt8 → Int → Int
  | c :: d :: r, acc => rankP tb (d :: r) (addS (itr tb (row0 0) r.length) ((d.toNat : Int) - 48) (tb.getD (c.toNat - 48) []) acc)
  | _, acc => acc
theorem impl_l1 {p s : ByteArray} (i : Nat) (row : List Int) (hr : row.length = 10) (es : List Int) (hes : es.length ≤ 8) (hx : ∀ x ∈ es, 0 ≤ x ∧ x < 10) (hi : i < (bl s).length) (hl : (bl s).length ≤ 40) (c : Nat) (hc : (bl s)[i].toNat = 48 + c) (hc10 : c < 10) (res : Int × Bool) : ∀ (n j : Nat) (acc : Int), j + n = es.length →
    Ev (fun k => impl_RankOfNumber.l0 k p s (addI row c (es.drop j) acc) ((i : Int) + 1)) res →
    Ev (fun k => impl_RankOfNumber.l1 k p s acc i row es (es.length : Int) j) res
  | 0, j, acc, hj, h => by
    apply Ev.succ
    simp only [impl_RankOfNumber.l1]
    rw [wrap_id (n := (i : Int) + 1) (by omega) (by omega)]
    refine Ev.neg (by omega) ?_
    rw [List.drop_of_length_le (by omega)] at h
    exact h
  | n + 1, j, acc, hj, h => by
    have hlt : j < es.length := by omega
    have hxj := hx _ (List.getElem_mem hlt)
    have hsz : s.size = (bl s).length := rfl
    rw [List.drop_eq_getElem_cons hlt, addI] at h
    apply Ev.succ
    simp only [impl_RankOfNumber.l1, impl_digit.f, Option.bind_some]
    rw [rd_nat es j hlt, bt_nat s i hi, hc, wrap_id (n := (j : Int) + 1) (by omega) (by omega), show (((48 + c : Nat) : Int) - 48) % 256 = c by omega]
    refine Ev.pos (by omega) (Ev.pos (by omega) (Ev.pos (by omega) (Ev.pos (by omega) (Ev.pos (by omega) ?_))))
    rw [show (j : Int) + 1 = ((j + 1 : Nat) : Int) by omega]
    by_cases c1 : es[j] < (c : Int)
    · rw [if_pos c1] at h
      exact Ev.pos c1 (Ev.pos hxj.1 (Ev.pos (by omega) (impl_l1 i row hr es hes hx hi hl c hc hc10 res n (j + 1) _ (by omega) h)))
    · rw [if_neg c1] at h
      exact Ev.neg c1 (impl_l1 i row hr es hes hx hi hl c hc hc10 res n (j + 1) _ (by omega) h)
theorem spec_l1 {p s : ByteArray} (i : Nat) (rows : List (List Int)) (row : List Int) (hrow : rows.getD ((bl s).length - 1 - i) [] = row) (hrl : (bl s).length - 1 - i < rows.length) (hr : row.length = 10) (es : List Int) (hes : es.length ≤ 8) (hx : ∀ x ∈ es, 0 ≤ x ∧ x < 10) (hi : i < (bl s).length) (hl : (bl s).length ≤ 40) (c : Nat) (hc : (bl s)[i].toNat = 48 + c) (hc10 : c < 10) (res : Int × Bool) : ∀ (n j : Nat) (acc : Int), j + n = es.length →
    Ev (fun k => spec_RankOfNumber.l0 k p s rows (addS row c (es.drop j) acc) ((i : Int) + 1)) res →
    Ev (fun k => spec_RankOfNumber.l1 k p s rows acc i (digsOf es) j) res
  | 0, j, acc, hj, h => by
    apply Ev.succ
    simp only [spec_RankOfNumber.l1]
    rw [wrap_id (n := (i : Int) + 1) (by omega) (by omega)]
    refine Ev.neg (by rw [digsOf_len]; omega) ?_
    rw [List.drop_of_length_le (by omega)] at h
    exact h
  | n + 1, j, acc, hj, h => by
    have hlt : j < es.length := by omega
    have hxj := hx _ (List.getElem_mem hlt)
    have hsz : s.size = (bl s).length := rfl
    have e8 : (48 + es[j] - 48) % 256 = es[j] := by rw [show 48 + es[j] - 48 = es[j] by omega]; exact Int.emod_eq_of_lt (by omega) (by omega)
    have ei : wrap64 (wrap64 ((s.size : Int) - 1) - (i : Int)) = (((bl s).length - 1 - i : Nat) : Int) := by
      rw [wrap_id (n := (s.size : Int) - 1) (by omega) (by omega), wrap_id (by omega) (by omega)]; omega
    have erow : rd_L4 rows (((bl s).length - 1 - i : Nat) : Int) = row := by unfold rd_L4; rw [Int.toNat_natCast]; exact hrow
    rw [List.drop_eq_getElem_cons hlt, addS] at h
    apply Ev.succ
    simp only [spec_RankOfNumber.l1]
    rw [digsOf_bt es hx j hlt, bt_nat s i hi, hc, e8, ei, erow, wrap_id (n := (j : Int) + 1) (by omega) (by omega), wrap_id (n := (i : Int) + 1) (by omega) (by omega)]
    refine Ev.pos (by rw [digsOf_len]; omega) (Ev.pos (by omega) (Ev.pos (by omega) (Ev.pos (by omega) ?_)))
    by_cases c1 : es[j] = (c : Int)
    · rw [if_pos c1] at h
      exact Ev.pos (by omega) h
    · rw [if_neg c1] at h
      refine Ev.neg (by omega) (Ev.pos (by omega) (Ev.pos (by omega) (Ev.pos hxj.1 (Ev.pos (by omega) ?_))))
      rw [show (j : Int) + 1 = ((j + 1 : Nat) : Int) by omega]
      exact spec_l1 i rows row hrow hrl hr es hes hx hi hl c hc hc10 res n (j + 1) _ (by omega) h
theorem both_l0 {p : ByteArray} (hp : isPc p) (s : ByteArray) (hl : (bl s).length ≤ 40) (hd : (bl s).all isDig = true) : ∀ (n i : Nat) (acc : Int), i + n + 1 = (bl s).length → walkB p ((bl s).drop i) = true →
    Ev (fun k => impl_RankOfNumber.l0 k p s acc ((i : Int) + 1)) (rankP (tbl p) ((bl s).drop i) acc, true) ∧
    Ev (fun k => spec_RankOfNumber.l0 k p s (rowsOf (tbl p) (row0 0) ((bl s).length - 1)) acc ((i : Int) + 1)) (rankP (tbl p) ((bl s).drop i) acc, true)
  | 0, i, acc, hi, hw => by
    have hsz : s.size = (bl s).length := rfl
    have e : (bl s).drop i = [(bl s)[i]'(by omega)] := by
      rw [List.drop_eq_getElem_cons (by omega), List.drop_of_length_le (by omega)]
    constructor
    · apply Ev.succ; simp only [impl_RankOfNumber.l0]
      refine Ev.neg (by omega) (Ev.const ?_)
      rw [e]; rfl
    · apply Ev.succ; simp only [spec_RankOfNumber.l0]
      refine Ev.neg (by omega) (Ev.const ?_)
      rw [e]; rfl
  | n + 1, i, acc, hi, hw => by
    have hsz : s.size = (bl s).length := rfl
    have h0 : i < (bl s).length := by omega
    have h1 : i + 1 < (bl s).length := by omega
    have d0 := isDig_at hd i h0
    have d1 := isDig_at hd (i + 1) h1
    have es : (bl s).drop i = (bl s)[i] :: (bl s)[i + 1] :: (bl s).drop (i + 1 + 1) := by rw [List.drop_eq_getElem_cons h0, List.drop_eq_getElem_cons h1]
    have es1 : (bl s).drop (i + 1) = (bl s)[i + 1] :: (bl s).drop (i + 1 + 1) := List.drop_eq_getElem_cons h1
    obtain ⟨a, ha⟩ : ∃ a : Nat, (bl s)[i].toNat = 48 + a := ⟨(bl s)[i].toNat - 48, by omega⟩
    obtain ⟨c, hc⟩ : ∃ c : Nat, (bl s)[i + 1].toNat = 48 + c := ⟨(bl s)[i + 1].toNat - 48, by omega⟩
    have ha10 : a < 10 := by omega
    have hc10 : c < 10 := by omega
    rw [es, walkB, Bool.and_eq_true, ← es1] at hw
    have hmem := rd_tbl hp a ha10
    obtain ⟨h8, hx8⟩ := (tbl_shape hp).2 _ hmem
    have hin : (c : Int) ∈ (tbl p).getD a [] := by
      have := of_decide_eq_true hw.1
      rw [hc, ha, show ((48 + c : Nat) : Int) - 48 = c by omega, show 48 + a - 48 = a by omega] at this
      exact this
    obtain ⟨q1, q2⟩ := both_l0 hp s hl hd n (i + 1) (addS (itr (tbl p) (row0 0) ((bl s).drop (i + 1 + 1)).length) ((c : Nat) : Int) ((tbl p).getD a []) acc) (by omega) hw.2
    have ew : wrap64 ((i : Int) + 1 - 1) = i := by rw [wrap_id (by omega) (by omega)]; omega
    have hL : ((bl s).drop (i + 1 + 1)).length = n := by rw [List.length_drop]; omega
    have er : rankP (tbl p) ((bl s).drop i) acc = rankP (tbl p) ((bl s).drop (i + 1)) (addS (itr (tbl p) (row0 0) n) ((c : Nat) : Int) ((tbl p).getD a []) acc) := by
      rw [es, rankP, ← es1, hL, hc, ha, show ((48 + c : Nat) : Int) - 48 = c by omega, show 48 + a - 48 = a by omega]
    have hrl := itr_len (tbl_shape hp).1 (row0_len 0) n
    rw [er]
    rw [hL] at q1 q2
    constructor
    · apply Ev.succ; simp only [impl_RankOfNumber.l0, impl_digit.f, Option.bind_some]
      refine Ev.pos (by omega) ?_
      have em : wrap64 ((s.size : Int) - ((i : Int) + 1)) = (n : Int) + 1 := by rw [wrap_id (by omega) (by omega)]; omega
      rw [em, ew, bt_nat s i h0, ha, show (((48 + a : Nat) : Int) - 48) % 256 = a by omega]
      refine Ev.bind (numbers_ev hp n (by omega)) (Ev.pos (by omega) (Ev.pos (by omega) (Ev.bind (nexts_ev hp a ha10) ?_)))
      refine impl_l1 (i + 1) _ hrl _ h8 hx8 h1 hl c hc hc10 _ ((tbl p).getD a []).length 0 acc (by omega) ?_
      rw [List.drop_zero, addI_S _ _ _ _ (tbl_rises hp _ hmem) hin]
      exact_mod_cast q1
    · apply Ev.succ; simp only [spec_RankOfNumber.l0]
      rw [ew, bt_nat s i h0, ha, show ((48 + a : Nat) : Int) = 48 + (a : Int) by omega]
      refine Ev.pos (by omega) (Ev.pos (by omega) (Ev.pos (by omega) (Ev.bind (wkNext_ev hp a ha10) ?_)))
      refine spec_l1 (i + 1) _ (itr (tbl p) (row0 0) n) (by have := rowsOf_at (tbl p) (row0 0) ((bl s).length - 1) n (by omega); rw [Int.toNat_natCast] at this; rw [show (bl s).length - 1 - (i + 1) = n by omega]; exact this) (by rw [rowsOf_len]; omega) hrl _ h8 hx8 h1 hl c hc hc10 _ ((tbl p).getD a []).length 0 acc (by omega) ?_
      rw [List.drop_zero]
      exact_mod_cast q2
theorem sign_digs : ∀ d : Fin 10, digsB (bl ⟨#[UInt8.ofNat (48 + d.val)]⟩) 1 1 = true := by decide
theorem pc_piece {p : ByteArray} (hp : isPc p) : pieceB (bl p) = true := by rcases hp with rfl | rfl | rfl | rfl <;> decide
theorem implCount_ev {a : ByteArray} (hp : isPc a) (d m : Nat) (hd : d < 10) (hm : m < 40) : Ev (fun k => impl_CountNumbers.f k a ⟨#[UInt8.ofNat (48 + d)]⟩ ((m : Int) + 1)) (fewP (rd (itr (tbl a) (row0 0) m) d)) := by
  unfold impl_CountNumbers.f
  have hr := itr_len (tbl_shape hp).1 (row0_len 0) m
  have hlo : (decide (1 ≤ (m : Int) + 1) && decide ((m : Int) + 1 ≤ 40)) = true := by simp; omega
  refine Ev.bindc (by rw [isPiece_eq, pc_piece hp]) (Ev.yes (Ev.bindc (by rw [isDigit_eq _ (by show 1 ≤ _; omega), sign_digs ⟨d, hd⟩]) (Ev.yes (Ev.bindc (x := true) (by unfold impl_longOk.f; rw [in_eq, hlo]; rfl) (Ev.succ ?_)))))
  simp only [impl_CountNumbers.j0]
  refine Ev.no (Ev.bind (numbers_ev hp m (by omega)) (Ev.pos (sign_size d) ?_))
  rw [sign_bt d hd]
  simp only [impl_digit.f, Option.bind_some, digit_sign d hd]
  exact Ev.pos (by omega) (Ev.pos (by omega) (Ev.bindc (few_eq _) (Ev.now _)))
end RankOf
end Go.Proofs.YtbichbiiephmhaaDoor

/- FnExactRankOfNumber: both sides tell the same rank: over the functions that the walk computes. -/
namespace Go.Proofs.YtbichbiiephmhaaDoor
open Go.RowKit Go.Proofs.YtbichbiiephmhaaDoor.P Go.Proofs.YtbichbiiephmhaaDoorW.PrintWords IsWalk RankOf
set_option linter.unusedSimpArgs false
theorem pure_FnExactRankOfNumber : PureFnExactRankOfNumber := by
  intro a s h0 h1
  refine Ev.rounds (g := fun k => laws_FnExactRankOfNumber.f k a s) ?_
  unfold laws_FnExactRankOfNumber.f
  rcases Nat.lt_or_ge 1048576 a.size with c0 | c0
  · exact Ev.pos (by omega) (Ev.now _)
  refine Ev.neg (by omega) ?_
  rcases Nat.lt_or_ge 1048576 s.size with c1 | c1
  · exact Ev.pos (by omega) (Ev.now _)
  refine Ev.neg (by omega) ?_
  have key : ∃ r, Ev (fun k => spec_RankOfNumber.f k a s) r ∧ Ev (fun k => impl_RankOfNumber.f k a s) r := by
    have fs : Ev (fun k => spec_RankOfNumber.j0 k a s true) (0, false) := by
      apply Ev.succ; simp only [spec_RankOfNumber.j0]; exact Ev.yes (Ev.now _)
    have fi : Ev (fun k => impl_RankOfNumber.j0 k a s true) (0, false) := by
      apply Ev.succ; simp only [impl_RankOfNumber.j0]; exact Ev.yes (Ev.now _)
    unfold spec_RankOfNumber.f impl_RankOfNumber.f
    cases hp : pieceB (bl a) with
    | false => exact ⟨_, Ev.bindc (by rw [wkPiece_eq, hp]) (Ev.no fs), Ev.bindc (by rw [isPiece_eq, hp]) (Ev.no fi)⟩
    | true =>
      have hpc := isPc_of hp
      have ws := spec_walk hpc s
      have wi := impl_walk hpc s h1
      cases hw : (digsB (bl s) 1 40 && walkB a (bl s)) with
      | false =>
        rw [hw] at ws wi
        exact ⟨_, Ev.bindc (by rw [wkPiece_eq, hp]) (Ev.yes (Ev.bind ws fs)), Ev.bindc (by rw [isPiece_eq, hp]) (Ev.yes (Ev.bind wi fi))⟩
      | true =>
        rw [hw] at ws wi
        rw [Bool.and_eq_true] at hw
        obtain ⟨hdg, hwk⟩ := hw
        unfold digsB at hdg
        simp only [Bool.and_eq_true, decide_eq_true_eq] at hdg
        obtain ⟨⟨hl1, hl40⟩, hd⟩ := hdg
        have hsz : s.size = (bl s).length := rfl
        have hz : 0 < (bl s).length := by omega
        have d0 := isDig_at hd 0 hz
        obtain ⟨d, hdd⟩ : ∃ d : Nat, (bl s)[0].toNat = 48 + d := ⟨(bl s)[0].toNat - 48, by omega⟩
        have hd10 : d < 10 := by omega
        obtain ⟨m, hm⟩ : ∃ m : Nat, (bl s).length = m + 1 := ⟨(bl s).length - 1, by omega⟩
        have hb0 : bt s 0 = 48 + (d : Int) := by
          have := bt_nat s 0 hz
          rw [hdd] at this
          exact_mod_cast this
        have hex : s.extract 0 1 = ⟨#[UInt8.ofNat (48 + d)]⟩ := by
          apply bl_inj
          obtain ⟨c, r, hs⟩ := List.exists_cons_of_length_pos hz
          have h0c : (bl s)[0] = c := by simp [hs]
          rw [h0c] at hdd
          rw [bl_extract, List.drop_zero, hs]
          show [c] = [UInt8.ofNat (48 + d)]
          rw [← hdd]; simp
        obtain ⟨qi, qs⟩ := both_l0 hpc s hl40 hd m 0 0 (by omega) (by rw [List.drop_zero]; exact hwk)
        rw [hm, show m + 1 - 1 = m by omega] at qs
        have em : wrap64 ((s.size : Int) - 1) = m := by rw [wrap_id (by omega) (by omega)]; omega
        have hr := itr_len (tbl_shape hpc).1 (row0_len 0) m
        have e2 : rd_L4 (rowsOf (tbl a) (row0 0) m) (m : Int) = itr (tbl a) (row0 0) m := rowsOf_at _ _ _ _ (Nat.le_refl _)
        have esz : (s.size : Int) = (m : Int) + 1 := by omega
        have hi : ∀ r, Ev (fun k => if (fewP (rd (itr (tbl a) (row0 0) m) d)).2 = true then impl_RankOfNumber.l0 k a s 0 1 else some (0, false)) r → Ev (fun k => impl_RankOfNumber.j0 k a s (!true)) r := by
          intro r h
          apply Ev.succ; simp only [impl_RankOfNumber.j0]
          refine Ev.no (Ev.pos (by omega) (Ev.pos (by omega) ?_))
          rw [hex, esz]
          exact Ev.bind (implCount_ev hpc d m hd10 (by omega)) h
        have hs : ∀ r, Ev (fun k => if rd (itr (tbl a) (row0 0) m) d > 1000000000000000 then some (0, false) else spec_RankOfNumber.l0 k a s (rowsOf (tbl a) (row0 0) m) 0 1) r → Ev (fun k => spec_RankOfNumber.j0 k a s (!true)) r := by
          intro r h
          apply Ev.succ; simp only [spec_RankOfNumber.j0]
          refine Ev.no ?_
          rw [em, hb0, digit_sign d hd10]
          refine Ev.bind (wkTable_ev hpc m (by omega) 0) ?_
          rw [e2]
          exact (Ev.pos (by omega) (Ev.pos (by rw [rowsOf_len]; omega) (Ev.pos (by omega) (Ev.pos (by omega) (Ev.pos (by omega) h)))))
        by_cases c : rd (itr (tbl a) (row0 0) m) d > 1000000000000000
        · exact ⟨(0, false), Ev.bindc (by rw [wkPiece_eq, hp]) (Ev.yes (Ev.bind ws (hs _ (Ev.pos c (Ev.now _))))), Ev.bindc (by rw [isPiece_eq, hp]) (Ev.yes (Ev.bind wi (hi _ (by unfold fewP; rw [if_pos c]; exact Ev.no (Ev.now _)))))⟩
        · exact ⟨_, Ev.bindc (by rw [wkPiece_eq, hp]) (Ev.yes (Ev.bind ws (hs _ (Ev.neg c (by exact_mod_cast qs))))), Ev.bindc (by rw [isPiece_eq, hp]) (Ev.yes (Ev.bind wi (hi _ (by unfold fewP; rw [if_neg c]; exact Ev.yes (by exact_mod_cast qi)))))⟩
  obtain ⟨r, hs, hi⟩ := key
  refine Ev.bind hs (Ev.bind hi ?_)
  exact Ev.yes (Ev.no (Ev.now _))
end Go.Proofs.YtbichbiiephmhaaDoor

namespace Go.Proofs.YtbichbiiephmhaaDoor
open Go.RowKit Go.Proofs.YtbichbiiephmhaaDoorW.PrintWords Go.ChangeShapes Go.WideShapes

theorem C_scalar {α : Type} {enc : α → Value} {h1 : ∀ x, (enc x).oneCell' = true} {w : World} {A : Option Addr} {l : List α} (hn : l.length ≤ 9223372036854775807)
    (hcell : 0 < l.length → ∃ ad, A = some ad ∧ ∀ j x, l[j]? = some x → w.cell? (ad.add j) = some (enc x)) : (Kd.scalar enc h1).C w A l.length l := by
  refine ⟨rfl, hn, fun hp => ?_⟩
  obtain ⟨ad, hA, hc⟩ := hcell hp
  refine ⟨ad, hA, fun j x hx => ⟨[enc x], rfl, rfl, fun i u hu => ?_⟩⟩
  match i, hu with
  | 0, hu =>
    have : enc x = u := by simpa using hu
    subst this
    show w.cell? (ad.add (j * 1 + 0)) = _
    rw [Nat.mul_one, Nat.add_zero]
    exact hc j x hx
  | i + 1, hu => simp at hu

section
variable {H : Type} {enc : TypeId × Value → H} {P : Program} {w : World} {base : Nat} {spare : Nat → Bool} {held : Bool}

/-- A cell that reads at a slice of whole numbers. -/
theorem read_ints {t e : TypeId} {k : IntKind} {fuel : Nat} {v : Value} {y : DataW H × List MemPlace} (ht : P.underlying t = some (.slice e)) (he : P.underlying e = some (.int k)) (hc : P.cellsOf e = 1)
    (hf : DataW.trod enc P w base spare held fuel t [v] = some y) :
    ∃ (A : Option Addr) (c : Nat) (l : List Int), v = .slice A l.length c ∧ l.length ≤ c ∧ (∀ x ∈ l, (Lit.int k x).wf = true) ∧ (Kd.int k).C w A l.length l := by
  rcases open_ints ht he hc hf with ⟨hcs, _⟩ | ⟨a, len, cap, zs, hcs, _, hl, hm, hz, _, hcell, hwf⟩
  · obtain rfl : v = .slice none 0 0 := by simpa using hcs
    exact ⟨none, 0, [], rfl, Nat.le_refl _, fun x hx => by simp at hx, rfl, by simp, fun h => absurd h (by simp)⟩
  · obtain rfl : v = .slice (some a) len cap := by simpa using hcs
    have hlz : len ≤ zs.length := by rw [hz]; split <;> omega
    have hlen : (zs.take len).length = len := by rw [List.length_take]; omega
    refine ⟨some a, cap, zs.take len, by rw [hlen], by rw [hlen]; exact hl, fun x hx => hwf x (List.mem_of_mem_take hx), ?_⟩
    refine C_scalar (by rw [hlen]; unfold maxLen at hm; omega) (fun hp => ⟨a, rfl, fun j x hj => ?_⟩)
    have hj' : j < len := by have := (List.getElem?_eq_some_iff.1 hj).1; rw [hlen] at this; exact this
    rw [hcell j (by omega)]
    rw [List.getElem?_take_of_lt hj'] at hj
    rw [List.getD_eq_getElem?_getD, hj]; rfl

/-- A cell that reads at a slice of strings. -/
theorem read_strs {t e : TypeId} {fuel : Nat} {v : Value} {y : DataW H × List MemPlace} (ht : P.underlying t = some (.slice e)) (he : P.underlying e = some .string) (hc : P.cellsOf e = 1)
    (hf : DataW.trod enc P w base spare held fuel t [v] = some y) :
    ∃ (A : Option Addr) (c : Nat) (l : List ByteArray), v = .slice A l.length c ∧ l.length ≤ c ∧ (∀ s ∈ l, s.size ≤ 9223372036854775807) ∧ Kd.string.C w A l.length l := by
  rcases open_strings ht he hc hf with ⟨hcs, _⟩ | ⟨a, len, cap, zs, hcs, _, hl, hm, hz, _, hcell, hwf⟩
  · obtain rfl : v = .slice none 0 0 := by simpa using hcs
    exact ⟨none, 0, [], rfl, Nat.le_refl _, fun x hx => by simp at hx, rfl, by simp, fun h => absurd h (by simp)⟩
  · obtain rfl : v = .slice (some a) len cap := by simpa using hcs
    have hlz : len ≤ zs.length := by rw [hz]; split <;> omega
    have hlen : (zs.take len).length = len := by rw [List.length_take]; omega
    refine ⟨some a, cap, zs.take len, by rw [hlen], by rw [hlen]; exact hl, fun x hx => by have := hwf x (List.mem_of_mem_take hx); unfold maxLen at this; omega, ?_⟩
    refine C_scalar (by rw [hlen]; unfold maxLen at hm; omega) (fun hp => ⟨a, rfl, fun j x hj => ?_⟩)
    have hj' : j < len := by have := (List.getElem?_eq_some_iff.1 hj).1; rw [hlen] at this; exact this
    rw [hcell j (by omega)]
    rw [List.getElem?_take_of_lt hj'] at hj
    rw [List.getD_eq_getElem?_getD, hj]; rfl

theorem read_int {t : TypeId} {k : IntKind} {fuel : Nat} {v : Value} {y : DataW H × List MemPlace} (ht : P.underlying t = some (.int k))
    (hf : DataW.trod enc P w base spare held fuel t [v] = some y) : ∃ n : Int, v = .int k n ∧ (Lit.int k n).wf = true := by
  obtain ⟨n, e1, _, h⟩ := DataW.trod_int ht hf
  exact ⟨n, by simpa using e1, h⟩
end

/-- The cells of a datum that holds numbers alone, an array's elements being numbers or structs of numbers. -/
def litsOf : DataW Unit → List Value
  | .lit (.int k n) => [.int k n]
  | .agg l => l.flatMap fun
    | .lit (.int k n) => [.int k n]
    | .agg l2 => l2.flatMap fun
      | .lit (.int k n) => [.int k n]
      | _ => []
    | _ => []
  | _ => []
end Go.Proofs.YtbichbiiephmhaaDoor

/- FnExactRankOfNumberCardSaid: the law 'FnExactRankOfNumber' answers true for every input, and leaves its arguments as they were. The row and its tied card, over the walk of its calls and the pure statement. -/
namespace Go.Proofs.YtbichbiiephmhaaDoor.fnExactRankOfNumber
open Go.ChangeShapes Go.WideShapes Go.ChangeAt Go.RowKit Go.Proofs.YtbichbiiephmhaaDoor.P Go.Proofs.YtbichbiiephmhaaDoorW.PrintWords
open Go.ChangeMaps (open_string shut_string)
set_option linter.unusedVariables false
theorem own : ownKnob Tryd.prog.godebug = none := by kernel_rfl
/-- What the row lists of package-level variables. -/
noncomputable def laidList : List (String × DataW Unit) := [("unicode/utf8.acceptRanges", Rows.laid_unicode_utf8_acceptRanges), ("unicode/utf8.first", Rows.laid_unicode_utf8_first)]
/-- A world that meets it: the settled one, the listed variables laid. -/
noncomputable def laidWorld (os : Os) : World :=
  let w0 := World.holding Tryd.prog os ⟨#[], #[], []⟩
  { w0 with heap := ((w0.heap.modify 2 fun o => match o with | .cells _ t frozen => .cells (litsOf Rows.laid_unicode_utf8_acceptRanges).toArray t frozen | o => o).modify 1 fun o => match o with | .cells _ t frozen => .cells (litsOf Rows.laid_unicode_utf8_first).toArray t frozen | o => o) }
theorem laidWorld_met (os : Os) (args : Array Value) : laidMetH Tryd.prog laidList ((laidWorld os).forCall (fun _ _ => 0) ⟨#[], args, []⟩).memory :=
  laidMetH_of_parts3 (fuel := 8) (laidMet_of_run' 8 (by kernel_rfl) (by kernel_rfl)) (by kernel_rfl) (by kernel_rfl)
set_option maxRecDepth 100000 in
theorem lifted (os : Os) (started : os.Started) (H : Type) (enc : TypeId × Value → H) :
    ReturnsInHanded {} Tryd.checked os 11 .any (fun w args => (Rows.fnExactRankOfNumberSpec.pre enc Tryd.prog Tryd.f11 [] false w args ∧ laidMetH Tryd.prog laidList w) ∧ sizedMet enc Tryd.prog Tryd.f11 (OpenSpec.ofChange Rows.fnExactRankOfNumberSpec) false w args)
      (Rows.fnExactRankOfNumberSpec.post enc Tryd.prog Tryd.f11 false true false false) := by
  refine returnsInHanded_of_change_and (C := Tryd.checked) (X := fun w _ => laidMetH Tryd.prog laidList w) (fun _ _ _ hh h => h.of_heap hh) own started (by kernel_rfl) Tryd.func11
    (ChangeSpec.witness_at (enc := enc) (C := Tryd.checked) (os := os) (X := fun w _ => laidMetH Tryd.prog laidList w) false (laidWorld os) #[.string ByteArray.empty, .string ByteArray.empty] 8 rfl (by kernel_rfl) (by kernel_rfl) (by kernel_rfl) (by kernel_rfl) (by kernel_rfl) (laidWorld_met os _)) ?_
  intro W base args ds gs before hval0 hW _ _ hL _
  have hval : ∀ (j : Nat) t v, Tryd.f11.params[j]? = some t → args[j]? = some v → Value.okWide Tryd.prog W .any base t v := hval0
  have hW' := hW
  obtain ⟨p, q, hA0, hV, rfl, hfz, hnd⟩ := hW
  have hA : DataW.TrodAll enc Tryd.prog W 0 (fun _ => true) true Tryd.f11.params.toList args.toList ds p := hA0
  rw [Tryd.params11] at hA hval
  obtain ⟨v0, vs0, d0, ds0, p0, q0, hargs, rfl, rfl, h0, r0⟩ := trodAll_cons hA
  obtain ⟨v1, vs1, d1, ds1, p1, q1, rfl, rfl, rfl, h1, r1⟩ := trodAll_cons r0
  obtain ⟨rfl, rfl, rfl⟩ := trodAll_nil r1
  obtain rfl : args = #[v0, v1] := by cases args; simp_all
  obtain ⟨rfl, rfl⟩ := trodVars_none hV
  obtain ⟨a0, rfl, rfl, rfl, y0⟩ := open_string Tryd.underlying9 (hval 0 9 v0 rfl rfl) h0
  have z0 : a0.size ≤ 9223372036854775807 := by unfold maxLen at y0; omega
  obtain ⟨a1, rfl, rfl, rfl, y1⟩ := open_string Tryd.underlying9 (hval 1 9 v1 rfl rfl) h1
  have z1 : a1.size ≤ 9223372036854775807 := by unfold maxLen at y1; omega
  clear hA0 hval0
  simp only [List.append_nil] at hW'
  obtain ⟨k, hk⟩ := pure_FnExactRankOfNumber a0 a1 z0 z1
  refine (laws_FnExactRankOfNumber.calls k a0 a1 true W  hk).mono fun e W' ⟨he, bel0⟩ => ?_
  have bel : Below W.heap.size W W' := bel0
  subst he
  exact ⟨_, rfl, _, _, _, [], [], [], hW', trodAll_mk1 (shut_bool Tryd.underlying4 _), (trodAll_cons_mk (shut_string Tryd.underlying9 y0) (trodAll_cons_mk (shut_string Tryd.underlying9 y1) trodAll_mk0)), rfl, bel.frame _, fun h => by cases h⟩
theorem over : Rows.fnExactRankOfNumberRow.holds Tryd.pinned (OpenSpec.ofChange Rows.fnExactRankOfNumberSpec) :=
  OpenClaim.holds_of_wide 11 Tryd.f11 rfl rfl rfl rfl rfl rfl rfl ⟨rfl, rfl, rfl, rfl, rfl⟩ rfl rfl rfl rfl rfl (by kernel_rfl) Tryd.func11 (by kernel_rfl)
    (of_decide_eq_true (by kernel_rfl)) (by unfold Func.isWrapper; first | (rw [if_pos (by decide +kernel)]; kernel_rfl) | (rw [if_neg (by decide +kernel)]; exact ⟨rfl, rfl⟩))
    (fun os started H enc _ => lifted os started H enc)
theorem proved : Rows.FnExactRankOfNumberSaid := over
theorem card : Rows.FnExactRankOfNumberCardSaid :=
  Claim7.holds_tied_plain_at .later [] [.data, .pinned] true (true, "60c4429d754dc42039e1069a9847a88d69239606673fb917d8fd30c9a49ea671") false
    proved (fun _ h => by cases h) (by kernel_rfl) (fun _ h => by cases h) fnExactRankOfNumber_row_tie rfl ⟨rfl, rfl⟩ (by kernel_rfl) rfl
    (fun f fn hf hfn => by
      obtain rfl : f = 11 := Option.some.inj ((show Tryd.prog.funcNamed "loop.example/g01350/laws.FnExactRankOfNumber" = some 11 by kernel_rfl).symm.trans hf) |>.symm
      obtain rfl : fn = Tryd.f11 := (Option.some.inj (Tryd.func11.symm.trans hfn)).symm
      exact ⟨by kernel_rfl, fun j t ht => by
        rw [Tryd.params11] at ht
        have hm : t ∈ #[9, 9] := Array.mem_of_getElem? ht
        have hm : t ∈ [9, 9] := by simpa using hm
        have hall : ([9, 9].all fun u => !Tryd.prog.wantsStandIn u) = true := by kernel_rfl
        exact (show Tryd.prog.wantsStandIn t = false by simpa using List.all_eq_true.1 hall t hm)⟩)
    (by kernel_rfl)
#print axioms card
end Go.Proofs.YtbichbiiephmhaaDoor.fnExactRankOfNumber
namespace Go.Proofs.YtbichbiiephmhaaDoor
theorem fnExactRankOfNumber_holds : Rows.FnExactRankOfNumberCardSaid := fnExactRankOfNumber.card
end Go.Proofs.YtbichbiiephmhaaDoor

