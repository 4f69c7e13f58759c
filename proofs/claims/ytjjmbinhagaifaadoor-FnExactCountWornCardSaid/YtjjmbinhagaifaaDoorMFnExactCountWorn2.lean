/- Part 2 of 2 of the proof of: FnExactCountWornCardSaid: the law 'FnExactCountWorn' answers true for every input, and leaves its arguments as they were. The row and its tied card, over the walk of its calls and the pure statement. -/
import Derived.Test.YtjjmbinhagaifaaDoorMFnExactCountWorn1
import Derived.Test.YtjjmbinhagaifaaDoorWWords
import Derived.Test.YtjjmbinhagaifaaDoorWMore
import Derived.Laws.Strings
import Derived.Lib.SlTrimSet
import Derived.Lib.Bytealg
import Derived.Lib.SlicesCompact
import Derived.WalkKit
import Derived.ProofKit
import Derived.OpenShut
import Derived.ShutString
import Derived.ChangeOld
import Derived.Below
import Derived.SizedLaws
import Derived.ChangeSlices
import Derived.SliceStrings
import Derived.Lib.SmallJoins
import Derived.LaidLaws
import Derived.LaidHandle
import Derived.LaidMore
import Derived.Test.YtjjmbinhagaifaaDoorRows
import Derived.Test.YtjjmbinhagaifaaDoorCards
import Derived.Test.YtjjmbinhagaifaaDoorTie
import Derived.Handed
import Derived.SevenTiedAt
import Derived.Stop.Joined
-- printed by xprint.py
namespace Go.Proofs.YtjjmbinhagaifaaDoor.P
open Go.RowKit Go.Proofs.YtjjmbinhagaifaaDoorW.PrintWords Go.Proofs.YtjjmbinhagaifaaDoorW.PrintLast Go.Proofs.YtjjmbinhagaifaaDoorW.PrintMore
attribute [local go_sem] max2_int min2_int max_two min_two max_three min_three max_four min_four   -- for this text's walks alone
set_option linter.unusedVariables false
set_option linter.unusedSimpArgs false

/-! ### spec_CountWorn: function 19 -/
mutual
def spec_CountWorn.j0 : Nat → ByteArray → Int → Bool → Option (Int × Bool)
 | 0, _, _, _ => none
 | k + 1, x0, x1, x18 => if x18 = true then (some (0, false)) else (spec_CountWorn.l0 k x0 x1 1)
def spec_CountWorn.l0 : Nat → ByteArray → Int → Int → Option (Int × Bool)
 | 0, _, _, _ => none
 | k + 1, x0, x1, x6 => if x6 < (x0.size : Int) then (if 0 ≤ (wrap64 (x6 - 1)) then (if (wrap64 (x6 - 1)) < (x0.size : Int) then (if 0 ≤ x6 then (if (bt x0 (wrap64 (x6 - 1))) ≥ (bt x0 x6) then (some (0, false)) else (spec_CountWorn.l0 k x0 x1 (wrap64 (x6 + 1)))) else (none)) else (none)) else (none)) else (if 0 ≤ (wrap64 ((x0.size : Int) + 1)) then (if (wrap64 ((x0.size : Int) + 1) : Int).toNat ≤ 35184372088832 then ((some (List.replicate (wrap64 ((x0.size : Int) + 1) : Int).toNat 0 : List Int)).bind fun y103 => (if 0 < (y103.length : Int) then (spec_CountWorn.l1 k x0 x1 (y103.set (0 : Int).toNat 1)) else (none))) else (none)) else (none))
def spec_CountWorn.l1 : Nat → ByteArray → Int → List Int → Option (Int × Bool)
 | 0, _, _, _ => none
 | k + 1, x0, x1, x7 => if x1 > 0 then (if 0 ≤ (wrap64 ((x0.size : Int) + 1)) then (if (wrap64 ((x0.size : Int) + 1) : Int).toNat ≤ 35184372088832 then (spec_CountWorn.l2 k x0 x1 (List.replicate (wrap64 ((x0.size : Int) + 1) : Int).toNat 0) x7 (x7.length : Int) 0) else (none)) else (none)) else (if 0 ≤ (x0.size : Int) then (if (x0.size : Int) < (x7.length : Int) then (some (rd x7 (x0.size : Int), true)) else (none)) else (none))
def spec_CountWorn.l2 : Nat → ByteArray → Int → List Int → List Int → Int → Int → Option (Int × Bool)
 | 0, _, _, _, _, _, _ => none
 | k + 1, x0, x1, x8, x47, x48, x49 => if x49 < x48 then (if 0 ≤ x49 then (if x49 < (x47.length : Int) then (if x49 < (x8.length : Int) then ((some (x8.set (x49 : Int).toNat (wrap64 ((rd x8 x49) + (wrap64 ((rd x47 x49) * x49)))) : List Int)).bind fun y113 => (if x49 < (x0.size : Int) then (if 0 ≤ (wrap64 (x49 + 1)) then (if (wrap64 (x49 + 1)) < (x8.length : Int) then (spec_CountWorn.l2 k x0 x1 (y113.set ((wrap64 (x49 + 1)) : Int).toNat (wrap64 ((rd y113 (wrap64 (x49 + 1))) + (wrap64 ((rd x47 x49) * (wrap64 ((x0.size : Int) - x49))))))) x47 x48 (wrap64 (x49 + 1))) else (none)) else (none)) else (spec_CountWorn.l2 k x0 x1 y113 x47 x48 (wrap64 (x49 + 1))))) else (none)) else (none)) else (none)) else (spec_CountWorn.l1 k x0 (wrap64 (x1 - 1)) x8)
end
def spec_CountWorn.f (k : Nat) (a0 : ByteArray) (a1 : Int) : Option (Int × Bool) := (spec_piDigits.f k a0 1 10).bind fun t101 => (if t101 = true then ((spec_l1In.f a1 2 4).bind fun t102 => (spec_CountWorn.j0 k a0 a1 (!t102))) else (spec_CountWorn.j0 k a0 a1 true))
theorem spec_CountWorn.mono_l : ∀ k, (∀ y0 y1 y2, LeO (spec_CountWorn.j0 k y0 y1 y2) (spec_CountWorn.j0 (k + 1) y0 y1 y2)) ∧ (∀ y0 y1 y2, LeO (spec_CountWorn.l0 k y0 y1 y2) (spec_CountWorn.l0 (k + 1) y0 y1 y2)) ∧ (∀ y0 y1 y2, LeO (spec_CountWorn.l1 k y0 y1 y2) (spec_CountWorn.l1 (k + 1) y0 y1 y2)) ∧ (∀ y0 y1 y2 y3 y4 y5, LeO (spec_CountWorn.l2 k y0 y1 y2 y3 y4 y5) (spec_CountWorn.l2 (k + 1) y0 y1 y2 y3 y4 y5))
 | 0 => ⟨by intros; intro r h; simp [spec_CountWorn.j0] at h, by intros; intro r h; simp [spec_CountWorn.l0] at h, by intros; intro r h; simp [spec_CountWorn.l1] at h, by intros; intro r h; simp [spec_CountWorn.l2] at h⟩
 | k + 1 => by
  obtain ⟨ih0, ih1, ih2, ih3⟩ := spec_CountWorn.mono_l k
  refine ⟨?_, ?_, ?_, ?_⟩
  ·
   intro y0 y1 y2
   unfold spec_CountWorn.j0
   repeat' first
   | (with_reducible exact ih0 _ _ _)
   | (with_reducible exact ih1 _ _ _)
   | (with_reducible exact ih2 _ _ _)
   | (with_reducible exact ih3 _ _ _ _ _ _)
   | (with_reducible exact spec_piDigits.mono _ _ _ _)
   | (with_reducible exact LeO.refl _)
   | (with_reducible exact LeO.none _)
   | (with_reducible refine LeO.ite ?_ ?_)
   | (with_reducible refine LeO.bind ?_ (fun _ => ?_))
   | exact ih0 _ _ _
   | exact ih1 _ _ _
   | exact ih2 _ _ _
   | exact ih3 _ _ _ _ _ _
   | exact spec_piDigits.mono _ _ _ _
   | exact LeO.none _
   | refine LeO.ite ?_ ?_
   | refine LeO.bind ?_ (fun _ => ?_)
  ·
   intro y0 y1 y2
   unfold spec_CountWorn.l0
   repeat' first
   | (with_reducible exact ih0 _ _ _)
   | (with_reducible exact ih1 _ _ _)
   | (with_reducible exact ih2 _ _ _)
   | (with_reducible exact ih3 _ _ _ _ _ _)
   | (with_reducible exact spec_piDigits.mono _ _ _ _)
   | (with_reducible exact LeO.refl _)
   | (with_reducible exact LeO.none _)
   | (with_reducible refine LeO.ite ?_ ?_)
   | (with_reducible refine LeO.bind ?_ (fun _ => ?_))
   | exact ih0 _ _ _
   | exact ih1 _ _ _
   | exact ih2 _ _ _
   | exact ih3 _ _ _ _ _ _
   | exact spec_piDigits.mono _ _ _ _
   | exact LeO.none _
   | refine LeO.ite ?_ ?_
   | refine LeO.bind ?_ (fun _ => ?_)
  ·
   intro y0 y1 y2
   unfold spec_CountWorn.l1
   repeat' first
   | (with_reducible exact ih0 _ _ _)
   | (with_reducible exact ih1 _ _ _)
   | (with_reducible exact ih2 _ _ _)
   | (with_reducible exact ih3 _ _ _ _ _ _)
   | (with_reducible exact spec_piDigits.mono _ _ _ _)
   | (with_reducible exact LeO.refl _)
   | (with_reducible exact LeO.none _)
   | (with_reducible refine LeO.ite ?_ ?_)
   | (with_reducible refine LeO.bind ?_ (fun _ => ?_))
   | exact ih0 _ _ _
   | exact ih1 _ _ _
   | exact ih2 _ _ _
   | exact ih3 _ _ _ _ _ _
   | exact spec_piDigits.mono _ _ _ _
   | exact LeO.none _
   | refine LeO.ite ?_ ?_
   | refine LeO.bind ?_ (fun _ => ?_)
  ·
   intro y0 y1 y2 y3 y4 y5
   unfold spec_CountWorn.l2
   repeat' first
   | (with_reducible exact ih0 _ _ _)
   | (with_reducible exact ih1 _ _ _)
   | (with_reducible exact ih2 _ _ _)
   | (with_reducible exact ih3 _ _ _ _ _ _)
   | (with_reducible exact spec_piDigits.mono _ _ _ _)
   | (with_reducible exact LeO.refl _)
   | (with_reducible exact LeO.none _)
   | (with_reducible refine LeO.ite ?_ ?_)
   | (with_reducible refine LeO.bind ?_ (fun _ => ?_))
   | exact ih0 _ _ _
   | exact ih1 _ _ _
   | exact ih2 _ _ _
   | exact ih3 _ _ _ _ _ _
   | exact spec_piDigits.mono _ _ _ _
   | exact LeO.none _
   | refine LeO.ite ?_ ?_
   | refine LeO.bind ?_ (fun _ => ?_)
theorem spec_CountWorn.mono : ∀ y0 y1 k, LeO (spec_CountWorn.f k y0 y1) (spec_CountWorn.f (k + 1) y0 y1) := by
 intro y0 y1 k
 obtain ⟨ih0, ih1, ih2, ih3⟩ := spec_CountWorn.mono_l k
 unfold spec_CountWorn.f
 repeat' first
   | (with_reducible exact ih0 _ _ _)
   | (with_reducible exact ih1 _ _ _)
   | (with_reducible exact ih2 _ _ _)
   | (with_reducible exact ih3 _ _ _ _ _ _)
   | (with_reducible exact spec_piDigits.mono _ _ _ _)
   | (with_reducible exact LeO.refl _)
   | (with_reducible exact LeO.none _)
   | (with_reducible refine LeO.ite ?_ ?_)
   | (with_reducible refine LeO.bind ?_ (fun _ => ?_))
   | exact ih0 _ _ _
   | exact ih1 _ _ _
   | exact ih2 _ _ _
   | exact ih3 _ _ _ _ _ _
   | exact spec_piDigits.mono _ _ _ _
   | exact LeO.none _
   | refine LeO.ite ?_ ?_
   | refine LeO.bind ?_ (fun _ => ?_)
set_option maxHeartbeats 8000000 in
set_option maxRecDepth 100000 in
theorem spec_CountWorn.calls (k : Nat) (a0 : ByteArray) (a1 : Int) (r1 : Int) (r2 : Bool) (w : World) (h : spec_CountWorn.f k a0 a1 = some (r1, r2)) :
  Calls Tryd.prog 19 #[.string a0, .int .i64 a1] w fun e w' => e = .returned (.tuple #[.int .i64 r1, .bool r2]) ∧ Below w.heap.size w w' := by
 have HB := Aside0.mk (Below.refl w.heap.size w)
 have H : ((spec_piDigits.f k a0 1 10).bind fun t101 => (if t101 = true then ((spec_l1In.f a1 2 4).bind fun t102 => (spec_CountWorn.j0 k a0 a1 (!t102))) else (spec_CountWorn.j0 k a0 a1 true))) = some (r1, r2) := h
 clear h
 have HC3 := Aside0.mk H
 clear H
 go_enter Tryd.func19, Tryd.ntmps19
 go_upto_region 1 with (fail)
 repeat (go_quiet (fail); go_upto_region 1 with (fail))
 go_cut [18] (fun v18 wc => ∃ (kq : Nat) (x18_2 : Bool), v18 = .bool x18_2 ∧ Aside0 (spec_CountWorn.j0 kq a0 a1 x18_2 = some (r1, r2)) ∧ Aside0 (kq ≤ k) ∧ Aside0 (Below w.heap.size w wc))
 case first =>
  have H := HC3.out
  clear HC3
  replace H := Option.bind_eq_some_iff.mp H
  obtain ⟨t101, A40, H⟩ := H
  replace H : (if t101 = true then ((spec_l1In.f a1 2 4).bind fun t102 => (spec_CountWorn.j0 k a0 a1 (!t102))) else (spec_CountWorn.j0 k a0 a1 true)) = some (r1, r2) := H
  have A4 := Aside0.mk A40
  clear A40
  by_cases c5 : t101 = true
  ·
   subst c5
   have H1 : ((spec_l1In.f a1 2 4).bind fun t102 => (spec_CountWorn.j0 k a0 a1 (!t102))) = some (r1, r2) := by rw [if_pos rfl] at H; exact H
   clear H
   have H := H1
   clear H1
   replace H := Option.bind_eq_some_iff.mp H
   obtain ⟨t102, A60, H⟩ := H
   replace H : (spec_CountWorn.j0 k a0 a1 (!t102)) = some (r1, r2) := H
   have A6 := Aside0.mk A60
   clear A60
   have H' := Aside0.mk H
   clear H
   go_wp2_with (first | (go_at_call 37; (with_reducible refine (spec_piDigits.calls k a0 1 10 true _ A4.out).mono ?_); rintro e w' ⟨rfl, ⟨nd, rfl⟩⟩; (try first | exact ⟨rfl, _, World.drewN_drewN _ _ _⟩ | exact ⟨rfl, _, Eq.trans (World.drewN_drewN _ _ _) (congrArg (World.drewN _) (Nat.add_assoc _ _ _))⟩)) | (go_at_call 38; (with_reducible refine (spec_l1In.calls a1 2 4 t102 _ A6.out).mono ?_); rintro e w' ⟨rfl, ⟨nd, rfl⟩⟩; (try first | exact ⟨rfl, _, World.drewN_drewN _ _ _⟩ | exact ⟨rfl, _, Eq.trans (World.drewN_drewN _ _ _) (congrArg (World.drewN _) (Nat.add_assoc _ _ _))⟩)))
   repeat (go_quiet (first | (go_at_call 37; (with_reducible refine (spec_piDigits.calls k a0 1 10 true _ A4.out).mono ?_); rintro e w' ⟨rfl, ⟨nd, rfl⟩⟩; (try first | exact ⟨rfl, _, World.drewN_drewN _ _ _⟩ | exact ⟨rfl, _, Eq.trans (World.drewN_drewN _ _ _) (congrArg (World.drewN _) (Nat.add_assoc _ _ _))⟩)) | (go_at_call 38; (with_reducible refine (spec_l1In.calls a1 2 4 t102 _ A6.out).mono ?_); rintro e w' ⟨rfl, ⟨nd, rfl⟩⟩; (try first | exact ⟨rfl, _, World.drewN_drewN _ _ _⟩ | exact ⟨rfl, _, Eq.trans (World.drewN_drewN _ _ _) (congrArg (World.drewN _) (Nat.add_assoc _ _ _))⟩))); try go_wp2_with (first | (go_at_call 37; (with_reducible refine (spec_piDigits.calls k a0 1 10 true _ A4.out).mono ?_); rintro e w' ⟨rfl, ⟨nd, rfl⟩⟩; (try first | exact ⟨rfl, _, World.drewN_drewN _ _ _⟩ | exact ⟨rfl, _, Eq.trans (World.drewN_drewN _ _ _) (congrArg (World.drewN _) (Nat.add_assoc _ _ _))⟩)) | (go_at_call 38; (with_reducible refine (spec_l1In.calls a1 2 4 t102 _ A6.out).mono ?_); rintro e w' ⟨rfl, ⟨nd, rfl⟩⟩; (try first | exact ⟨rfl, _, World.drewN_drewN _ _ _⟩ | exact ⟨rfl, _, Eq.trans (World.drewN_drewN _ _ _) (congrArg (World.drewN _) (Nat.add_assoc _ _ _))⟩))))
   go_meet
   case rel => exact ⟨_, (!t102), (by first | rfl | (simp; done) | (simp [*]; done)), H', ⟨by first | omega | exact Nat.le_refl _⟩, ⟨by repeat (first | (with_reducible first | exact HB.out | apply below_alloc | apply pw_below_drewN | apply below_drew1) | exact HB.out)⟩⟩
  ·
   replace c5 := Bool.eq_false_iff.mpr c5
   subst c5
   have H1 : (spec_CountWorn.j0 k a0 a1 true) = some (r1, r2) := by rw [if_neg (show ¬ (false = true) by decide)] at H; exact H
   clear H
   have H := H1
   clear H1
   have H' := Aside0.mk H
   clear H
   go_wp2_with (first | (go_at_call 37; (with_reducible refine (spec_piDigits.calls k a0 1 10 false _ A4.out).mono ?_); rintro e w' ⟨rfl, ⟨nd, rfl⟩⟩; (try first | exact ⟨rfl, _, World.drewN_drewN _ _ _⟩ | exact ⟨rfl, _, Eq.trans (World.drewN_drewN _ _ _) (congrArg (World.drewN _) (Nat.add_assoc _ _ _))⟩)))
   repeat (go_quiet (first | (go_at_call 37; (with_reducible refine (spec_piDigits.calls k a0 1 10 false _ A4.out).mono ?_); rintro e w' ⟨rfl, ⟨nd, rfl⟩⟩; (try first | exact ⟨rfl, _, World.drewN_drewN _ _ _⟩ | exact ⟨rfl, _, Eq.trans (World.drewN_drewN _ _ _) (congrArg (World.drewN _) (Nat.add_assoc _ _ _))⟩))); try go_wp2_with (first | (go_at_call 37; (with_reducible refine (spec_piDigits.calls k a0 1 10 false _ A4.out).mono ?_); rintro e w' ⟨rfl, ⟨nd, rfl⟩⟩; (try first | exact ⟨rfl, _, World.drewN_drewN _ _ _⟩ | exact ⟨rfl, _, Eq.trans (World.drewN_drewN _ _ _) (congrArg (World.drewN _) (Nat.add_assoc _ _ _))⟩))))
   go_meet
   case rel => exact ⟨_, (true), (by first | rfl | (simp; done) | (simp [*]; done)), H', ⟨by first | omega | exact Nat.le_refl _⟩, ⟨by repeat (first | (with_reducible first | exact HB.out | apply below_alloc | apply pw_below_drewN | apply below_drew1) | exact HB.out)⟩⟩
 case rest =>
  clear HC3
  try clear c1
  try clear p2
  try clear c5
  obtain ⟨kq, x18_2, rfl, HA, HJ2, HB⟩ := hcut
  cases kq with
  | zero => exact absurd HA.out (by simp [spec_CountWorn.j0])
  | succ kj2 =>
   have H := HA.out
   clear HA
   simp only [spec_CountWorn.j0] at H
   by_cases c7 : x18_2 = true
   ·
    subst c7
    have H1 : (some (0, false)) = some (r1, r2) := by rw [if_pos rfl] at H; exact H
    clear H
    have H := H1
    clear H1
    simp only [Option.some.injEq, Prod.mk.injEq] at H
    obtain ⟨rfl, rfl⟩ := H
    go_wp2
    repeat (go_quiet (fail); try go_wp2)
    go_ret2
    exact ⟨by first | rfl | (simp [errW_none, errW_some] <;> rfl) | (simp [*, errW_none, errW_some] <;> rfl), by repeat (first | (with_reducible first | exact HB.out | apply below_alloc | apply pw_below_drewN | apply below_drew1) | exact HB.out)⟩
   ·
    replace c7 := Bool.eq_false_iff.mpr c7
    subst c7
    have H1 : (spec_CountWorn.l0 kj2 a0 a1 1) = some (r1, r2) := by rw [if_neg (show ¬ (false = true) by decide)] at H; exact H
    clear H
    have H := H1
    clear H1
    have H' := Aside0.mk H
    clear H
    go_wp2
    repeat (go_quiet (fail); try go_wp2)
    go_loopg [6] kj2 (fun kq v6 w' => ∃ (x6_2 : Int), v6 = .int .i64 x6_2 ∧ Aside0 (spec_CountWorn.l0 kq a0 a1 x6_2 = some (r1, r2)) ∧ Aside0 (kq ≤ kj2) ∧ Aside0 (Below w.heap.size w w'))
    case atStart => exact ⟨(1), (by first | rfl | (simp; done) | (simp [*]; done)), H', ⟨Nat.le_refl _⟩, ⟨by repeat (first | (with_reducible first | exact HB.out | apply below_alloc | apply pw_below_drewN | apply below_drew1) | exact HB.out)⟩⟩
    case round =>
     clear H'
     try clear c1
     try clear p2
     try clear c5
     try clear c7
     try clear p2
     obtain ⟨x6_2, rfl, HA, HK2, HB⟩ := hrel
     cases gk with
     | zero => exact absurd HA.out (by simp [spec_CountWorn.l0])
     | succ k2 =>
      have H := HA.out
      clear HA
      simp only [spec_CountWorn.l0] at H
      by_cases c8 : x6_2 < (a0.size : Int)
      ·
       rw [if_pos c8] at H
       have c8b0 : decide (x6_2 < (a0.size : Int)) = true := decide_eq_true c8
       clear c8
       obtain ⟨ji9, hji9⟩ : ∃ j_ : Int, (wrap64 (x6_2 - 1)) = j_ := ⟨_, rfl⟩
       replace H : (if 0 ≤ (ji9) then (if (ji9) < (a0.size : Int) then (if 0 ≤ x6_2 then (if (bt a0 (ji9)) ≥ (bt a0 x6_2) then (some (0, false)) else (spec_CountWorn.l0 k2 a0 a1 (wrap64 (x6_2 + 1)))) else (none)) else (none)) else (none)) = some (r1, r2) := by first | (rw [hji9] at H; exact H) | (simp only [hji9] at H ⊢; exact H)
       have hji9w : (IntKind.i64.wrap (x6_2 - 1)) = ji9 := (i64_w _).trans hji9
       by_cases c10 : 0 ≤ (ji9)
       ·
        rw [if_pos c10] at H
        have c10b0 : decide (0 ≤ (ji9)) = true := decide_eq_true c10
        clear c10
        by_cases c11 : (ji9) < (a0.size : Int)
        ·
         rw [if_pos c11] at H
         have c11b0 : decide ((ji9) < (a0.size : Int)) = true := decide_eq_true c11
         clear c11
         by_cases c13 : 0 ≤ x6_2
         ·
          rw [if_pos c13] at H
          have c13b0 : decide (0 ≤ x6_2) = true := decide_eq_true c13
          clear c13
          by_cases c15 : (bt a0 (ji9)) ≥ (bt a0 x6_2)
          ·
           rw [if_pos c15] at H
           have c15b0 : decide ((bt a0 x6_2) ≤ (bt a0 (ji9))) = true := decide_eq_true c15
           clear c15
           simp only [Option.some.injEq, Prod.mk.injEq] at H
           obtain ⟨rfl, rfl⟩ := H
           have p12 : 0 ≤ ((ji9) : Int) := of_decide_eq_true (by first | (with_reducible assumption) | assumption)
           have q12 : (ji9) < (a0.size : Int) := of_decide_eq_true (by first | (with_reducible assumption) | assumption)
           have hx12 := bt_at a0 (ji9)
           replace p12 := eq_true p12
           replace q12 := eq_true q12
           have p14 : 0 ≤ (x6_2 : Int) := of_decide_eq_true (by first | (with_reducible assumption) | assumption)
           have q14 : x6_2 < (a0.size : Int) := of_decide_eq_true (by first | (with_reducible assumption) | assumption)
           have hx14 := bt_at a0 x6_2
           replace p14 := eq_true p14
           replace q14 := eq_true q14
           go_wp2
           repeat (go_quiet (fail); try go_wp2)
           go_ret2
           exact ⟨by first | rfl | (simp [errW_none, errW_some] <;> rfl) | (simp only [← hji9]; first | rfl | (simp [errW_none, errW_some] <;> rfl)) | (simp [*, errW_none, errW_some] <;> rfl), by repeat (first | (with_reducible first | exact HB.out | apply below_alloc | apply pw_below_drewN | apply below_drew1) | exact HB.out)⟩
          ·
           rw [if_neg c15] at H
           have c15b0 : decide ((bt a0 x6_2) ≤ (bt a0 (ji9))) = false := decide_eq_false c15
           clear c15
           have H' := Aside0.mk H
           clear H
           have p12 : 0 ≤ ((ji9) : Int) := of_decide_eq_true (by first | (with_reducible assumption) | assumption)
           have q12 : (ji9) < (a0.size : Int) := of_decide_eq_true (by first | (with_reducible assumption) | assumption)
           have hx12 := bt_at a0 (ji9)
           replace p12 := eq_true p12
           replace q12 := eq_true q12
           have p14 : 0 ≤ (x6_2 : Int) := of_decide_eq_true (by first | (with_reducible assumption) | assumption)
           have q14 : x6_2 < (a0.size : Int) := of_decide_eq_true (by first | (with_reducible assumption) | assumption)
           have hx14 := bt_at a0 x6_2
           replace p14 := eq_true p14
           replace q14 := eq_true q14
           go_wp2
           repeat (go_quiet (fail); try go_wp2)
           go_roundg k2
           case measure => have := HJ2.out; have := HK2.out; omega
           case rel => exact ⟨(wrap64 (x6_2 + 1)), (by first | rfl | (simp; done) | (simp [*]; done)), H', ⟨by have := HJ2.out; have := HK2.out; omega⟩, ⟨by repeat (first | (with_reducible first | exact HB.out | apply below_alloc | apply pw_below_drewN | apply below_drew1) | exact HB.out)⟩⟩
         ·
          rw [if_neg c13] at H
          exact absurd H (by simp)
        ·
         rw [if_neg c11] at H
         exact absurd H (by simp)
       ·
        rw [if_neg c10] at H
        exact absurd H (by simp)
      ·
       rw [if_neg c8] at H
       have c8b0 : decide (x6_2 < (a0.size : Int)) = false := decide_eq_false c8
       clear c8
       obtain ⟨ji16, hji16⟩ : ∃ j_ : Int, (wrap64 ((a0.size : Int) + 1)) = j_ := ⟨_, rfl⟩
       replace H : (if 0 ≤ (ji16) then (if (ji16 : Int).toNat ≤ 35184372088832 then ((some (List.replicate (ji16 : Int).toNat 0 : List Int)).bind fun y103 => (if 0 < (y103.length : Int) then (spec_CountWorn.l1 k2 a0 a1 (y103.set (0 : Int).toNat 1)) else (none))) else (none)) else (none)) = some (r1, r2) := by first | (rw [hji16] at H; exact H) | (simp only [hji16] at H ⊢; exact H)
       have hji16w : (IntKind.i64.wrap ((a0.size : Int) + 1)) = ji16 := (i64_w _).trans hji16
       by_cases c17 : 0 ≤ (ji16)
       ·
        rw [if_pos c17] at H
        have c17b0 := eq_true c17
        have c17b1 : decide (0 ≤ (ji16)) = true := decide_eq_true c17
        clear c17
        by_cases c18 : (ji16 : Int).toNat ≤ 35184372088832
        ·
         rw [if_pos c18] at H
         have c18b0 := eq_true c18
         have c18b1 : decide ((ji16 : Int).toNat ≤ 35184372088832) = true := decide_eq_true c18
         clear c18
         obtain ⟨y103, hy103⟩ : ∃ y_ : List Int, y_ = (List.replicate (ji16 : Int).toNat 0) := ⟨_, rfl⟩
         replace H : (if 0 < (y103.length : Int) then (spec_CountWorn.l1 k2 a0 a1 (y103.set (0 : Int).toNat 1)) else (none)) = some (r1, r2) := by first | (rw [hy103]; with_reducible exact H) | (have H2_ := (Option.bind_some _ _).symm.trans H; rw [hy103]; with_reducible exact H2_) | (have H2_ := (Option.bind_some _ _).symm.trans H; with_reducible exact H2_) | with_reducible exact H | (rw [hy103]; exact H) | exact H
         have Ny103 := Aside0.mk hy103
         clear hy103
         by_cases c19 : 0 < (y103.length : Int)
         ·
          rw [if_pos c19] at H
          have c19b0 : decide (0 < (y103.length : Int)) = true := decide_eq_true c19
          have c19b1 : decide (0 < y103.length) = true := decide_eq_true (by omega)
          clear c19
          obtain ⟨y106, hy106⟩ : ∃ y_ : List Int, y_ = (y103.set (0 : Int).toNat 1) := ⟨_, rfl⟩
          replace H : (spec_CountWorn.l1 k2 a0 a1 y106) = some (r1, r2) := by first | (rw [hy106]; with_reducible exact H) | (have H2_ := (Option.bind_some _ _).symm.trans H; rw [hy106]; with_reducible exact H2_) | (have H2_ := (Option.bind_some _ _).symm.trans H; with_reducible exact H2_) | with_reducible exact H | (rw [hy106]; exact H) | exact H
          have Ny106 := Aside0.mk hy106
          clear hy106
          have H' := Aside0.mk H
          clear H
          go_wp2_with (first | ((with_reducible refine gate_dst (N := 36) rfl ?_); refine Kd.R_make (Kd.int .i64) _ 3 rfl (N := 36) rfl 39 _ _ rfl ji16 rfl rfl Tryd.underlying39 (.int .i64 0) 8 info3 rfl (by decide) (by omega) 0 (ok := fun _ => True) (okp := fun _ => True) rfl (fun _ hk => hk) trivial (of_decide_eq_true (by first | (with_reducible assumption) | assumption)) (Nat.le_trans (Nat.mul_le_mul_right _ (of_decide_eq_true (by first | (with_reducible assumption) | assumption) : ji16.toNat ≤ 35184372088832)) (by omega)) (Below.refl _ _) (Nat.le_refl _) ?_; intro v104 w21 ho22 hb hg_ hnew_; clear hg_ hnew_; (first | rw [← Ny103.out] at ho22 | (simp only [Int.reduceToNat] at ho22; rw [← Ny103.out] at ho22)); have n0_ := Aside0.mk (Kd.R_lower ho22 (below_size (by repeat (first | (with_reducible first | exact HB.out | apply below_alloc | apply pw_below_drewN | apply below_drew1) | exact HB.out)))); have n1_ := Aside0.mk (below_step (by repeat (first | (with_reducible first | exact HB.out | apply below_alloc | apply pw_below_drewN | apply below_drew1) | exact HB.out)) hb); clear HB; have HO105 := n0_; have HB := n1_; clear n0_ n1_; clear hb ho22; have p20 : 0 ≤ (0 : Int) := (by omega); have q20 : (0 : Int) < ((y103.length : Int) : Int) := of_decide_eq_true (by first | (with_reducible assumption) | assumption); have qi20 : (0 < y103.length) = True := eq_true (by omega); obtain ⟨go20, co20, eo20, gb20, gl20, cl20, HG20⟩ := Kd.R_form HO105.out (by omega); (first | cases eo20 | (injection eo20 with ea_ en_ ec_; (first | subst ea_ | (injection ea_ with ea_; subst ea_)); subst ec_; clear en_)); have GB20 := Aside0.mk gb20; have GG20 := Aside0.mk HG20; clear gb20 gl20 HG20; obtain ⟨hx20_0, hf20_0⟩ := Kd.R_celln 0 HO105.out (0 : Int) p20 q20; (try rw [show ((0 : Int)).toNat = 0 from rfl] at hx20_0); (try simp only [Nat.reduceMul, Nat.zero_mul, Nat.zero_add, Nat.reduceAdd] at hx20_0); (try rw [show ((0 : Int)).toNat = 0 from rfl] at hf20_0); (try simp only [Nat.reduceMul, Nat.zero_mul, Nat.zero_add, Nat.reduceAdd] at hf20_0); replace p20 := eq_true p20; replace q20 := eq_true q20; obtain ⟨hy23_, hz23_⟩ := Kd.R_celln 0 HO105.out (0 : Int) (by omega) (of_decide_eq_true (by first | (with_reducible assumption) | assumption)); (try simp only [Int.reduceToNat, Int.toNat_zero, Int.toNat_ofNat, Nat.reduceMul, Nat.zero_mul, Nat.zero_add] at hy23_ hz23_); (try rw [show ((0 : Int)).toNat = 0 from rfl] at hy23_); (try rw [show ((0 : Int)).toNat = 0 from rfl] at hz23_); have HP23 := Kd.R_putg HO105.out (0 : Int) 1) | ((with_reducible refine gate_store (t := 3) (p := 38) rfl ?_); (try (rw [drewN_self w21]; generalize hq_ : World.drewN w21 _ = w21; have n0_ := Aside0.mk (Kd.R_at hq_ HO105.out); have n1_ := Aside0.mk (below_at hq_ HB.out); clear hq_ HO105 HB; have HO105 := n0_; have HB := n1_; clear n0_ n1_; (try (obtain ⟨hy23_, hz23_⟩ := Kd.R_celln 0 HO105.out (0 : Int) (by omega) (of_decide_eq_true (by first | (with_reducible assumption) | assumption)))); (try (try simp only [Int.reduceToNat, Int.toNat_zero, Int.toNat_ofNat, Nat.reduceMul, Nat.zero_mul, Nat.zero_add] at hy23_ hz23_)); (try (try rw [show ((0 : Int)).toNat = 0 from rfl] at hy23_)); (try (try rw [show ((0 : Int)).toNat = 0 from rfl] at hz23_)); (try (have HP23 := Kd.R_putg HO105.out (0 : Int) 1)))); refine store_event (t := 3) (p := 38) (v := ?vo_w24) (w1 := (w21.setCell ⟨go20, (0 : Int).toNat, none⟩ (.int .i64 1))) ?hg ?ho ?hn ?hr ?_; (case ho => rfl); (case hg => rfl); (case hn => rfl); (case hr => first | (go_simp; done) | (go_simp; rfl)); intro w24 hw; have hg : w21.grownBy w24 (some go20) := (by rw [hw]; exact HP23.2); have hp_ : Kd.R (Kd.int .i64) 3 w24 w.heap.size (fun _ => True) (.slice (some ⟨go20, 0, none⟩) y103.length co20) y106 := (by rw [hw, Ny106.out]; exact HP23.1); clear HP23; have n0_ := Aside0.mk (hp_); have n1_ := Aside0.mk ((by rw [hw]; exact below_set (HB.out) GB20.out : Below w.heap.size w w24)); clear HO105; clear HB; have HO105 := n0_; have HB := n1_; clear n0_ n1_; clear hg hw hp_))
          repeat (go_quiet (first | ((with_reducible refine gate_dst (N := 36) rfl ?_); refine Kd.R_make (Kd.int .i64) _ 3 rfl (N := 36) rfl 39 _ _ rfl ji16 rfl rfl Tryd.underlying39 (.int .i64 0) 8 info3 rfl (by decide) (by omega) 0 (ok := fun _ => True) (okp := fun _ => True) rfl (fun _ hk => hk) trivial (of_decide_eq_true (by first | (with_reducible assumption) | assumption)) (Nat.le_trans (Nat.mul_le_mul_right _ (of_decide_eq_true (by first | (with_reducible assumption) | assumption) : ji16.toNat ≤ 35184372088832)) (by omega)) (Below.refl _ _) (Nat.le_refl _) ?_; intro v104 w21 ho22 hb hg_ hnew_; clear hg_ hnew_; (first | rw [← Ny103.out] at ho22 | (simp only [Int.reduceToNat] at ho22; rw [← Ny103.out] at ho22)); have n0_ := Aside0.mk (Kd.R_lower ho22 (below_size (by repeat (first | (with_reducible first | exact HB.out | apply below_alloc | apply pw_below_drewN | apply below_drew1) | exact HB.out)))); have n1_ := Aside0.mk (below_step (by repeat (first | (with_reducible first | exact HB.out | apply below_alloc | apply pw_below_drewN | apply below_drew1) | exact HB.out)) hb); clear HB; have HO105 := n0_; have HB := n1_; clear n0_ n1_; clear hb ho22; have p20 : 0 ≤ (0 : Int) := (by omega); have q20 : (0 : Int) < ((y103.length : Int) : Int) := of_decide_eq_true (by first | (with_reducible assumption) | assumption); have qi20 : (0 < y103.length) = True := eq_true (by omega); obtain ⟨go20, co20, eo20, gb20, gl20, cl20, HG20⟩ := Kd.R_form HO105.out (by omega); (first | cases eo20 | (injection eo20 with ea_ en_ ec_; (first | subst ea_ | (injection ea_ with ea_; subst ea_)); subst ec_; clear en_)); have GB20 := Aside0.mk gb20; have GG20 := Aside0.mk HG20; clear gb20 gl20 HG20; obtain ⟨hx20_0, hf20_0⟩ := Kd.R_celln 0 HO105.out (0 : Int) p20 q20; (try rw [show ((0 : Int)).toNat = 0 from rfl] at hx20_0); (try simp only [Nat.reduceMul, Nat.zero_mul, Nat.zero_add, Nat.reduceAdd] at hx20_0); (try rw [show ((0 : Int)).toNat = 0 from rfl] at hf20_0); (try simp only [Nat.reduceMul, Nat.zero_mul, Nat.zero_add, Nat.reduceAdd] at hf20_0); replace p20 := eq_true p20; replace q20 := eq_true q20; obtain ⟨hy23_, hz23_⟩ := Kd.R_celln 0 HO105.out (0 : Int) (by omega) (of_decide_eq_true (by first | (with_reducible assumption) | assumption)); (try simp only [Int.reduceToNat, Int.toNat_zero, Int.toNat_ofNat, Nat.reduceMul, Nat.zero_mul, Nat.zero_add] at hy23_ hz23_); (try rw [show ((0 : Int)).toNat = 0 from rfl] at hy23_); (try rw [show ((0 : Int)).toNat = 0 from rfl] at hz23_); have HP23 := Kd.R_putg HO105.out (0 : Int) 1) | ((with_reducible refine gate_store (t := 3) (p := 38) rfl ?_); (try (rw [drewN_self w21]; generalize hq_ : World.drewN w21 _ = w21; have n0_ := Aside0.mk (Kd.R_at hq_ HO105.out); have n1_ := Aside0.mk (below_at hq_ HB.out); clear hq_ HO105 HB; have HO105 := n0_; have HB := n1_; clear n0_ n1_; (try (obtain ⟨hy23_, hz23_⟩ := Kd.R_celln 0 HO105.out (0 : Int) (by omega) (of_decide_eq_true (by first | (with_reducible assumption) | assumption)))); (try (try simp only [Int.reduceToNat, Int.toNat_zero, Int.toNat_ofNat, Nat.reduceMul, Nat.zero_mul, Nat.zero_add] at hy23_ hz23_)); (try (try rw [show ((0 : Int)).toNat = 0 from rfl] at hy23_)); (try (try rw [show ((0 : Int)).toNat = 0 from rfl] at hz23_)); (try (have HP23 := Kd.R_putg HO105.out (0 : Int) 1)))); refine store_event (t := 3) (p := 38) (v := ?vo_w24) (w1 := (w21.setCell ⟨go20, (0 : Int).toNat, none⟩ (.int .i64 1))) ?hg ?ho ?hn ?hr ?_; (case ho => rfl); (case hg => rfl); (case hn => rfl); (case hr => first | (go_simp; done) | (go_simp; rfl)); intro w24 hw; have hg : w21.grownBy w24 (some go20) := (by rw [hw]; exact HP23.2); have hp_ : Kd.R (Kd.int .i64) 3 w24 w.heap.size (fun _ => True) (.slice (some ⟨go20, 0, none⟩) y103.length co20) y106 := (by rw [hw, Ny106.out]; exact HP23.1); clear HP23; have n0_ := Aside0.mk (hp_); have n1_ := Aside0.mk ((by rw [hw]; exact below_set (HB.out) GB20.out : Below w.heap.size w w24)); clear HO105; clear HB; have HO105 := n0_; have HB := n1_; clear n0_ n1_; clear hg hw hp_)); try go_wp2_with (first | ((with_reducible refine gate_dst (N := 36) rfl ?_); refine Kd.R_make (Kd.int .i64) _ 3 rfl (N := 36) rfl 39 _ _ rfl ji16 rfl rfl Tryd.underlying39 (.int .i64 0) 8 info3 rfl (by decide) (by omega) 0 (ok := fun _ => True) (okp := fun _ => True) rfl (fun _ hk => hk) trivial (of_decide_eq_true (by first | (with_reducible assumption) | assumption)) (Nat.le_trans (Nat.mul_le_mul_right _ (of_decide_eq_true (by first | (with_reducible assumption) | assumption) : ji16.toNat ≤ 35184372088832)) (by omega)) (Below.refl _ _) (Nat.le_refl _) ?_; intro v104 w21 ho22 hb hg_ hnew_; clear hg_ hnew_; (first | rw [← Ny103.out] at ho22 | (simp only [Int.reduceToNat] at ho22; rw [← Ny103.out] at ho22)); have n0_ := Aside0.mk (Kd.R_lower ho22 (below_size (by repeat (first | (with_reducible first | exact HB.out | apply below_alloc | apply pw_below_drewN | apply below_drew1) | exact HB.out)))); have n1_ := Aside0.mk (below_step (by repeat (first | (with_reducible first | exact HB.out | apply below_alloc | apply pw_below_drewN | apply below_drew1) | exact HB.out)) hb); clear HB; have HO105 := n0_; have HB := n1_; clear n0_ n1_; clear hb ho22; have p20 : 0 ≤ (0 : Int) := (by omega); have q20 : (0 : Int) < ((y103.length : Int) : Int) := of_decide_eq_true (by first | (with_reducible assumption) | assumption); have qi20 : (0 < y103.length) = True := eq_true (by omega); obtain ⟨go20, co20, eo20, gb20, gl20, cl20, HG20⟩ := Kd.R_form HO105.out (by omega); (first | cases eo20 | (injection eo20 with ea_ en_ ec_; (first | subst ea_ | (injection ea_ with ea_; subst ea_)); subst ec_; clear en_)); have GB20 := Aside0.mk gb20; have GG20 := Aside0.mk HG20; clear gb20 gl20 HG20; obtain ⟨hx20_0, hf20_0⟩ := Kd.R_celln 0 HO105.out (0 : Int) p20 q20; (try rw [show ((0 : Int)).toNat = 0 from rfl] at hx20_0); (try simp only [Nat.reduceMul, Nat.zero_mul, Nat.zero_add, Nat.reduceAdd] at hx20_0); (try rw [show ((0 : Int)).toNat = 0 from rfl] at hf20_0); (try simp only [Nat.reduceMul, Nat.zero_mul, Nat.zero_add, Nat.reduceAdd] at hf20_0); replace p20 := eq_true p20; replace q20 := eq_true q20; obtain ⟨hy23_, hz23_⟩ := Kd.R_celln 0 HO105.out (0 : Int) (by omega) (of_decide_eq_true (by first | (with_reducible assumption) | assumption)); (try simp only [Int.reduceToNat, Int.toNat_zero, Int.toNat_ofNat, Nat.reduceMul, Nat.zero_mul, Nat.zero_add] at hy23_ hz23_); (try rw [show ((0 : Int)).toNat = 0 from rfl] at hy23_); (try rw [show ((0 : Int)).toNat = 0 from rfl] at hz23_); have HP23 := Kd.R_putg HO105.out (0 : Int) 1) | ((with_reducible refine gate_store (t := 3) (p := 38) rfl ?_); (try (rw [drewN_self w21]; generalize hq_ : World.drewN w21 _ = w21; have n0_ := Aside0.mk (Kd.R_at hq_ HO105.out); have n1_ := Aside0.mk (below_at hq_ HB.out); clear hq_ HO105 HB; have HO105 := n0_; have HB := n1_; clear n0_ n1_; (try (obtain ⟨hy23_, hz23_⟩ := Kd.R_celln 0 HO105.out (0 : Int) (by omega) (of_decide_eq_true (by first | (with_reducible assumption) | assumption)))); (try (try simp only [Int.reduceToNat, Int.toNat_zero, Int.toNat_ofNat, Nat.reduceMul, Nat.zero_mul, Nat.zero_add] at hy23_ hz23_)); (try (try rw [show ((0 : Int)).toNat = 0 from rfl] at hy23_)); (try (try rw [show ((0 : Int)).toNat = 0 from rfl] at hz23_)); (try (have HP23 := Kd.R_putg HO105.out (0 : Int) 1)))); refine store_event (t := 3) (p := 38) (v := ?vo_w24) (w1 := (w21.setCell ⟨go20, (0 : Int).toNat, none⟩ (.int .i64 1))) ?hg ?ho ?hn ?hr ?_; (case ho => rfl); (case hg => rfl); (case hn => rfl); (case hr => first | (go_simp; done) | (go_simp; rfl)); intro w24 hw; have hg : w21.grownBy w24 (some go20) := (by rw [hw]; exact HP23.2); have hp_ : Kd.R (Kd.int .i64) 3 w24 w.heap.size (fun _ => True) (.slice (some ⟨go20, 0, none⟩) y103.length co20) y106 := (by rw [hw, Ny106.out]; exact HP23.1); clear HP23; have n0_ := Aside0.mk (hp_); have n1_ := Aside0.mk ((by rw [hw]; exact below_set (HB.out) GB20.out : Below w.heap.size w w24)); clear HO105; clear HB; have HO105 := n0_; have HB := n1_; clear n0_ n1_; clear hg hw hp_)))
          go_loopg [1, 7] k2 (fun kq v1 v7 w' => ∃ (x1_3 : Int) (x7_3 : List Int), v1 = .int .i64 x1_3 ∧ Aside0 (spec_CountWorn.l1 kq a0 x1_3 x7_3 = some (r1, r2)) ∧ Aside0 (kq ≤ k2) ∧ Aside0 (Kd.R (Kd.int .i64) 3 w' w.heap.size (fun _ => True) v7 x7_3) ∧ Aside0 (Below w.heap.size w w'))
          case atStart => exact ⟨(a1), (y106), (by first | rfl | (simp; done) | (simp [*]; done)), H', ⟨Nat.le_refl _⟩, ⟨by (with_reducible repeat (first | apply Kd.R_alloc | apply Kd.R_drewN | apply Kd.R_drew)); exact HO105.out⟩, ⟨by repeat (first | (with_reducible first | exact HB.out | apply below_alloc | apply pw_below_drewN | apply below_drew1) | exact HB.out)⟩⟩
          case round =>
           clear H'
           try clear c1
           try clear p1
           try clear q1
           try clear hx1
           try clear p2
           try clear q2
           try clear hx2
           try clear qi2
           try clear hf2
           try clear c5
           try clear p6
           try clear c7
           try clear c8
           try clear c8b0
           try clear c10
           try clear c10b0
           try clear c11
           try clear c11b0
           try clear p12
           try clear q12
           try clear hx12
           try clear c13
           try clear c13b0
           try clear p14
           try clear q14
           try clear hx14
           try clear c15
           try clear c15b0
           try clear c17
           try clear c17b0
           try clear c17b1
           try clear c18
           try clear c18b0
           try clear c18b1
           try clear c19
           try clear c19b0
           try clear c19b1
           try clear p20
           try clear q20
           try clear hx20
           try clear qi20
           try clear hf20
           try clear hx20_0
           try clear p12
           try clear p14
           try clear p2
           try clear p20
           try clear q12
           try clear q14
           try clear q20
           obtain ⟨x1_3, x7_3, rfl, HA, HK3, HO_7, HB⟩ := hrel
           cases gk with
           | zero => exact absurd HA.out (by simp [spec_CountWorn.l1])
           | succ k3 =>
            have H := HA.out
            clear HA
            simp only [spec_CountWorn.l1] at H
            by_cases c25 : x1_3 > 0
            ·
             rw [if_pos c25] at H
             have c25b0 : decide (0 < x1_3) = true := decide_eq_true c25
             clear c25
             obtain ⟨ji26, hji26⟩ : ∃ j_ : Int, (wrap64 ((a0.size : Int) + 1)) = j_ := ⟨_, rfl⟩
             replace H : (if 0 ≤ (ji26) then (if (ji26 : Int).toNat ≤ 35184372088832 then (spec_CountWorn.l2 k3 a0 x1_3 (List.replicate (ji26 : Int).toNat 0) x7_3 (x7_3.length : Int) 0) else (none)) else (none)) = some (r1, r2) := by first | (rw [hji26] at H; exact H) | (simp only [hji26] at H ⊢; exact H)
             have hji26w : (IntKind.i64.wrap ((a0.size : Int) + 1)) = ji26 := (i64_w _).trans hji26
             try clear hji16w
             by_cases c27 : 0 ≤ (ji26)
             ·
              rw [if_pos c27] at H
              have c27b0 := eq_true c27
              have c27b1 : decide (0 ≤ (ji26)) = true := decide_eq_true c27
              clear c27
              by_cases c28 : (ji26 : Int).toNat ≤ 35184372088832
              ·
               rw [if_pos c28] at H
               have c28b0 := eq_true c28
               have c28b1 : decide ((ji26 : Int).toNat ≤ 35184372088832) = true := decide_eq_true c28
               clear c28
               obtain ⟨y108, hy108⟩ : ∃ y_ : List Int, y_ = (List.replicate (ji26 : Int).toNat 0) := ⟨_, rfl⟩
               replace H : (spec_CountWorn.l2 k3 a0 x1_3 y108 x7_3 (x7_3.length : Int) 0) = some (r1, r2) := by first | (rw [hy108]; with_reducible exact H) | (have H2_ := (Option.bind_some _ _).symm.trans H; rw [hy108]; with_reducible exact H2_) | (have H2_ := (Option.bind_some _ _).symm.trans H; with_reducible exact H2_) | with_reducible exact H | (rw [hy108]; exact H) | exact H
               have Ny108 := Aside0.mk hy108
               clear hy108
               have H' := Aside0.mk H
               clear H
               go_wp2_with (first | ((with_reducible refine gate_dst (N := 46) rfl ?_); refine Kd.R_make (Kd.int .i64) _ 3 rfl (N := 46) rfl 39 _ _ rfl ji26 rfl rfl Tryd.underlying39 (.int .i64 0) 8 info3 rfl (by decide) (by omega) 0 (ok := fun _ => True) (okp := fun _ => True) rfl (fun _ hk => hk) trivial (of_decide_eq_true (by first | (with_reducible assumption) | assumption)) (Nat.le_trans (Nat.mul_le_mul_right _ (of_decide_eq_true (by first | (with_reducible assumption) | assumption) : ji26.toNat ≤ 35184372088832)) (by omega)) (Below.refl _ _) (Nat.le_refl _) ?_; intro v109 w29 ho30 hb hg_ hnew_; clear hg_ hnew_; (first | rw [← Ny108.out] at ho30 | (simp only [Int.reduceToNat] at ho30; rw [← Ny108.out] at ho30)); have n0_ := Aside0.mk (Kd.R_elder' (by (with_reducible repeat (first | apply Kd.R_alloc | apply Kd.R_drewN | apply Kd.R_drew)); exact HO_7.out) (Kd.R_base ho30) hb); have n1_ := Aside0.mk (Kd.R_lower (Kd.R_new' ho30 (Kd.R_lt (by (with_reducible repeat (first | apply Kd.R_alloc | apply Kd.R_drewN | apply Kd.R_drew)); exact HO_7.out))) (below_size (by repeat (first | (with_reducible first | exact HB.out | apply below_alloc | apply pw_below_drewN | apply below_drew1) | exact HB.out)))); have n2_ := Aside0.mk (below_step (by repeat (first | (with_reducible first | exact HB.out | apply below_alloc | apply pw_below_drewN | apply below_drew1) | exact HB.out)) hb); clear HO_7; clear HB; have HO_7 := n0_; have HO110 := n1_; have HB := n2_; clear n0_ n1_ n2_; clear hb ho30; obtain ⟨Ao31, co31, eo31⟩ := Kd.R_slice HO_7.out; subst eo31))
               repeat (go_quiet (first | ((with_reducible refine gate_dst (N := 46) rfl ?_); refine Kd.R_make (Kd.int .i64) _ 3 rfl (N := 46) rfl 39 _ _ rfl ji26 rfl rfl Tryd.underlying39 (.int .i64 0) 8 info3 rfl (by decide) (by omega) 0 (ok := fun _ => True) (okp := fun _ => True) rfl (fun _ hk => hk) trivial (of_decide_eq_true (by first | (with_reducible assumption) | assumption)) (Nat.le_trans (Nat.mul_le_mul_right _ (of_decide_eq_true (by first | (with_reducible assumption) | assumption) : ji26.toNat ≤ 35184372088832)) (by omega)) (Below.refl _ _) (Nat.le_refl _) ?_; intro v109 w29 ho30 hb hg_ hnew_; clear hg_ hnew_; (first | rw [← Ny108.out] at ho30 | (simp only [Int.reduceToNat] at ho30; rw [← Ny108.out] at ho30)); have n0_ := Aside0.mk (Kd.R_elder' (by (with_reducible repeat (first | apply Kd.R_alloc | apply Kd.R_drewN | apply Kd.R_drew)); exact HO_7.out) (Kd.R_base ho30) hb); have n1_ := Aside0.mk (Kd.R_lower (Kd.R_new' ho30 (Kd.R_lt (by (with_reducible repeat (first | apply Kd.R_alloc | apply Kd.R_drewN | apply Kd.R_drew)); exact HO_7.out))) (below_size (by repeat (first | (with_reducible first | exact HB.out | apply below_alloc | apply pw_below_drewN | apply below_drew1) | exact HB.out)))); have n2_ := Aside0.mk (below_step (by repeat (first | (with_reducible first | exact HB.out | apply below_alloc | apply pw_below_drewN | apply below_drew1) | exact HB.out)) hb); clear HO_7; clear HB; have HO_7 := n0_; have HO110 := n1_; have HB := n2_; clear n0_ n1_ n2_; clear hb ho30; obtain ⟨Ao31, co31, eo31⟩ := Kd.R_slice HO_7.out; subst eo31)); try go_wp2_with (first | ((with_reducible refine gate_dst (N := 46) rfl ?_); refine Kd.R_make (Kd.int .i64) _ 3 rfl (N := 46) rfl 39 _ _ rfl ji26 rfl rfl Tryd.underlying39 (.int .i64 0) 8 info3 rfl (by decide) (by omega) 0 (ok := fun _ => True) (okp := fun _ => True) rfl (fun _ hk => hk) trivial (of_decide_eq_true (by first | (with_reducible assumption) | assumption)) (Nat.le_trans (Nat.mul_le_mul_right _ (of_decide_eq_true (by first | (with_reducible assumption) | assumption) : ji26.toNat ≤ 35184372088832)) (by omega)) (Below.refl _ _) (Nat.le_refl _) ?_; intro v109 w29 ho30 hb hg_ hnew_; clear hg_ hnew_; (first | rw [← Ny108.out] at ho30 | (simp only [Int.reduceToNat] at ho30; rw [← Ny108.out] at ho30)); have n0_ := Aside0.mk (Kd.R_elder' (by (with_reducible repeat (first | apply Kd.R_alloc | apply Kd.R_drewN | apply Kd.R_drew)); exact HO_7.out) (Kd.R_base ho30) hb); have n1_ := Aside0.mk (Kd.R_lower (Kd.R_new' ho30 (Kd.R_lt (by (with_reducible repeat (first | apply Kd.R_alloc | apply Kd.R_drewN | apply Kd.R_drew)); exact HO_7.out))) (below_size (by repeat (first | (with_reducible first | exact HB.out | apply below_alloc | apply pw_below_drewN | apply below_drew1) | exact HB.out)))); have n2_ := Aside0.mk (below_step (by repeat (first | (with_reducible first | exact HB.out | apply below_alloc | apply pw_below_drewN | apply below_drew1) | exact HB.out)) hb); clear HO_7; clear HB; have HO_7 := n0_; have HO110 := n1_; have HB := n2_; clear n0_ n1_ n2_; clear hb ho30; obtain ⟨Ao31, co31, eo31⟩ := Kd.R_slice HO_7.out; subst eo31)))
               go_loopg [49] k3 (fun kq v49 w' => ∃ (x8_4 : List Int) (x49_4 : Int), v49 = .int .i64 x49_4 ∧ Aside0 (spec_CountWorn.l2 kq a0 x1_3 x8_4 x7_3 (x7_3.length : Int) x49_4 = some (r1, r2)) ∧ Aside0 (kq ≤ k3) ∧ Aside0 (Kd.R (Kd.int .i64) 3 w' w.heap.size (fun k_ => some k_ ≠ ((.slice Ao31 x7_3.length co31) : Value).ownBlock) v109 x8_4) ∧ Aside0 (Kd.R (Kd.int .i64) 3 w' w.heap.size (fun k_ => some k_ ≠ (v109 : Value).ownBlock) (.slice Ao31 x7_3.length co31) x7_3) ∧ Aside0 (Below w.heap.size w w'))
               case atStart => exact ⟨(y108), (0), (by first | rfl | (simp; done) | (simp [*]; done)), H', ⟨Nat.le_refl _⟩, ⟨by (with_reducible repeat (first | apply Kd.R_alloc | apply Kd.R_drewN | apply Kd.R_drew)); exact Kd.R_mono HO110.out (fun _ hk => hk.2)⟩, ⟨by (with_reducible repeat (first | apply Kd.R_alloc | apply Kd.R_drewN | apply Kd.R_drew)); exact Kd.R_mono HO_7.out (fun _ hk => hk.2)⟩, ⟨by repeat (first | (with_reducible first | exact HB.out | apply below_alloc | apply pw_below_drewN | apply below_drew1) | exact HB.out)⟩⟩
               case round =>
                clear H'
                try clear c1
                try clear p1
                try clear q1
                try clear hx1
                try clear c2
                try clear p2
                try clear q2
                try clear hx2
                try clear qi2
                try clear hf2
                try clear c5
                try clear p6
                try clear c7
                try clear c8
                try clear c8b0
                try clear c10
                try clear c10b0
                try clear c11
                try clear c11b0
                try clear p12
                try clear q12
                try clear hx12
                try clear c13
                try clear c13b0
                try clear p14
                try clear q14
                try clear hx14
                try clear c15
                try clear c15b0
                try clear c17
                try clear c17b0
                try clear c17b1
                try clear c18
                try clear c18b0
                try clear c18b1
                try clear c19
                try clear c19b0
                try clear c19b1
                try clear p20
                try clear q20
                try clear hx20
                try clear qi20
                try clear hf20
                try clear c25
                try clear c25b0
                try clear c27
                try clear c27b0
                try clear c27b1
                try clear c28
                try clear c28b0
                try clear c28b1
                try clear hx20_0
                try clear p1
                try clear p12
                try clear p14
                try clear p2
                try clear p20
                try clear p6
                try clear q1
                try clear q12
                try clear q14
                try clear q2
                try clear q20
                obtain ⟨x8_4, x49_4, rfl, HA, HK4, HO_8, HO_47, HB⟩ := hrel
                cases gk with
                | zero => exact absurd HA.out (by simp [spec_CountWorn.l2])
                | succ k4 =>
                 have H := HA.out
                 clear HA
                 simp only [spec_CountWorn.l2] at H
                 by_cases c32 : x49_4 < (x7_3.length : Int)
                 ·
                  rw [if_pos c32] at H
                  have c32b0 : decide (x49_4 < (x7_3.length : Int)) = true := decide_eq_true c32
                  clear c32
                  by_cases c33 : 0 ≤ x49_4
                  ·
                   rw [if_pos c33] at H
                   have c33b0 : decide (0 ≤ x49_4) = true := decide_eq_true c33
                   clear c33
                   by_cases c34 : x49_4 < (x7_3.length : Int)
                   ·
                    rw [if_pos c34] at H
                    have c34b0 : decide (x49_4 < (x7_3.length : Int)) = true := decide_eq_true c34
                    clear c34
                    by_cases c35 : x49_4 < (x8_4.length : Int)
                    ·
                     rw [if_pos c35] at H
                     have c35b0 : decide (x49_4 < (x8_4.length : Int)) = true := decide_eq_true c35
                     clear c35
                     obtain ⟨y113, hy113⟩ : ∃ y_ : List Int, y_ = (x8_4.set (x49_4 : Int).toNat (wrap64 ((rd x8_4 x49_4) + (wrap64 ((rd x7_3 x49_4) * x49_4))))) := ⟨_, rfl⟩
                     replace H : (if x49_4 < (a0.size : Int) then (if 0 ≤ (wrap64 (x49_4 + 1)) then (if (wrap64 (x49_4 + 1)) < (x8_4.length : Int) then (spec_CountWorn.l2 k4 a0 x1_3 (y113.set ((wrap64 (x49_4 + 1)) : Int).toNat (wrap64 ((rd y113 (wrap64 (x49_4 + 1))) + (wrap64 ((rd x7_3 x49_4) * (wrap64 ((a0.size : Int) - x49_4))))))) x7_3 (x7_3.length : Int) (wrap64 (x49_4 + 1))) else (none)) else (none)) else (spec_CountWorn.l2 k4 a0 x1_3 y113 x7_3 (x7_3.length : Int) (wrap64 (x49_4 + 1)))) = some (r1, r2) := by first | (rw [hy113]; with_reducible exact H) | (have H2_ := (Option.bind_some _ _).symm.trans H; rw [hy113]; with_reducible exact H2_) | (have H2_ := (Option.bind_some _ _).symm.trans H; with_reducible exact H2_) | with_reducible exact H | (rw [hy113]; exact H) | exact H
                     have Ny113 := Aside0.mk hy113
                     clear hy113
                     by_cases c37 : x49_4 < (a0.size : Int)
                     ·
                      rw [if_pos c37] at H
                      have c37b0 : decide (x49_4 < (a0.size : Int)) = true := decide_eq_true c37
                      clear c37
                      obtain ⟨ji38, hji38⟩ : ∃ j_ : Int, (wrap64 (x49_4 + 1)) = j_ := ⟨_, rfl⟩
                      replace H : (if 0 ≤ (ji38) then (if (ji38) < (x8_4.length : Int) then (spec_CountWorn.l2 k4 a0 x1_3 (y113.set ((ji38) : Int).toNat (wrap64 ((rd y113 (ji38)) + (wrap64 ((rd x7_3 x49_4) * (wrap64 ((a0.size : Int) - x49_4))))))) x7_3 (x7_3.length : Int) ji38) else (none)) else (none)) = some (r1, r2) := by first | (rw [hji38] at H; exact H) | (simp only [hji38] at H ⊢; exact H)
                      have hji38w : (IntKind.i64.wrap (x49_4 + 1)) = ji38 := (i64_w _).trans hji38
                      by_cases c39 : 0 ≤ (ji38)
                      ·
                       rw [if_pos c39] at H
                       have c39b0 : decide (0 ≤ (ji38)) = true := decide_eq_true c39
                       clear c39
                       by_cases c40 : (ji38) < (x8_4.length : Int)
                       ·
                        rw [if_pos c40] at H
                        have c40b0 : decide ((ji38) < (x8_4.length : Int)) = true := decide_eq_true c40
                        clear c40
                        obtain ⟨y115, hy115⟩ : ∃ y_ : List Int, y_ = (y113.set ((ji38) : Int).toNat (wrap64 ((rd y113 (ji38)) + (wrap64 ((rd x7_3 x49_4) * (wrap64 ((a0.size : Int) - x49_4))))))) := ⟨_, rfl⟩
                        replace H : (spec_CountWorn.l2 k4 a0 x1_3 y115 x7_3 (x7_3.length : Int) ji38) = some (r1, r2) := by first | (rw [hy115]; with_reducible exact H) | (have H2_ := (Option.bind_some _ _).symm.trans H; rw [hy115]; with_reducible exact H2_) | (have H2_ := (Option.bind_some _ _).symm.trans H; with_reducible exact H2_) | with_reducible exact H | (rw [hy115]; exact H) | exact H
                        have Ny115 := Aside0.mk hy115
                        clear hy115
                        have H' := Aside0.mk H
                        clear H
                        have p111 : 0 ≤ (x49_4 : Int) := of_decide_eq_true (by first | (with_reducible assumption) | assumption)
                        have q111 : x49_4 < (x7_3.length : Int) := of_decide_eq_true (by first | (with_reducible assumption) | assumption)
                        obtain ⟨ad111, e111, hx111_0⟩ := Kd.at_int (Kd.R_reads' HO_47.out).2.2 x49_4 p111 q111
                        cases e111
                        replace p111 := eq_true p111
                        replace q111 := eq_true q111
                        obtain ⟨Ao42, co42, eo42⟩ := Kd.R_slice HO_8.out
                        subst eo42
                        have p112 : 0 ≤ (x49_4 : Int) := of_decide_eq_true (by first | (with_reducible assumption) | assumption)
                        have q112 : x49_4 < (x8_4.length : Int) := of_decide_eq_true (by first | (with_reducible assumption) | assumption)
                        obtain ⟨ad112, e112, hx112_0⟩ := Kd.at_int (Kd.R_reads' HO_8.out).2.2 x49_4 p112 q112
                        cases e112
                        replace p112 := eq_true p112
                        replace q112 := eq_true q112
                        have p36 : 0 ≤ (x49_4 : Int) := of_decide_eq_true (by first | (with_reducible assumption) | assumption)
                        have q36 : (x49_4 : Int) < ((x8_4.length : Int) : Int) := of_decide_eq_true (by first | (with_reducible assumption) | assumption)
                        obtain ⟨go36, co36, eo36, gb36, gl36, cl36, HG36⟩ := Kd.R_form HO_8.out (by omega)
                        (first | cases eo36 | (injection eo36 with ea_ en_ ec_; (first | subst ea_ | (injection ea_ with ea_; subst ea_)); subst ec_; clear en_))
                        have GB36 := Aside0.mk gb36
                        have GG36 := Aside0.mk HG36
                        clear gb36 gl36 HG36
                        (first | simp only [add_plain] at hx112_0 | skip)
                        obtain ⟨hx36_0, hf36_0⟩ := Kd.R_celln 0 HO_8.out (x49_4 : Int) p36 q36
                        replace p36 := eq_true p36
                        replace q36 := eq_true q36
                        have HP43 := Kd.R_putg HO_8.out (x49_4 : Int) (wrap64 ((rd x8_4 x49_4) + (wrap64 ((rd x7_3 x49_4) * x49_4))))
                        go_wp2_with (first | ((with_reducible refine gate_store (t := 3) (p := 62) rfl ?_); (try (rw [drewN_self wr]; generalize hq_ : World.drewN wr _ = wr; have n0_ := Aside0.mk (Kd.R_at hq_ HO_8.out); have n1_ := Aside0.mk (Kd.R_at hq_ HO_47.out); have n2_ := Aside0.mk (below_at hq_ HB.out); clear hq_ HO_8 HO_47 HB; have HO_8 := n0_; have HO_47 := n1_; have HB := n2_; clear n0_ n1_ n2_; (try (have HP43 := Kd.R_putg HO_8.out (x49_4 : Int) (wrap64 ((rd x8_4 x49_4) + (wrap64 ((rd x7_3 x49_4) * x49_4)))))))); refine store_event (t := 3) (p := 62) (v := ?vo_w44) (w1 := (wr.setCell ⟨go36, (x49_4 : Int).toNat, none⟩ (.int .i64 (wrap64 ((rd x8_4 x49_4) + (wrap64 ((rd x7_3 x49_4) * x49_4))))))) ?hg ?ho ?hn ?hr ?_; (case ho => rfl); (case hg => rfl); (case hn => rfl); (case hr => first | (go_simp; done) | (go_simp; rfl)); intro w44 hw; have hg : wr.grownBy w44 (some go36) := (by rw [hw]; exact HP43.2); have hp_ : Kd.R (Kd.int .i64) 3 w44 w.heap.size (fun k_ => some k_ ≠ (.slice (some ad111) x7_3.length co31 : Value).ownBlock) (.slice (some ⟨go36, 0, none⟩) x8_4.length co42) y113 := (by rw [hw, Ny113.out]; exact HP43.1); clear HP43; have n0_ := Aside0.mk (hp_); have n1_ := Aside0.mk (Kd.R_after (v := (.slice (some ⟨go36, 0, none⟩) x8_4.length co42)) (v1 := (.slice (some ⟨go36, 0, none⟩) x8_4.length co42)) (ok := (fun _ => True)) (by (with_reducible repeat (first | apply Kd.R_alloc | apply Kd.R_drewN | apply Kd.R_drew)); exact Kd.R_mono HO_47.out (fun _ hk => ⟨trivial, hk⟩)) hg (.inl rfl)); have n2_ := Aside0.mk ((by rw [hw]; exact below_set (HB.out) GB36.out : Below w.heap.size w w44)); clear HO_8; clear HO_47; clear HB; have HO_8 := n0_; have HO_47 := n1_; have HB := n2_; clear n0_ n1_ n2_; clear hg hw hp_; have p114 : 0 ≤ ((ji38) : Int) := of_decide_eq_true (by first | (with_reducible assumption) | assumption); have q114 : (ji38) < (y113.length : Int) := (by have h_ : ((ji38) : Int) < ((x8_4.length : Int) : Int) := of_decide_eq_true (by first | (with_reducible assumption) | assumption); first | (have e_ := (Kd.R_reads' HO_8.out).1; omega) | simpa only [Ny113.out, List.length_set] using h_); have ql114 : (((ji38) : Int) < ((x8_4.length : Int) : Int)) = True := eq_true (of_decide_eq_true (by first | (with_reducible assumption) | assumption)); obtain ⟨ad114, e114, hx114_0⟩ := Kd.at_int (Kd.R_reads' HO_8.out).2.2 (ji38) p114 q114; obtain rfl : (⟨go36, 0, none⟩ : Addr) = ad114 := (by injection e114); (first | simp only [add_plain] at hx114_0 | simp only [add_at] at hx114_0 | simp only [Addr.add, Nat.zero_add] at hx114_0 | skip); replace p114 := eq_true p114; replace q114 := eq_true q114; have p41 : 0 ≤ ((ji38) : Int) := of_decide_eq_true (by first | (with_reducible assumption) | assumption); have q41 : ((ji38) : Int) < ((x8_4.length : Int) : Int) := of_decide_eq_true (by first | (with_reducible assumption) | assumption); obtain ⟨hx41_0, hf41_0⟩ := Kd.R_celln 0 HO_8.out ((ji38) : Int) p41 q41; replace p41 := eq_true p41; replace q41 := eq_true q41; obtain ⟨hy45_, hz45_⟩ := Kd.R_celln 0 HO_8.out ((ji38) : Int) (of_decide_eq_true (by first | (with_reducible assumption) | assumption)) (of_decide_eq_true (by first | (with_reducible assumption) | assumption)); have HP45 := Kd.R_putg HO_8.out ((ji38) : Int) (wrap64 ((rd y113 (ji38)) + (wrap64 ((rd x7_3 x49_4) * (wrap64 ((a0.size : Int) - x49_4))))))) | ((with_reducible refine gate_store (t := 3) (p := 79) rfl ?_); (try (rw [drewN_self w44]; generalize hq_ : World.drewN w44 _ = w44; have n0_ := Aside0.mk (Kd.R_at hq_ HO_8.out); have n1_ := Aside0.mk (Kd.R_at hq_ HO_47.out); have n2_ := Aside0.mk (below_at hq_ HB.out); clear hq_ HO_8 HO_47 HB; have HO_8 := n0_; have HO_47 := n1_; have HB := n2_; clear n0_ n1_ n2_; (try (obtain ⟨hy45_, hz45_⟩ := Kd.R_celln 0 HO_8.out ((ji38) : Int) (of_decide_eq_true (by first | (with_reducible assumption) | assumption)) (of_decide_eq_true (by first | (with_reducible assumption) | assumption)))); (try (have HP45 := Kd.R_putg HO_8.out ((ji38) : Int) (wrap64 ((rd y113 (ji38)) + (wrap64 ((rd x7_3 x49_4) * (wrap64 ((a0.size : Int) - x49_4)))))))))); refine store_event (t := 3) (p := 79) (v := ?vo_w46) (w1 := (w44.setCell ⟨go36, ((ji38) : Int).toNat, none⟩ (.int .i64 (wrap64 ((rd y113 (ji38)) + (wrap64 ((rd x7_3 x49_4) * (wrap64 ((a0.size : Int) - x49_4))))))))) ?hg ?ho ?hn ?hr ?_; (case ho => rfl); (case hg => rfl); (case hn => rfl); (case hr => first | (go_simp; done) | (go_simp; rfl)); intro w46 hw; have hg : w44.grownBy w46 (some go36) := (by rw [hw]; exact HP45.2); have hp_ : Kd.R (Kd.int .i64) 3 w46 w.heap.size (fun k_ => some k_ ≠ (.slice (some ad111) x7_3.length co31 : Value).ownBlock) (.slice (some ⟨go36, 0, none⟩) x8_4.length co42) y115 := (by rw [hw, Ny115.out]; exact HP45.1); clear HP45; have n0_ := Aside0.mk (hp_); have n1_ := Aside0.mk (Kd.R_after (v := (.slice (some ⟨go36, 0, none⟩) x8_4.length co42)) (v1 := (.slice (some ⟨go36, 0, none⟩) x8_4.length co42)) (ok := (fun _ => True)) (by (with_reducible repeat (first | apply Kd.R_alloc | apply Kd.R_drewN | apply Kd.R_drew)); exact HO_47.out) hg (.inl rfl)); have n2_ := Aside0.mk ((by rw [hw]; exact below_set (HB.out) GB36.out : Below w.heap.size w w46)); clear HO_8; clear HO_47; clear HB; have HO_8 := n0_; have HO_47 := n1_; have HB := n2_; clear n0_ n1_ n2_; clear hg hw hp_))
                        repeat (go_quiet (first | ((with_reducible refine gate_store (t := 3) (p := 62) rfl ?_); (try (rw [drewN_self wr]; generalize hq_ : World.drewN wr _ = wr; have n0_ := Aside0.mk (Kd.R_at hq_ HO_8.out); have n1_ := Aside0.mk (Kd.R_at hq_ HO_47.out); have n2_ := Aside0.mk (below_at hq_ HB.out); clear hq_ HO_8 HO_47 HB; have HO_8 := n0_; have HO_47 := n1_; have HB := n2_; clear n0_ n1_ n2_; (try (have HP43 := Kd.R_putg HO_8.out (x49_4 : Int) (wrap64 ((rd x8_4 x49_4) + (wrap64 ((rd x7_3 x49_4) * x49_4)))))))); refine store_event (t := 3) (p := 62) (v := ?vo_w44) (w1 := (wr.setCell ⟨go36, (x49_4 : Int).toNat, none⟩ (.int .i64 (wrap64 ((rd x8_4 x49_4) + (wrap64 ((rd x7_3 x49_4) * x49_4))))))) ?hg ?ho ?hn ?hr ?_; (case ho => rfl); (case hg => rfl); (case hn => rfl); (case hr => first | (go_simp; done) | (go_simp; rfl)); intro w44 hw; have hg : wr.grownBy w44 (some go36) := (by rw [hw]; exact HP43.2); have hp_ : Kd.R (Kd.int .i64) 3 w44 w.heap.size (fun k_ => some k_ ≠ (.slice (some ad111) x7_3.length co31 : Value).ownBlock) (.slice (some ⟨go36, 0, none⟩) x8_4.length co42) y113 := (by rw [hw, Ny113.out]; exact HP43.1); clear HP43; have n0_ := Aside0.mk (hp_); have n1_ := Aside0.mk (Kd.R_after (v := (.slice (some ⟨go36, 0, none⟩) x8_4.length co42)) (v1 := (.slice (some ⟨go36, 0, none⟩) x8_4.length co42)) (ok := (fun _ => True)) (by (with_reducible repeat (first | apply Kd.R_alloc | apply Kd.R_drewN | apply Kd.R_drew)); exact Kd.R_mono HO_47.out (fun _ hk => ⟨trivial, hk⟩)) hg (.inl rfl)); have n2_ := Aside0.mk ((by rw [hw]; exact below_set (HB.out) GB36.out : Below w.heap.size w w44)); clear HO_8; clear HO_47; clear HB; have HO_8 := n0_; have HO_47 := n1_; have HB := n2_; clear n0_ n1_ n2_; clear hg hw hp_; have p114 : 0 ≤ ((ji38) : Int) := of_decide_eq_true (by first | (with_reducible assumption) | assumption); have q114 : (ji38) < (y113.length : Int) := (by have h_ : ((ji38) : Int) < ((x8_4.length : Int) : Int) := of_decide_eq_true (by first | (with_reducible assumption) | assumption); first | (have e_ := (Kd.R_reads' HO_8.out).1; omega) | simpa only [Ny113.out, List.length_set] using h_); have ql114 : (((ji38) : Int) < ((x8_4.length : Int) : Int)) = True := eq_true (of_decide_eq_true (by first | (with_reducible assumption) | assumption)); obtain ⟨ad114, e114, hx114_0⟩ := Kd.at_int (Kd.R_reads' HO_8.out).2.2 (ji38) p114 q114; obtain rfl : (⟨go36, 0, none⟩ : Addr) = ad114 := (by injection e114); (first | simp only [add_plain] at hx114_0 | simp only [add_at] at hx114_0 | simp only [Addr.add, Nat.zero_add] at hx114_0 | skip); replace p114 := eq_true p114; replace q114 := eq_true q114; have p41 : 0 ≤ ((ji38) : Int) := of_decide_eq_true (by first | (with_reducible assumption) | assumption); have q41 : ((ji38) : Int) < ((x8_4.length : Int) : Int) := of_decide_eq_true (by first | (with_reducible assumption) | assumption); obtain ⟨hx41_0, hf41_0⟩ := Kd.R_celln 0 HO_8.out ((ji38) : Int) p41 q41; replace p41 := eq_true p41; replace q41 := eq_true q41; obtain ⟨hy45_, hz45_⟩ := Kd.R_celln 0 HO_8.out ((ji38) : Int) (of_decide_eq_true (by first | (with_reducible assumption) | assumption)) (of_decide_eq_true (by first | (with_reducible assumption) | assumption)); have HP45 := Kd.R_putg HO_8.out ((ji38) : Int) (wrap64 ((rd y113 (ji38)) + (wrap64 ((rd x7_3 x49_4) * (wrap64 ((a0.size : Int) - x49_4))))))) | ((with_reducible refine gate_store (t := 3) (p := 79) rfl ?_); (try (rw [drewN_self w44]; generalize hq_ : World.drewN w44 _ = w44; have n0_ := Aside0.mk (Kd.R_at hq_ HO_8.out); have n1_ := Aside0.mk (Kd.R_at hq_ HO_47.out); have n2_ := Aside0.mk (below_at hq_ HB.out); clear hq_ HO_8 HO_47 HB; have HO_8 := n0_; have HO_47 := n1_; have HB := n2_; clear n0_ n1_ n2_; (try (obtain ⟨hy45_, hz45_⟩ := Kd.R_celln 0 HO_8.out ((ji38) : Int) (of_decide_eq_true (by first | (with_reducible assumption) | assumption)) (of_decide_eq_true (by first | (with_reducible assumption) | assumption)))); (try (have HP45 := Kd.R_putg HO_8.out ((ji38) : Int) (wrap64 ((rd y113 (ji38)) + (wrap64 ((rd x7_3 x49_4) * (wrap64 ((a0.size : Int) - x49_4)))))))))); refine store_event (t := 3) (p := 79) (v := ?vo_w46) (w1 := (w44.setCell ⟨go36, ((ji38) : Int).toNat, none⟩ (.int .i64 (wrap64 ((rd y113 (ji38)) + (wrap64 ((rd x7_3 x49_4) * (wrap64 ((a0.size : Int) - x49_4))))))))) ?hg ?ho ?hn ?hr ?_; (case ho => rfl); (case hg => rfl); (case hn => rfl); (case hr => first | (go_simp; done) | (go_simp; rfl)); intro w46 hw; have hg : w44.grownBy w46 (some go36) := (by rw [hw]; exact HP45.2); have hp_ : Kd.R (Kd.int .i64) 3 w46 w.heap.size (fun k_ => some k_ ≠ (.slice (some ad111) x7_3.length co31 : Value).ownBlock) (.slice (some ⟨go36, 0, none⟩) x8_4.length co42) y115 := (by rw [hw, Ny115.out]; exact HP45.1); clear HP45; have n0_ := Aside0.mk (hp_); have n1_ := Aside0.mk (Kd.R_after (v := (.slice (some ⟨go36, 0, none⟩) x8_4.length co42)) (v1 := (.slice (some ⟨go36, 0, none⟩) x8_4.length co42)) (ok := (fun _ => True)) (by (with_reducible repeat (first | apply Kd.R_alloc | apply Kd.R_drewN | apply Kd.R_drew)); exact HO_47.out) hg (.inl rfl)); have n2_ := Aside0.mk ((by rw [hw]; exact below_set (HB.out) GB36.out : Below w.heap.size w w46)); clear HO_8; clear HO_47; clear HB; have HO_8 := n0_; have HO_47 := n1_; have HB := n2_; clear n0_ n1_ n2_; clear hg hw hp_)); try go_wp2_with (first | ((with_reducible refine gate_store (t := 3) (p := 62) rfl ?_); (try (rw [drewN_self wr]; generalize hq_ : World.drewN wr _ = wr; have n0_ := Aside0.mk (Kd.R_at hq_ HO_8.out); have n1_ := Aside0.mk (Kd.R_at hq_ HO_47.out); have n2_ := Aside0.mk (below_at hq_ HB.out); clear hq_ HO_8 HO_47 HB; have HO_8 := n0_; have HO_47 := n1_; have HB := n2_; clear n0_ n1_ n2_; (try (have HP43 := Kd.R_putg HO_8.out (x49_4 : Int) (wrap64 ((rd x8_4 x49_4) + (wrap64 ((rd x7_3 x49_4) * x49_4)))))))); refine store_event (t := 3) (p := 62) (v := ?vo_w44) (w1 := (wr.setCell ⟨go36, (x49_4 : Int).toNat, none⟩ (.int .i64 (wrap64 ((rd x8_4 x49_4) + (wrap64 ((rd x7_3 x49_4) * x49_4))))))) ?hg ?ho ?hn ?hr ?_; (case ho => rfl); (case hg => rfl); (case hn => rfl); (case hr => first | (go_simp; done) | (go_simp; rfl)); intro w44 hw; have hg : wr.grownBy w44 (some go36) := (by rw [hw]; exact HP43.2); have hp_ : Kd.R (Kd.int .i64) 3 w44 w.heap.size (fun k_ => some k_ ≠ (.slice (some ad111) x7_3.length co31 : Value).ownBlock) (.slice (some ⟨go36, 0, none⟩) x8_4.length co42) y113 := (by rw [hw, Ny113.out]; exact HP43.1); clear HP43; have n0_ := Aside0.mk (hp_); have n1_ := Aside0.mk (Kd.R_after (v := (.slice (some ⟨go36, 0, none⟩) x8_4.length co42)) (v1 := (.slice (some ⟨go36, 0, none⟩) x8_4.length co42)) (ok := (fun _ => True)) (by (with_reducible repeat (first | apply Kd.R_alloc | apply Kd.R_drewN | apply Kd.R_drew)); exact Kd.R_mono HO_47.out (fun _ hk => ⟨trivial, hk⟩)) hg (.inl rfl)); have n2_ := Aside0.mk ((by rw [hw]; exact below_set (HB.out) GB36.out : Below w.heap.size w w44)); clear HO_8; clear HO_47; clear HB; have HO_8 := n0_; have HO_47 := n1_; have HB := n2_; clear n0_ n1_ n2_; clear hg hw hp_; have p114 : 0 ≤ ((ji38) : Int) := of_decide_eq_true (by first | (with_reducible assumption) | assumption); have q114 : (ji38) < (y113.length : Int) := (by have h_ : ((ji38) : Int) < ((x8_4.length : Int) : Int) := of_decide_eq_true (by first | (with_reducible assumption) | assumption); first | (have e_ := (Kd.R_reads' HO_8.out).1; omega) | simpa only [Ny113.out, List.length_set] using h_); have ql114 : (((ji38) : Int) < ((x8_4.length : Int) : Int)) = True := eq_true (of_decide_eq_true (by first | (with_reducible assumption) | assumption)); obtain ⟨ad114, e114, hx114_0⟩ := Kd.at_int (Kd.R_reads' HO_8.out).2.2 (ji38) p114 q114; obtain rfl : (⟨go36, 0, none⟩ : Addr) = ad114 := (by injection e114); (first | simp only [add_plain] at hx114_0 | simp only [add_at] at hx114_0 | simp only [Addr.add, Nat.zero_add] at hx114_0 | skip); replace p114 := eq_true p114; replace q114 := eq_true q114; have p41 : 0 ≤ ((ji38) : Int) := of_decide_eq_true (by first | (with_reducible assumption) | assumption); have q41 : ((ji38) : Int) < ((x8_4.length : Int) : Int) := of_decide_eq_true (by first | (with_reducible assumption) | assumption); obtain ⟨hx41_0, hf41_0⟩ := Kd.R_celln 0 HO_8.out ((ji38) : Int) p41 q41; replace p41 := eq_true p41; replace q41 := eq_true q41; obtain ⟨hy45_, hz45_⟩ := Kd.R_celln 0 HO_8.out ((ji38) : Int) (of_decide_eq_true (by first | (with_reducible assumption) | assumption)) (of_decide_eq_true (by first | (with_reducible assumption) | assumption)); have HP45 := Kd.R_putg HO_8.out ((ji38) : Int) (wrap64 ((rd y113 (ji38)) + (wrap64 ((rd x7_3 x49_4) * (wrap64 ((a0.size : Int) - x49_4))))))) | ((with_reducible refine gate_store (t := 3) (p := 79) rfl ?_); (try (rw [drewN_self w44]; generalize hq_ : World.drewN w44 _ = w44; have n0_ := Aside0.mk (Kd.R_at hq_ HO_8.out); have n1_ := Aside0.mk (Kd.R_at hq_ HO_47.out); have n2_ := Aside0.mk (below_at hq_ HB.out); clear hq_ HO_8 HO_47 HB; have HO_8 := n0_; have HO_47 := n1_; have HB := n2_; clear n0_ n1_ n2_; (try (obtain ⟨hy45_, hz45_⟩ := Kd.R_celln 0 HO_8.out ((ji38) : Int) (of_decide_eq_true (by first | (with_reducible assumption) | assumption)) (of_decide_eq_true (by first | (with_reducible assumption) | assumption)))); (try (have HP45 := Kd.R_putg HO_8.out ((ji38) : Int) (wrap64 ((rd y113 (ji38)) + (wrap64 ((rd x7_3 x49_4) * (wrap64 ((a0.size : Int) - x49_4)))))))))); refine store_event (t := 3) (p := 79) (v := ?vo_w46) (w1 := (w44.setCell ⟨go36, ((ji38) : Int).toNat, none⟩ (.int .i64 (wrap64 ((rd y113 (ji38)) + (wrap64 ((rd x7_3 x49_4) * (wrap64 ((a0.size : Int) - x49_4))))))))) ?hg ?ho ?hn ?hr ?_; (case ho => rfl); (case hg => rfl); (case hn => rfl); (case hr => first | (go_simp; done) | (go_simp; rfl)); intro w46 hw; have hg : w44.grownBy w46 (some go36) := (by rw [hw]; exact HP45.2); have hp_ : Kd.R (Kd.int .i64) 3 w46 w.heap.size (fun k_ => some k_ ≠ (.slice (some ad111) x7_3.length co31 : Value).ownBlock) (.slice (some ⟨go36, 0, none⟩) x8_4.length co42) y115 := (by rw [hw, Ny115.out]; exact HP45.1); clear HP45; have n0_ := Aside0.mk (hp_); have n1_ := Aside0.mk (Kd.R_after (v := (.slice (some ⟨go36, 0, none⟩) x8_4.length co42)) (v1 := (.slice (some ⟨go36, 0, none⟩) x8_4.length co42)) (ok := (fun _ => True)) (by (with_reducible repeat (first | apply Kd.R_alloc | apply Kd.R_drewN | apply Kd.R_drew)); exact HO_47.out) hg (.inl rfl)); have n2_ := Aside0.mk ((by rw [hw]; exact below_set (HB.out) GB36.out : Below w.heap.size w w46)); clear HO_8; clear HO_47; clear HB; have HO_8 := n0_; have HO_47 := n1_; have HB := n2_; clear n0_ n1_ n2_; clear hg hw hp_)))
                        go_roundg k4
                        case measure => have := HJ2.out; have := HK2.out; have := HK3.out; have := HK4.out; omega
                        case rel => exact ⟨(y115), (ji38), (by first | rfl | (simp; done) | (simp only [← hji38] <;> (first | rfl | simp)) | (simp [*]; done)), H', ⟨by have := HJ2.out; have := HK2.out; have := HK3.out; have := HK4.out; omega⟩, ⟨by (with_reducible repeat (first | apply Kd.R_alloc | apply Kd.R_drewN | apply Kd.R_drew)); exact HO_8.out⟩, ⟨by (with_reducible repeat (first | apply Kd.R_alloc | apply Kd.R_drewN | apply Kd.R_drew)); exact Kd.R_mono HO_47.out (fun _ hk => hk.2)⟩, ⟨by repeat (first | (with_reducible first | exact HB.out | apply below_alloc | apply pw_below_drewN | apply below_drew1) | exact HB.out)⟩⟩
                       ·
                        rw [if_neg c40] at H
                        exact absurd H (by simp)
                      ·
                       rw [if_neg c39] at H
                       exact absurd H (by simp)
                     ·
                      rw [if_neg c37] at H
                      have c37b0 : decide (x49_4 < (a0.size : Int)) = false := decide_eq_false c37
                      clear c37
                      have H' := Aside0.mk H
                      clear H
                      have p111 : 0 ≤ (x49_4 : Int) := of_decide_eq_true (by first | (with_reducible assumption) | assumption)
                      have q111 : x49_4 < (x7_3.length : Int) := of_decide_eq_true (by first | (with_reducible assumption) | assumption)
                      obtain ⟨ad111, e111, hx111_0⟩ := Kd.at_int (Kd.R_reads' HO_47.out).2.2 x49_4 p111 q111
                      cases e111
                      replace p111 := eq_true p111
                      replace q111 := eq_true q111
                      obtain ⟨Ao47, co47, eo47⟩ := Kd.R_slice HO_8.out
                      subst eo47
                      have p112 : 0 ≤ (x49_4 : Int) := of_decide_eq_true (by first | (with_reducible assumption) | assumption)
                      have q112 : x49_4 < (x8_4.length : Int) := of_decide_eq_true (by first | (with_reducible assumption) | assumption)
                      obtain ⟨ad112, e112, hx112_0⟩ := Kd.at_int (Kd.R_reads' HO_8.out).2.2 x49_4 p112 q112
                      cases e112
                      replace p112 := eq_true p112
                      replace q112 := eq_true q112
                      have p36 : 0 ≤ (x49_4 : Int) := of_decide_eq_true (by first | (with_reducible assumption) | assumption)
                      have q36 : (x49_4 : Int) < ((x8_4.length : Int) : Int) := of_decide_eq_true (by first | (with_reducible assumption) | assumption)
                      obtain ⟨go36, co36, eo36, gb36, gl36, cl36, HG36⟩ := Kd.R_form HO_8.out (by omega)
                      (first | cases eo36 | (injection eo36 with ea_ en_ ec_; (first | subst ea_ | (injection ea_ with ea_; subst ea_)); subst ec_; clear en_))
                      have GB36 := Aside0.mk gb36
                      have GG36 := Aside0.mk HG36
                      clear gb36 gl36 HG36
                      (first | simp only [add_plain] at hx112_0 | skip)
                      obtain ⟨hx36_0, hf36_0⟩ := Kd.R_celln 0 HO_8.out (x49_4 : Int) p36 q36
                      replace p36 := eq_true p36
                      replace q36 := eq_true q36
                      have HP48 := Kd.R_putg HO_8.out (x49_4 : Int) (wrap64 ((rd x8_4 x49_4) + (wrap64 ((rd x7_3 x49_4) * x49_4))))
                      go_wp2_with (first | ((with_reducible refine gate_store (t := 3) (p := 62) rfl ?_); (try (rw [drewN_self wr]; generalize hq_ : World.drewN wr _ = wr; have n0_ := Aside0.mk (Kd.R_at hq_ HO_8.out); have n1_ := Aside0.mk (Kd.R_at hq_ HO_47.out); have n2_ := Aside0.mk (below_at hq_ HB.out); clear hq_ HO_8 HO_47 HB; have HO_8 := n0_; have HO_47 := n1_; have HB := n2_; clear n0_ n1_ n2_; (try (have HP48 := Kd.R_putg HO_8.out (x49_4 : Int) (wrap64 ((rd x8_4 x49_4) + (wrap64 ((rd x7_3 x49_4) * x49_4)))))))); refine store_event (t := 3) (p := 62) (v := ?vo_w49) (w1 := (wr.setCell ⟨go36, (x49_4 : Int).toNat, none⟩ (.int .i64 (wrap64 ((rd x8_4 x49_4) + (wrap64 ((rd x7_3 x49_4) * x49_4))))))) ?hg ?ho ?hn ?hr ?_; (case ho => rfl); (case hg => rfl); (case hn => rfl); (case hr => first | (go_simp; done) | (go_simp; rfl)); intro w49 hw; have hg : wr.grownBy w49 (some go36) := (by rw [hw]; exact HP48.2); have hp_ : Kd.R (Kd.int .i64) 3 w49 w.heap.size (fun k_ => some k_ ≠ (.slice (some ad111) x7_3.length co31 : Value).ownBlock) (.slice (some ⟨go36, 0, none⟩) x8_4.length co47) y113 := (by rw [hw, Ny113.out]; exact HP48.1); clear HP48; have n0_ := Aside0.mk (hp_); have n1_ := Aside0.mk (Kd.R_after (v := (.slice (some ⟨go36, 0, none⟩) x8_4.length co47)) (v1 := (.slice (some ⟨go36, 0, none⟩) x8_4.length co47)) (ok := (fun _ => True)) (by (with_reducible repeat (first | apply Kd.R_alloc | apply Kd.R_drewN | apply Kd.R_drew)); exact Kd.R_mono HO_47.out (fun _ hk => ⟨trivial, hk⟩)) hg (.inl rfl)); have n2_ := Aside0.mk ((by rw [hw]; exact below_set (HB.out) GB36.out : Below w.heap.size w w49)); clear HO_8; clear HO_47; clear HB; have HO_8 := n0_; have HO_47 := n1_; have HB := n2_; clear n0_ n1_ n2_; clear hg hw hp_))
                      repeat (go_quiet (first | ((with_reducible refine gate_store (t := 3) (p := 62) rfl ?_); (try (rw [drewN_self wr]; generalize hq_ : World.drewN wr _ = wr; have n0_ := Aside0.mk (Kd.R_at hq_ HO_8.out); have n1_ := Aside0.mk (Kd.R_at hq_ HO_47.out); have n2_ := Aside0.mk (below_at hq_ HB.out); clear hq_ HO_8 HO_47 HB; have HO_8 := n0_; have HO_47 := n1_; have HB := n2_; clear n0_ n1_ n2_; (try (have HP48 := Kd.R_putg HO_8.out (x49_4 : Int) (wrap64 ((rd x8_4 x49_4) + (wrap64 ((rd x7_3 x49_4) * x49_4)))))))); refine store_event (t := 3) (p := 62) (v := ?vo_w49) (w1 := (wr.setCell ⟨go36, (x49_4 : Int).toNat, none⟩ (.int .i64 (wrap64 ((rd x8_4 x49_4) + (wrap64 ((rd x7_3 x49_4) * x49_4))))))) ?hg ?ho ?hn ?hr ?_; (case ho => rfl); (case hg => rfl); (case hn => rfl); (case hr => first | (go_simp; done) | (go_simp; rfl)); intro w49 hw; have hg : wr.grownBy w49 (some go36) := (by rw [hw]; exact HP48.2); have hp_ : Kd.R (Kd.int .i64) 3 w49 w.heap.size (fun k_ => some k_ ≠ (.slice (some ad111) x7_3.length co31 : Value).ownBlock) (.slice (some ⟨go36, 0, none⟩) x8_4.length co47) y113 := (by rw [hw, Ny113.out]; exact HP48.1); clear HP48; have n0_ := Aside0.mk (hp_); have n1_ := Aside0.mk (Kd.R_after (v := (.slice (some ⟨go36, 0, none⟩) x8_4.length co47)) (v1 := (.slice (some ⟨go36, 0, none⟩) x8_4.length co47)) (ok := (fun _ => True)) (by (with_reducible repeat (first | apply Kd.R_alloc | apply Kd.R_drewN | apply Kd.R_drew)); exact Kd.R_mono HO_47.out (fun _ hk => ⟨trivial, hk⟩)) hg (.inl rfl)); have n2_ := Aside0.mk ((by rw [hw]; exact below_set (HB.out) GB36.out : Below w.heap.size w w49)); clear HO_8; clear HO_47; clear HB; have HO_8 := n0_; have HO_47 := n1_; have HB := n2_; clear n0_ n1_ n2_; clear hg hw hp_)); try go_wp2_with (first | ((with_reducible refine gate_store (t := 3) (p := 62) rfl ?_); (try (rw [drewN_self wr]; generalize hq_ : World.drewN wr _ = wr; have n0_ := Aside0.mk (Kd.R_at hq_ HO_8.out); have n1_ := Aside0.mk (Kd.R_at hq_ HO_47.out); have n2_ := Aside0.mk (below_at hq_ HB.out); clear hq_ HO_8 HO_47 HB; have HO_8 := n0_; have HO_47 := n1_; have HB := n2_; clear n0_ n1_ n2_; (try (have HP48 := Kd.R_putg HO_8.out (x49_4 : Int) (wrap64 ((rd x8_4 x49_4) + (wrap64 ((rd x7_3 x49_4) * x49_4)))))))); refine store_event (t := 3) (p := 62) (v := ?vo_w49) (w1 := (wr.setCell ⟨go36, (x49_4 : Int).toNat, none⟩ (.int .i64 (wrap64 ((rd x8_4 x49_4) + (wrap64 ((rd x7_3 x49_4) * x49_4))))))) ?hg ?ho ?hn ?hr ?_; (case ho => rfl); (case hg => rfl); (case hn => rfl); (case hr => first | (go_simp; done) | (go_simp; rfl)); intro w49 hw; have hg : wr.grownBy w49 (some go36) := (by rw [hw]; exact HP48.2); have hp_ : Kd.R (Kd.int .i64) 3 w49 w.heap.size (fun k_ => some k_ ≠ (.slice (some ad111) x7_3.length co31 : Value).ownBlock) (.slice (some ⟨go36, 0, none⟩) x8_4.length co47) y113 := (by rw [hw, Ny113.out]; exact HP48.1); clear HP48; have n0_ := Aside0.mk (hp_); have n1_ := Aside0.mk (Kd.R_after (v := (.slice (some ⟨go36, 0, none⟩) x8_4.length co47)) (v1 := (.slice (some ⟨go36, 0, none⟩) x8_4.length co47)) (ok := (fun _ => True)) (by (with_reducible repeat (first | apply Kd.R_alloc | apply Kd.R_drewN | apply Kd.R_drew)); exact Kd.R_mono HO_47.out (fun _ hk => ⟨trivial, hk⟩)) hg (.inl rfl)); have n2_ := Aside0.mk ((by rw [hw]; exact below_set (HB.out) GB36.out : Below w.heap.size w w49)); clear HO_8; clear HO_47; clear HB; have HO_8 := n0_; have HO_47 := n1_; have HB := n2_; clear n0_ n1_ n2_; clear hg hw hp_)))
                      go_roundg k4
                      case measure => have := HJ2.out; have := HK2.out; have := HK3.out; have := HK4.out; omega
                      case rel => exact ⟨(y113), (wrap64 (x49_4 + 1)), (by first | rfl | (simp; done) | (simp [*]; done)), H', ⟨by have := HJ2.out; have := HK2.out; have := HK3.out; have := HK4.out; omega⟩, ⟨by (with_reducible repeat (first | apply Kd.R_alloc | apply Kd.R_drewN | apply Kd.R_drew)); exact HO_8.out⟩, ⟨by (with_reducible repeat (first | apply Kd.R_alloc | apply Kd.R_drewN | apply Kd.R_drew)); exact Kd.R_mono HO_47.out (fun _ hk => hk.2)⟩, ⟨by repeat (first | (with_reducible first | exact HB.out | apply below_alloc | apply pw_below_drewN | apply below_drew1) | exact HB.out)⟩⟩
                    ·
                     rw [if_neg c35] at H
                     exact absurd H (by simp)
                   ·
                    rw [if_neg c34] at H
                    exact absurd H (by simp)
                  ·
                   rw [if_neg c33] at H
                   exact absurd H (by simp)
                 ·
                  rw [if_neg c32] at H
                  have c32b0 : decide (x49_4 < (x7_3.length : Int)) = false := decide_eq_false c32
                  clear c32
                  have H' := Aside0.mk H
                  clear H
                  go_wp2
                  repeat (go_quiet (fail); try go_wp2)
                  go_roundg k4
                  case measure => have := HJ2.out; have := HK2.out; have := HK3.out; have := HK4.out; omega
                  case rel => exact ⟨(wrap64 (x1_3 - 1)), (x8_4), (by first | rfl | (simp; done) | (simp [*]; done)), H', ⟨by have := HJ2.out; have := HK2.out; have := HK3.out; have := HK4.out; omega⟩, ⟨by (with_reducible repeat (first | apply Kd.R_alloc | apply Kd.R_drewN | apply Kd.R_drew)); exact Kd.R_mono HO_8.out (fun _ hk => trivial)⟩, ⟨by repeat (first | (with_reducible first | exact HB.out | apply below_alloc | apply pw_below_drewN | apply below_drew1) | exact HB.out)⟩⟩
              ·
               rw [if_neg c28] at H
               exact absurd H (by simp)
             ·
              rw [if_neg c27] at H
              exact absurd H (by simp)
            ·
             rw [if_neg c25] at H
             have c25b0 : decide (0 < x1_3) = false := decide_eq_false c25
             clear c25
             by_cases c50 : 0 ≤ (a0.size : Int)
             ·
              rw [if_pos c50] at H
              have c50b0 : decide (0 ≤ (a0.size : Int)) = true := decide_eq_true c50
              have c50b1 : decide (0 ≤ a0.size) = true := decide_eq_true (by omega)
              clear c50
              by_cases c51 : (a0.size : Int) < (x7_3.length : Int)
              ·
               rw [if_pos c51] at H
               have c51b0 : decide ((a0.size : Int) < (x7_3.length : Int)) = true := decide_eq_true c51
               have c51b1 : decide (a0.size < x7_3.length) = true := decide_eq_true (Int.ofNat_lt.mp c51)
               clear c51
               simp only [Option.some.injEq, Prod.mk.injEq] at H
               obtain ⟨rfl, rfl⟩ := H
               obtain ⟨Ao52, co52, eo52⟩ := Kd.R_slice HO_7.out
               subst eo52
               have p107 : 0 ≤ ((a0.size : Int) : Int) := of_decide_eq_true (by first | (with_reducible assumption) | assumption)
               have q107 : (a0.size : Int) < (x7_3.length : Int) := of_decide_eq_true (by first | (with_reducible assumption) | assumption)
               obtain ⟨ad107, e107, hx107_0⟩ := Kd.at_int (Kd.R_reads' HO_7.out).2.2 (a0.size : Int) p107 q107
               cases e107
               replace p107 := eq_true p107
               replace q107 := eq_true q107
               have qi107 : (a0.size < x7_3.length) = True := eq_true (by have h_ := of_eq_true q107; omega)
               (try rw [Int.toNat_natCast] at hx107_0)
               go_wp2
               repeat (go_quiet (fail); try go_wp2)
               go_ret2
               exact ⟨by first | rfl | (simp [errW_none, errW_some] <;> rfl) | (simp only [← hji16]; first | rfl | (simp [errW_none, errW_some] <;> rfl)) | (simp [*, errW_none, errW_some] <;> rfl), by repeat (first | (with_reducible first | exact HB.out | apply below_alloc | apply pw_below_drewN | apply below_drew1) | exact HB.out)⟩
              ·
               rw [if_neg c51] at H
               exact absurd H (by simp)
             ·
              rw [if_neg c50] at H
              exact absurd H (by simp)
         ·
          rw [if_neg c19] at H
          exact absurd H (by simp)
        ·
         rw [if_neg c18] at H
         exact absurd H (by simp)
       ·
        rw [if_neg c17] at H
        exact absurd H (by simp)

end Go.Proofs.YtjjmbinhagaifaaDoor.P

-- printed by xprint.py
namespace Go.Proofs.YtjjmbinhagaifaaDoor.P
open Go.RowKit Go.Proofs.YtjjmbinhagaifaaDoorW.PrintWords Go.Proofs.YtjjmbinhagaifaaDoorW.PrintLast Go.Proofs.YtjjmbinhagaifaaDoorW.PrintMore
attribute [local go_sem] max2_int min2_int max_two min_two max_three min_three max_four min_four   -- for this text's walks alone
set_option linter.unusedVariables false
set_option linter.unusedSimpArgs false

/-! ### laws_FnExactCountWorn: function 8 -/
def laws_FnExactCountWorn.f (k : Nat) (a0 : ByteArray) (a1 : Int) : Option (Bool) := if (a0.size : Int) > 1048576 then (some true) else ((spec_CountWorn.f k a0 a1).bind fun bt101 => ((impl_CountWorn.f k a0 a1).bind fun bt103 => (if bt103.1 = bt101.1 then (if (bt103.2 != bt101.2) = true then (some false) else (some true)) else (some false))))
theorem laws_FnExactCountWorn.mono : ∀ y0 y1 k, LeO (laws_FnExactCountWorn.f k y0 y1) (laws_FnExactCountWorn.f (k + 1) y0 y1) := by
 intro y0 y1 k
 unfold laws_FnExactCountWorn.f
 repeat' first
   | (with_reducible exact impl_CountWorn.mono _ _ _)
   | (with_reducible exact spec_CountWorn.mono _ _ _)
   | (with_reducible exact LeO.refl _)
   | (with_reducible exact LeO.none _)
   | (with_reducible refine LeO.ite ?_ ?_)
   | (with_reducible refine LeO.bind ?_ (fun _ => ?_))
   | exact impl_CountWorn.mono _ _ _
   | exact spec_CountWorn.mono _ _ _
   | exact LeO.none _
   | refine LeO.ite ?_ ?_
   | refine LeO.bind ?_ (fun _ => ?_)
set_option maxHeartbeats 8000000 in
set_option maxRecDepth 100000 in
theorem laws_FnExactCountWorn.calls (k : Nat) (a0 : ByteArray) (a1 : Int) (r : Bool) (w : World) (h : laws_FnExactCountWorn.f k a0 a1 = some r) :
  Calls Tryd.prog 8 #[.string a0, .int .i64 a1] w fun e w' => e = .returned (.bool r) ∧ Below w.heap.size w w' := by
 have HB := Aside0.mk (Below.refl w.heap.size w)
 have H : (if (a0.size : Int) > 1048576 then (some true) else ((spec_CountWorn.f k a0 a1).bind fun bt101 => ((impl_CountWorn.f k a0 a1).bind fun bt103 => (if bt103.1 = bt101.1 then (if (bt103.2 != bt101.2) = true then (some false) else (some true)) else (some false))))) = some r := h
 clear h
 by_cases c3 : (a0.size : Int) > 1048576
 ·
  rw [if_pos c3] at H
  have c3b0 : decide (1048576 < (a0.size : Int)) = true := decide_eq_true c3
  have c3b1 : decide (1048576 < a0.size) = true := decide_eq_true (by omega)
  clear c3
  obtain rfl := Option.some.inj H
  go_enter Tryd.func8, Tryd.ntmps8
  go_wp2
  go_ret
  exact ⟨by first | rfl | (simp [errW_none, errW_some] <;> rfl) | (simp [*, errW_none, errW_some] <;> rfl), by repeat (first | (with_reducible first | exact HB.out | apply below_alloc | apply pw_below_drewN | apply below_drew1) | exact HB.out)⟩
 ·
  rw [if_neg c3] at H
  have c3b0 : decide (1048576 < (a0.size : Int)) = false := decide_eq_false c3
  have c3b1 : decide (1048576 < a0.size) = false := decide_eq_false (by omega)
  clear c3
  replace H := Option.bind_eq_some_iff.mp H
  obtain ⟨⟨t101, t102⟩, A40, H⟩ := H
  replace H : ((impl_CountWorn.f k a0 a1).bind fun bt103 => (if bt103.1 = t101 then (if (bt103.2 != t102) = true then (some false) else (some true)) else (some false))) = some r := H
  have A4 := Aside0.mk A40
  clear A40
  replace H := Option.bind_eq_some_iff.mp H
  obtain ⟨⟨t103, t104⟩, A50, H⟩ := H
  replace H : (if t103 = t101 then (if (t104 != t102) = true then (some false) else (some true)) else (some false)) = some r := H
  have A5 := Aside0.mk A50
  clear A50
  by_cases c6 : t103 = t101
  ·
   rw [if_pos c6] at H
   have c6b0 : (t103 == t101) = true := beq_iff_eq.mpr c6
   have c6b1 : (t103 != t101) = false := bne_eq_false_iff_eq.mpr c6
   clear c6
   by_cases c7 : (t104 != t102) = true
   ·
    rw [if_pos c7] at H
    have c7b0 : (t104 != t102) = true := c7
    (try (have c7b1 : decide (t104 = t102) = false := by simpa using c7))
    (try (have c7b2 : (t104 == t102) = false := by simpa using c7))
    (try (have c7b3 : ¬ (t104 = t102) := by simpa using c7))
    clear c7
    obtain rfl := Option.some.inj H
    go_enter Tryd.func8, Tryd.ntmps8
    go_wp2_with (first | ((with_reducible refine gate_callee (f := 19) rfl ?_); refine goesL_ (some 15) rfl rfl Tryd.func19 (by kernel_rfl) rfl #[.string a0, .int .i64 a1] rfl (by (try simp only [List.map_toArray, List.map_cons, List.map_nil]); first | done | rfl | (simp only [List.length_drop, List.length_take]; rfl)) ?_; (with_reducible refine (spec_CountWorn.calls k a0 a1 t101 t102 _ A4.out).mono ?_); rintro e w8 ⟨rfl, hb⟩; refine ⟨_, rfl, ?_⟩; have n0_ := Aside0.mk (below_step (by repeat (first | (with_reducible first | exact HB.out | apply below_alloc | apply pw_below_drewN | apply below_drew1) | exact HB.out)) hb); clear HB; have HB := n0_; clear n0_; (try clear hb); (try clear hb2); (try clear hk); (try clear hi)) | ((with_reducible refine gate_callee (f := 20) rfl ?_); refine goesL_ (some 21) rfl rfl Tryd.func20 (by kernel_rfl) rfl #[.string a0, .int .i64 a1] rfl (by (try simp only [List.map_toArray, List.map_cons, List.map_nil]); first | done | rfl | (simp only [List.length_drop, List.length_take]; rfl)) ?_; (with_reducible refine (impl_CountWorn.calls k a0 a1 t103 t104 _ A5.out).mono ?_); rintro e w9 ⟨rfl, hb⟩; refine ⟨_, rfl, ?_⟩; have n0_ := Aside0.mk (below_step (by repeat (first | (with_reducible first | exact HB.out | apply below_alloc | apply pw_below_drewN | apply below_drew1) | exact HB.out)) hb); clear HB; have HB := n0_; clear n0_; (try clear hb); (try clear hb2); (try clear hk); (try clear hi)))
    go_ret
    exact ⟨by first | rfl | (simp [errW_none, errW_some] <;> rfl) | (simp [*, errW_none, errW_some] <;> rfl), by repeat (first | (with_reducible first | exact HB.out | apply below_alloc | apply pw_below_drewN | apply below_drew1) | exact HB.out)⟩
   ·
    rw [if_neg c7] at H
    have c7b0 : (t104 != t102) = false := by simpa using c7
    (try (have c7b1 : decide (t104 = t102) = true := by simpa using c7))
    (try (have c7b2 : (t104 == t102) = true := by simpa using c7))
    clear c7
    obtain rfl := Option.some.inj H
    go_enter Tryd.func8, Tryd.ntmps8
    go_wp2_with (first | ((with_reducible refine gate_callee (f := 19) rfl ?_); refine goesL_ (some 15) rfl rfl Tryd.func19 (by kernel_rfl) rfl #[.string a0, .int .i64 a1] rfl (by (try simp only [List.map_toArray, List.map_cons, List.map_nil]); first | done | rfl | (simp only [List.length_drop, List.length_take]; rfl)) ?_; (with_reducible refine (spec_CountWorn.calls k a0 a1 t101 t102 _ A4.out).mono ?_); rintro e w10 ⟨rfl, hb⟩; refine ⟨_, rfl, ?_⟩; have n0_ := Aside0.mk (below_step (by repeat (first | (with_reducible first | exact HB.out | apply below_alloc | apply pw_below_drewN | apply below_drew1) | exact HB.out)) hb); clear HB; have HB := n0_; clear n0_; (try clear hb); (try clear hb2); (try clear hk); (try clear hi)) | ((with_reducible refine gate_callee (f := 20) rfl ?_); refine goesL_ (some 21) rfl rfl Tryd.func20 (by kernel_rfl) rfl #[.string a0, .int .i64 a1] rfl (by (try simp only [List.map_toArray, List.map_cons, List.map_nil]); first | done | rfl | (simp only [List.length_drop, List.length_take]; rfl)) ?_; (with_reducible refine (impl_CountWorn.calls k a0 a1 t103 t104 _ A5.out).mono ?_); rintro e w11 ⟨rfl, hb⟩; refine ⟨_, rfl, ?_⟩; have n0_ := Aside0.mk (below_step (by repeat (first | (with_reducible first | exact HB.out | apply below_alloc | apply pw_below_drewN | apply below_drew1) | exact HB.out)) hb); clear HB; have HB := n0_; clear n0_; (try clear hb); (try clear hb2); (try clear hk); (try clear hi)))
    go_ret
    exact ⟨by first | rfl | (simp [errW_none, errW_some] <;> rfl) | (simp [*, errW_none, errW_some] <;> rfl), by repeat (first | (with_reducible first | exact HB.out | apply below_alloc | apply pw_below_drewN | apply below_drew1) | exact HB.out)⟩
  ·
   rw [if_neg c6] at H
   have c6b0 : (t103 == t101) = false := beq_eq_false_iff_ne.mpr c6
   have c6b1 : (t103 != t101) = true := bne_iff_ne.mpr c6
   obtain rfl := Option.some.inj H
   go_enter Tryd.func8, Tryd.ntmps8
   go_wp2_with (first | ((with_reducible refine gate_callee (f := 19) rfl ?_); refine goesL_ (some 15) rfl rfl Tryd.func19 (by kernel_rfl) rfl #[.string a0, .int .i64 a1] rfl (by (try simp only [List.map_toArray, List.map_cons, List.map_nil]); first | done | rfl | (simp only [List.length_drop, List.length_take]; rfl)) ?_; (with_reducible refine (spec_CountWorn.calls k a0 a1 t101 t102 _ A4.out).mono ?_); rintro e w12 ⟨rfl, hb⟩; refine ⟨_, rfl, ?_⟩; have n0_ := Aside0.mk (below_step (by repeat (first | (with_reducible first | exact HB.out | apply below_alloc | apply pw_below_drewN | apply below_drew1) | exact HB.out)) hb); clear HB; have HB := n0_; clear n0_; (try clear hb); (try clear hb2); (try clear hk); (try clear hi)) | ((with_reducible refine gate_callee (f := 20) rfl ?_); refine goesL_ (some 21) rfl rfl Tryd.func20 (by kernel_rfl) rfl #[.string a0, .int .i64 a1] rfl (by (try simp only [List.map_toArray, List.map_cons, List.map_nil]); first | done | rfl | (simp only [List.length_drop, List.length_take]; rfl)) ?_; (with_reducible refine (impl_CountWorn.calls k a0 a1 t103 t104 _ A5.out).mono ?_); rintro e w13 ⟨rfl, hb⟩; refine ⟨_, rfl, ?_⟩; have n0_ := Aside0.mk (below_step (by repeat (first | (with_reducible first | exact HB.out | apply below_alloc | apply pw_below_drewN | apply below_drew1) | exact HB.out)) hb); clear HB; have HB := n0_; clear n0_; (try clear hb); (try clear hb2); (try clear hk); (try clear hi)))
   go_ret
   exact ⟨by first | rfl | (simp [errW_none, errW_some] <;> rfl) | (simp [*, errW_none, errW_some] <;> rfl), by repeat (first | (with_reducible first | exact HB.out | apply below_alloc | apply pw_below_drewN | apply below_drew1) | exact HB.out)⟩

end Go.Proofs.YtjjmbinhagaifaaDoor.P

namespace Go.Proofs.YtjjmbinhagaifaaDoor
open Go.RowKit Go.Proofs.YtjjmbinhagaifaaDoor.P Go.Proofs.YtjjmbinhagaifaaDoorW.PrintWords Go.Proofs.YtjjmbinhagaifaaDoorW.PrintLast
/-- The pure statement of FnExactCountWorn. -/
def PureFnExactCountWorn : Prop := ∀ (a0 : ByteArray) (a1 : Int), a0.size ≤ 9223372036854775807 → (Lit.int .i64 a1).wf = true →  ∃ k, laws_FnExactCountWorn.f k a0 a1 = some true
end Go.Proofs.YtjjmbinhagaifaaDoor

namespace Go.Proofs.YtjjmbinhagaifaaDoor
open Go.RowKit Go.Proofs.YtjjmbinhagaifaaDoorW.PrintWords
/-! Plain words for the pure statements: answers that stand from some number of rounds on. -/
theorem Ev.succ {α : Type} {g : Nat → Option α} {r : α} (h : Ev (fun k => g (k + 1)) r) : Ev g r := Ev.step (fun _ => rfl) h
theorem Ev.const {α : Type} {a : Option α} {r : α} (h : a = some r) : Ev (fun _ => a) r := ⟨0, fun _ _ => h⟩
theorem Ev.pos {α : Type} {c : Prop} [Decidable c] {g f : Nat → Option α} {r : α} (hc : c) (h : Ev g r) : Ev (fun k => if c then g k else f k) r := by simp only [if_pos hc]; exact h
theorem Ev.neg {α : Type} {c : Prop} [Decidable c] {g f : Nat → Option α} {r : α} (hc : ¬ c) (h : Ev f r) : Ev (fun k => if c then g k else f k) r := by simp only [if_neg hc]; exact h
theorem Ev.yes {α : Type} {c : Prop} [Decidable c] {g f : Nat → Option α} {r : α} (h : Ev g r) (hc : c := by first | omega | rfl | trivial | decide | simp | (simp; omega)) : Ev (fun k => if c then g k else f k) r := Ev.pos hc h
theorem Ev.no {α : Type} {c : Prop} [Decidable c] {g f : Nat → Option α} {r : α} (h : Ev f r) (hc : ¬ c := by first | omega | decide | simp | (simp; omega)) : Ev (fun k => if c then g k else f k) r := Ev.neg hc h
theorem Ev.bindc {α β : Type} {a : Option α} {x : α} {f : Nat → α → Option β} {r : β} (h : a = some x) (k : Ev (fun n => f n x) r) : Ev (fun n => a.bind (f n)) r := by subst h; exact k
theorem wrap_id {n : Int} (h1 : -9223372036854775808 ≤ n) (h2 : n ≤ 9223372036854775807) : wrap64 n = n := IntWalk.wrap64_in n ⟨h1, h2⟩
theorem wf_i64 {n : Int} (h : (Lit.int .i64 n).wf = true) : -9223372036854775808 ≤ n ∧ n ≤ 9223372036854775807 := by
  have e1 : IntKind.i64.min = -9223372036854775808 := rfl
  have e2 : IntKind.i64.max = 9223372036854775807 := rfl
  simp only [Lit.wf, e1, e2, Bool.and_eq_true, decide_eq_true_eq] at h
  exact h
theorem rd_nat (l : List Int) (j : Nat) (h : j < l.length) : rd l (j : Int) = l[j] := by unfold rd; simp [List.getD, h]
end Go.Proofs.YtjjmbinhagaifaaDoor

namespace Go.Proofs.YtjjmbinhagaifaaDoor
open Go.RowKit Go.Proofs.YtjjmbinhagaifaaDoorW.PrintWords
set_option linter.unusedSimpArgs false
set_option linter.unusedVariables false
/-! Strings as lists of bytes. -/
/-- A string's bytes. -/
def bl (s : ByteArray) : List UInt8 := s.data.toList
theorem bl_len (s : ByteArray) : s.size = (bl s).length := rfl
theorem bl_inj {s t : ByteArray} (h : bl s = bl t) : s = t := ByteArray.ext (Array.toList_inj.1 h)
theorem bl_toList (s : ByteArray) : s.toList = bl s := Go.ByteArray.toList_eq s
theorem bl_mk (a : Array UInt8) : bl ⟨a⟩ = a.toList := rfl
theorem mk_bl (s : ByteArray) : (⟨(bl s).toArray⟩ : ByteArray) = s := bl_inj (by simp [bl])
theorem bl_extract (s : ByteArray) (i j : Nat) : bl (s.extract i j) = ((bl s).drop i).take (j - i) := by simp [bl, ByteArray.data_extract]
theorem bl_append (s t : ByteArray) : bl (s ++ t) = bl s ++ bl t := by simp [bl, ByteArray.data_append]
theorem bl_nums (l : List Int) : bl (strOfNums l) = l.map fun n => UInt8.ofNat n.toNat := rfl
theorem bl_empty : bl (⟨#[]⟩ : ByteArray) = [] := rfl
theorem bt_nat (s : ByteArray) (i : Nat) (h : i < (bl s).length) : bt s (i : Int) = ((bl s)[i].toNat : Int) := by
  unfold bt
  have h' : ((i : Int)).toNat < s.size := by rw [Int.toNat_natCast]; exact h
  rw [dif_pos h']; rfl
theorem of_toNat (c : UInt8) : UInt8.ofNat ((c.toNat : Int)).toNat = c := by rw [Int.toNat_natCast]; simp
theorem bt_of (s : ByteArray) (i : Nat) (h : i < (bl s).length) : UInt8.ofNat (bt s (i : Int)).toNat = (bl s)[i] := by rw [bt_nat s i h]; exact of_toNat _
theorem byte_eq (c d : UInt8) : ((c.toNat : Int) = (d.toNat : Int)) ↔ c = d := by
  constructor
  · intro h; exact UInt8.toNat_inj.1 (by exact_mod_cast h)
  · intro h; rw [h]
theorem byte_lt (c d : UInt8) : ((c.toNat : Int) < (d.toNat : Int)) ↔ c < d := by rw [UInt8.lt_iff_toNat_lt]; omega
theorem byte_le (c d : UInt8) : ((c.toNat : Int) ≤ (d.toNat : Int)) ↔ c ≤ d := by rw [UInt8.le_iff_toNat_le]; omega
theorem dropWhile_nil {α : Type} (p : α → Bool) : ∀ l : List α, l.dropWhile p = [] ↔ l.all p = true
  | [] => by simp
  | x :: xs => by
    by_cases h : p x = true
    · simp [List.dropWhile_cons, h, dropWhile_nil p xs]
    · simp [List.dropWhile_cons, h]
theorem dropWhile_keeps {α : Type} (p : α → Bool) : ∀ l : List α, (l.dropWhile p).all p = l.all p
  | [] => rfl
  | x :: xs => by
    by_cases h : p x = true
    · simp only [List.dropWhile_cons, h, if_true, List.all_cons, Bool.true_and]; exact dropWhile_keeps p xs
    · simp [List.dropWhile_cons, h]
theorem trimS_nil (l cs : List UInt8) : Lib.trimS l cs = [] ↔ l.all (cs.contains ·) = true := by
  unfold Lib.trimS Lib.trimLeftS Lib.trimRightS
  rw [dropWhile_nil, List.all_reverse, dropWhile_keeps, List.all_reverse]
theorem indexByte_neg (l : List UInt8) (c : UInt8) : Lib.indexByte l c < 0 ↔ ¬ c ∈ l := by
  induction l with
  | nil => simp [Lib.indexByte]
  | cons b l ih =>
    have hge := Lib.indexByte_ge l c
    unfold Lib.indexByte
    by_cases h : b = c
    · subst h; simp
    · have h1 : (b == c) = false := by simpa using h
      rw [h1]
      have h2 : ¬ c = b := fun e => h e.symm
      simp only [Bool.false_eq_true, if_false, List.mem_cons, h2, false_or]
      by_cases e : Lib.indexByte l c = -1
      · simp only [e, beq_self_eq_true, if_true]
        have := ih.1 (by omega)
        simp [this]
      · have e' : (Lib.indexByte l c == -1) = false := by simpa using e
        rw [e']
        simp only [Bool.false_eq_true, if_false]
        have hp : ¬ Lib.indexByte l c < 0 := by omega
        have := mt ih.2 hp
        constructor
        · intro h3; omega
        · intro h3; exact absurd h3 this
/-- The letters. -/
def isLow (c : UInt8) : Bool := decide (97 ≤ c.toNat) && decide (c.toNat ≤ 122)
theorem u8_all (P : UInt8 → Prop) [DecidablePred P] (h : ∀ n, n < 256 → P (UInt8.ofNat n)) (c : UInt8) : P c := by
  have := h c.toNat c.toNat_lt
  rwa [show UInt8.ofNat c.toNat = c from by simp] at this
theorem low_contains (c : UInt8) : ([97, 98, 99, 100, 101, 102, 103, 104, 105, 106, 107, 108, 109, 110, 111, 112, 113, 114, 115, 116, 117, 118, 119, 120, 121, 122] : List UInt8).contains c = isLow c := by
  refine u8_all (fun c => _ = isLow c) ?_ c
  decide +kernel
theorem dig_contains (c : UInt8) : ([48, 49, 50, 51, 52, 53, 54, 55, 56, 57] : List UInt8).contains c = (decide (48 ≤ c.toNat) && decide (c.toNat ≤ 57)) := by
  refine u8_all (fun c => _ = (decide (48 ≤ c.toNat) && decide (c.toNat ≤ 57))) ?_ c
  decide +kernel
end Go.Proofs.YtjjmbinhagaifaaDoor

namespace Go.Proofs.YtjjmbinhagaifaaDoor
open Go.RowKit Go.Proofs.YtjjmbinhagaifaaDoor.P Go.Proofs.YtjjmbinhagaifaaDoorW.PrintWords
set_option linter.unusedSimpArgs false
set_option linter.unusedVariables false
/-! The letters of a text: sorted by insertion, each once. -/
theorem rd_mid (A R : List Int) (v : Int) (j : Nat) (hj : j = A.length) : rd (A ++ v :: R) (j : Int) = v := by
  subst hj
  unfold rd
  rw [Int.toNat_natCast, List.getD_eq_getElem?_getD, List.getElem?_append_right (Nat.le_refl _)]
  simp
theorem less_eq (a b : Int) : cmp_Less_byte.f a b = some (decide (a < b)) := by
  unfold cmp_Less_byte.f cmp_isNaN_byte.f
  simp
theorem set_swap (A R : List Int) (u v : Int) : ((A ++ u :: v :: R).set (A.length + 1) u).set A.length v = A ++ v :: u :: R := by
  rw [List.set_append_right _ _ (by omega), show A.length + 1 - A.length = 1 by omega, List.set_append_right _ _ (by omega), Nat.sub_self]
  rfl
theorem ins_l1 (i n : Nat) (hn : n ≤ 1000000) (q : List Int) (v : Int) : ∀ (m : Nat) (A B : List Int), A.length = m → (A ++ B).length = i → i + 1 + q.length = n → (A ++ B).Pairwise (· ≤ ·) → (∀ b ∈ B, v ≤ b) →
    ∃ t, t.Perm (A ++ v :: B) ∧ t.Pairwise (· ≤ ·) ∧ ∀ R, Ev (fun k => slices_insertionSortOrdered_byte.l0 k (t ++ q) 0 (n : Int) ((i + 1 : Nat) : Int)) R → Ev (fun k => slices_insertionSortOrdered_byte.l1 k (A ++ v :: (B ++ q)) 0 (n : Int) (i : Int) (m : Int)) R
  | 0, A, B, hA, hi, hq, hp, hv => by
    obtain rfl := List.length_eq_zero_iff.1 hA
    refine ⟨v :: B, List.Perm.refl _, List.pairwise_cons.2 ⟨hv, hp⟩, fun R hR => ?_⟩
    apply Ev.succ; simp only [slices_insertionSortOrdered_byte.l1]
    refine Ev.neg (by omega) ?_
    rw [show wrap64 ((i : Int) + 1) = ((i + 1 : Nat) : Int) by rw [wrap_id (by omega) (by omega)]; omega]
    exact hR
  | m + 1, A, B, hA, hi, hq, hp, hv => by
    rcases List.eq_nil_or_concat A with rfl | ⟨A', u, rfl⟩
    · simp at hA
    rw [List.concat_eq_append] at *
    have hA' : A'.length = m := by simpa using hA
    have hlen : (A' ++ [u] ++ v :: (B ++ q)).length = n := by simp at hi ⊢; omega
    have hm : m + 1 < n := by simp at hi; omega
    have e1 : wrap64 (((m + 1 : Nat) : Int) - 1) = (m : Int) := by rw [wrap_id (by omega) (by omega)]; omega
    have r1 : rd (A' ++ [u] ++ v :: (B ++ q)) ((m + 1 : Nat) : Int) = v := rd_mid _ _ _ _ (by simp; omega)
    have r2 : rd (A' ++ [u] ++ v :: (B ++ q)) (m : Int) = u := by
      rw [List.append_assoc]; exact rd_mid _ _ _ _ hA'.symm
    by_cases c : v < u
    · have hp' : (A' ++ u :: B).Pairwise (· ≤ ·) := by simpa using hp
      obtain ⟨t, t1, t2, t3⟩ := ins_l1 i n hn q v m A' (u :: B) hA' (by simpa using hi) hq hp' (by
        intro b hb
        rcases List.mem_cons.1 hb with rfl | hb
        · exact Int.le_of_lt c
        · exact hv b hb)
      refine ⟨t, t1.trans ?_, t2, fun R hR => ?_⟩
      · rw [List.append_assoc]
        exact List.Perm.append_left A' (List.Perm.swap _ _ _)
      · have go := t3 R hR
        apply Ev.succ; simp only [slices_insertionSortOrdered_byte.l1, e1, r1, r2, hlen, less_eq]
        refine Ev.pos (by omega) (Ev.pos (by omega) (Ev.pos (by omega) (Ev.pos (by omega) (Ev.pos (by omega) (Ev.bindc rfl (Ev.pos (by simpa using c) ?_))))))
        rw [Int.toNat_natCast, Int.toNat_natCast, show A' ++ [u] ++ v :: (B ++ q) = A' ++ u :: v :: (B ++ q) by simp, ← hA', set_swap]
        rw [hA']
        exact go
    · have hA2 := List.pairwise_append.1 hp
      have hAu := List.pairwise_append.1 hA2.1
      refine ⟨A' ++ [u] ++ v :: B, List.Perm.refl _, ?_, fun R hR => ?_⟩
      · refine List.pairwise_append.2 ⟨hA2.1, List.pairwise_cons.2 ⟨hv, hA2.2.1⟩, fun a ha b hb => ?_⟩
        have hau : a ≤ u := by
          rcases List.mem_append.1 ha with h | h
          · exact hAu.2.2 a h u (by simp)
          · rw [List.mem_singleton.1 h]; exact Int.le_refl _
        rcases List.mem_cons.1 hb with rfl | hb
        · omega
        · have := hv b hb; omega
      · apply Ev.succ; simp only [slices_insertionSortOrdered_byte.l1, e1, r1, r2, hlen, less_eq]
        refine Ev.pos (by omega) (Ev.pos (by omega) (Ev.pos (by omega) (Ev.pos (by omega) (Ev.pos (by omega) (Ev.bindc rfl (Ev.neg (by simpa using c) ?_))))))
        rw [show wrap64 ((i : Int) + 1) = ((i + 1 : Nat) : Int) by rw [wrap_id (by omega) (by omega)]; omega]
        simpa using hR
theorem ins_l0 (n : Nat) (hn : n ≤ 1000000) : ∀ (d i : Nat) (S q : List Int), S.length = i → q.length = d → i + d = n → S.Pairwise (· ≤ ·) → ∃ t, t.Perm (S ++ q) ∧ t.Pairwise (· ≤ ·) ∧ Ev (fun k => slices_insertionSortOrdered_byte.l0 k (S ++ q) 0 (n : Int) (i : Int)) t
  | 0, i, S, q, hS, hq, hi, hp => by
    obtain rfl := List.length_eq_zero_iff.1 hq
    refine ⟨S, by simp, hp, ?_⟩
    apply Ev.succ; simp only [slices_insertionSortOrdered_byte.l0]
    exact Ev.neg (by omega) (Ev.const (by simp))
  | d + 1, i, S, q, hS, hq, hi, hp => by
    obtain ⟨v, q', rfl⟩ : ∃ v q', q = v :: q' := by cases q with
      | nil => simp at hq
      | cons v q' => exact ⟨v, q', rfl⟩
    have hq' : q'.length = d := by simpa using hq
    obtain ⟨t, t1, t2, t3⟩ := ins_l1 i n hn q' v i S [] hS (by simpa using hS) (by omega) (by simpa using hp) (by simp)
    have hl : t.length = i + 1 := by rw [t1.length_eq]; simp [hS]
    obtain ⟨r, r1, r2, r3⟩ := ins_l0 n hn d (i + 1) t q' hl hq' (by omega) t2
    refine ⟨r, r1.trans ?_, r2, ?_⟩
    · have := List.Perm.append_right q' t1
      simpa using this
    · apply Ev.succ; simp only [slices_insertionSortOrdered_byte.l0]
      refine Ev.pos (by omega) ?_
      have := t3 r r3
      simpa using this
theorem sort_ev (l : List Int) (hl : l.length ≤ 12) : ∃ t, t.Perm l ∧ t.Pairwise (· ≤ ·) ∧ Ev (fun k => slices_Sort_byte_byte.f k l) t := by
  have key : ∃ t, t.Perm l ∧ t.Pairwise (· ≤ ·) ∧ Ev (fun k => slices_insertionSortOrdered_byte.f k l 0 (l.length : Int)) t := by
    unfold slices_insertionSortOrdered_byte.f
    rw [show wrap64 ((0 : Int) + 1) = ((1 : Nat) : Int) by rw [wrap_id (by omega) (by omega)]; rfl]
    cases l with
    | nil =>
      refine ⟨[], List.Perm.refl _, List.Pairwise.nil, ?_⟩
      apply Ev.succ; simp only [slices_insertionSortOrdered_byte.l0]
      exact Ev.neg (by simp) (Ev.now _)
    | cons x l =>
      have hl' : (x :: l).length = l.length + 1 := rfl
      exact ins_l0 (x :: l).length (by omega) l.length 1 [x] l rfl rfl (by omega) (List.pairwise_singleton _ _)
  obtain ⟨t, t1, t2, t3⟩ := key
  refine ⟨t, t1, t2, ?_⟩
  unfold slices_Sort_byte_byte.f
  have hw : IntKind.u64.wrap (l.length : Int) = (l.length : Int) := by
    show (l.length : Int) % 18446744073709551616 = _
    omega
  refine Ev.bindc (x := (Lib.bitLen l.length : Int)) (by unfold bits_Len.f; rw [hw, if_pos ⟨by omega, by omega⟩, Int.toNat_natCast]) (Ev.bind ?_ (Ev.now _))
  unfold slices_pdqsortOrdered_byte.f
  refine Ev.pos ?_ t3
  rw [wrap_id (by omega) (by omega)]; omega
/-! Each once. -/
theorem keeps_iff (t : List Int) (j : Nat) (hj : j < t.length) : Lib.keeps t.toArray j = true ↔ j = 0 ∨ ∃ h : 0 < j, t[j] ≠ t[j - 1] := by
  unfold Lib.keeps
  rw [decide_eq_true_iff, getElem!_pos t.toArray j (by simpa using hj), getElem!_pos t.toArray (j - 1) (by simp; omega)]
  simp only [List.getElem_toArray]
  constructor
  · rintro (h | h)
    · exact .inl h
    · by_cases h0 : j = 0
      · exact .inl h0
      · exact .inr ⟨by omega, h⟩
  · rintro (h | ⟨_, h⟩)
    · exact .inl h
    · exact .inr h
theorem strict_of (t : List Int) (hs : t.Pairwise (· ≤ ·)) (hk : ∀ j, j < t.length → Lib.keeps t.toArray j = true) : t.Pairwise (· < ·) := by
  rw [List.pairwise_iff_getElem] at hs ⊢
  intro i j hi hj hij
  have h1 := (keeps_iff t j hj).1 (hk j hj)
  rcases h1 with h1 | ⟨h0, h1⟩
  · omega
  · have h2 := hs (j - 1) j (by omega) hj (by omega)
    have h3 : t[i] ≤ t[j - 1] := by
      by_cases e : i = j - 1
      · subst e; exact Int.le_refl _
      · exact hs i (j - 1) hi (by omega) (by omega)
    omega
theorem keeps_of (t : List Int) (hs : t.Pairwise (· < ·)) : ∀ j, j < t.length → Lib.keeps t.toArray j = true := by
  rw [List.pairwise_iff_getElem] at hs
  intro j hj
  rw [keeps_iff t j hj]
  by_cases h0 : j = 0
  · exact .inl h0
  · exact .inr ⟨by omega, fun e => by have := hs (j - 1) j (by omega) hj (by omega); omega⟩
theorem compact_all (t : List Int) (hs : t.Pairwise (· < ·)) : Lib.compactUpTo t.toArray t.length = t := by
  rw [Lib.compactUpTo_all _ _ (keeps_of t hs)]
  apply List.ext_getElem
  · simp
  · intro i h1 h2
    rw [List.getElem_map, List.getElem_range, getElem!_pos t.toArray i (by simpa using h2)]
    simp
theorem keeps_all_of (t : List Int) (h : (Lib.compactUpTo t.toArray t.length).length = t.length) : ∀ j, j < t.length → Lib.keeps t.toArray j = true := by
  unfold Lib.compactUpTo at h
  rw [List.length_map] at h
  intro j hj
  have := List.filter_eq_self.1 (List.filter_sublist.eq_of_length (by rw [h, List.length_range]))
  exact this j (List.mem_range.2 hj)
/-- lettersOf answers; as many letters as bytes just where none comes twice; and the text itself just where it ascends. -/
theorem letters_ev (s : ByteArray) (hs : s.size ≤ 12) : ∃ r, Ev (fun k => impl_lettersOf.f k s) r ∧ (r.size = s.size ↔ (bl s).Nodup) ∧ (bl r = bl s ↔ (bl s).Pairwise (· < ·)) := by
  have hlb : (bytesOf s).length = s.size := by unfold bytesOf; rw [List.length_map]; rfl
  have hbo : bytesOf s = (bl s).map fun b => (b.toNat : Int) := rfl
  obtain ⟨t, t1, t2, t3⟩ := sort_ev (bytesOf s) (by omega)
  have hlen : t.length = s.size := by rw [t1.length_eq, hlb]
  have hall : ∀ x ∈ t, 0 ≤ x ∧ x < 256 := by
    intro x hx
    have := t1.mem_iff.1 hx
    rw [hbo, List.mem_map] at this
    obtain ⟨b, _, rfl⟩ := this
    have := b.toNat_lt
    omega
  have hnd : t.Nodup ↔ (bl s).Nodup := by
    rw [t1.nodup_iff, hbo]
    unfold List.Nodup
    rw [List.pairwise_map]
    exact ⟨fun h => h.imp (fun h e => h (by rw [e])), fun h => h.imp (fun h e => h (UInt8.toNat_inj.1 (by omega)))⟩
  have back : ∀ l : List UInt8, (l.map fun b => (b.toNat : Int)).map (fun x => UInt8.ofNat x.toNat) = l := by
    intro l
    rw [List.map_map]
    have : ((fun x : Int => UInt8.ofNat x.toNat) ∘ fun b : UInt8 => (b.toNat : Int)) = id := by
      funext b; exact of_toNat b
    rw [this, List.map_id]
  refine ⟨⟨((Lib.compactUpTo t.toArray t.length).map fun x => UInt8.ofNat x.toNat).toArray⟩, ?_, ?_, ?_⟩
  · unfold impl_lettersOf.f
    refine Ev.bind t3 (Ev.const ?_)
    rw [if_pos ⟨hlen, by omega, by rw [List.all_eq_true]; intro x hx; simpa using hall x hx⟩]
  · rw [bl_len, bl_mk]
    simp only [List.length_map]
    rw [← hnd]
    constructor
    · intro h
      have := strict_of t t2 (keeps_all_of t (by rw [hlen]; rw [hlen] at h; exact h))
      exact this.imp (fun h e => by omega)
    · intro h
      have hst : t.Pairwise (· < ·) := by
        have := t2.and h
        exact this.imp (fun ⟨h1, h2⟩ => by omega)
      rw [compact_all t hst, hlen]
  · rw [bl_mk]
    simp only []
    constructor
    · intro h
      have hl := congrArg List.length h
      rw [List.length_map, ← bl_len] at hl
      have hst := strict_of t t2 (keeps_all_of t (by rw [hlen]; rw [hlen] at hl; exact hl))
      rw [compact_all t hst] at h
      rw [← h]
      rw [List.pairwise_map]
      refine List.Pairwise.imp_of_mem ?_ hst
      intro a b ha hb hab
      have h1 := hall a ha
      have h2 := hall b hb
      rw [UInt8.lt_iff_toNat_lt]
      simp; omega
    · intro h
      have hb : (bytesOf s).Pairwise (· < ·) := by
        rw [hbo, List.pairwise_map]
        exact h.imp (fun h => by rw [UInt8.lt_iff_toNat_lt] at h; omega)
      have he : t = bytesOf s := t1.eq_of_pairwise (le := (· ≤ ·)) (fun a b _ _ h1 h2 => by omega) t2 (hb.imp (fun h => by omega))
      rw [he, compact_all _ hb, hbo, back]
end Go.Proofs.YtjjmbinhagaifaaDoor

namespace Go.Proofs.YtjjmbinhagaifaaDoor
open Go.RowKit Go.Proofs.YtjjmbinhagaifaaDoor.P Go.Proofs.YtjjmbinhagaifaaDoorW.PrintWords
set_option linter.unusedSimpArgs false
set_option linter.unusedVariables false
theorem in_eq (n a b : Int) : impl_in.f n a b = some (decide (a ≤ n) && decide (n ≤ b)) := by
  unfold impl_in.f
  by_cases h : a ≤ n
  · rw [if_pos h]; simp [h]
  · rw [if_neg h]; simp [h]
theorem l1In_eq (n a b : Int) : spec_l1In.f n a b = some (decide (a ≤ n) && decide (n ≤ b)) := by
  unfold spec_l1In.f
  by_cases h : a ≤ n
  · rw [if_pos h]; simp [h]
  · rw [if_neg h]; simp [h]
end Go.Proofs.YtjjmbinhagaifaaDoor

namespace Go.Proofs.YtjjmbinhagaifaaDoor
open Go.RowKit Go.Proofs.YtjjmbinhagaifaaDoor.P Go.Proofs.YtjjmbinhagaifaaDoorW.PrintWords
set_option linter.unusedSimpArgs false
set_option linter.unusedVariables false
theorem over_eq (s cs : ByteArray) (h1 : s.size ≤ 9223372036854775807) (h2 : cs.size < 4294967281) (h3 : (bl cs).all (fun b => decide (b.toNat < 128)) = true) : impl_over.f s cs = some ((bl s).all ((bl cs).contains ·)) := by
  unfold impl_over.f strings_Trim.f
  rw [if_pos ⟨h1, h2, h3⟩]
  simp only [Option.bind_some]
  congr 1
  rw [bl_toList, bl_mk, List.toList_toArray]
  have := trimS_nil (bl s) (bl cs)
  unfold bl at this ⊢
  rw [Bool.eq_iff_iff, beq_iff_eq]
  exact this
/-- Is it a digit's sign? -/
def isDig (c : UInt8) : Bool := decide (48 ≤ c.toNat) && decide (c.toNat ≤ 57)
theorem overDig_eq (s : ByteArray) (h1 : s.size ≤ 9223372036854775807) : impl_over.f s (⟨#[48, 49, 50, 51, 52, 53, 54, 55, 56, 57]⟩ : ByteArray) = some ((bl s).all isDig) := by
  rw [over_eq s _ h1 (by decide) (by decide)]
  congr 1
  congr 1
  funext c
  exact dig_contains c
/-- Digits, of a length. -/
def digsB (l : List UInt8) (a b : Nat) : Bool := decide (a ≤ l.length) && decide (l.length ≤ b) && l.all isDig
theorem isDigits_eq (s : ByteArray) (a b : Nat) (h1 : s.size ≤ 9223372036854775807) : impl_isDigits.f s a b = some (digsB (bl s) a b) := by
  unfold impl_isDigits.f digsB
  rw [in_eq]
  have e : (decide ((a : Int) ≤ (s.size : Int)) && decide ((s.size : Int) ≤ (b : Int))) = (decide (a ≤ (bl s).length) && decide ((bl s).length ≤ b)) := by
    rw [bl_len]; congr 1 <;> (rw [decide_eq_decide]; omega)
  rw [e]
  simp only [Option.bind_some]
  cases (decide (a ≤ (bl s).length) && decide ((bl s).length ≤ b)) with
  | false => rfl
  | true => rw [if_pos rfl, overDig_eq s h1]; rfl
theorem isDig_at {l : List UInt8} (h : l.all isDig = true) (i : Nat) (hi : i < l.length) : 48 ≤ l[i].toNat ∧ l[i].toNat ≤ 57 := by
  have := List.all_eq_true.1 h _ (List.getElem_mem hi)
  unfold isDig at this
  simpa only [Bool.and_eq_true, decide_eq_true_eq] using this
end Go.Proofs.YtjjmbinhagaifaaDoor

/- FnExactCountWorn: both sides tell the same number: over the functions that the walk computes. -/
namespace Go.Proofs.YtjjmbinhagaifaaDoor
open Go.RowKit Go.Proofs.YtjjmbinhagaifaaDoor.P Go.Proofs.YtjjmbinhagaifaaDoorW.PrintWords
set_option linter.unusedSimpArgs false
set_option linter.unusedVariables false
set_option linter.unusedSectionVars false
namespace CountWorn
theorem piDigits_l0 (s : ByteArray) (hs : s.size ≤ 1048576) : ∀ (d i : Nat), i + d = s.size → Ev (fun k => spec_piDigits.l0 k s i) (((bl s).drop i).all isDig)
  | 0, i, hi => by
    apply Ev.succ
    simp only [spec_piDigits.l0]
    refine Ev.neg (by omega) (Ev.const ?_)
    rw [List.drop_of_length_le (by rw [← bl_len]; omega)]; rfl
  | d + 1, i, hi => by
    have hlt : i < (bl s).length := by rw [← bl_len]; omega
    have ih := piDigits_l0 s hs d (i + 1) (by omega)
    apply Ev.succ
    simp only [spec_piDigits.l0]
    refine Ev.pos (by omega) (Ev.pos (by omega) ?_)
    rw [show wrap64 ((i : Int) + 1) = ((i + 1 : Nat) : Int) by rw [wrap_id (by omega) (by omega)]; omega, bt_nat s i hlt, List.drop_eq_getElem_cons hlt, List.all_cons]
    by_cases c1 : ((bl s)[i].toNat : Int) < 48
    · refine Ev.pos c1 (Ev.const ?_)
      have : isDig (bl s)[i] = false := by unfold isDig; rw [Bool.and_eq_false_iff]; left; rw [decide_eq_false_iff_not]; omega
      rw [this]; rfl
    · refine Ev.neg c1 ?_
      by_cases c2 : ((bl s)[i].toNat : Int) > 57
      · refine Ev.pos c2 (Ev.const ?_)
        have : isDig (bl s)[i] = false := by unfold isDig; rw [Bool.and_eq_false_iff]; right; rw [decide_eq_false_iff_not]; omega
        rw [this]; rfl
      · refine Ev.neg c2 ?_
        have : isDig (bl s)[i] = true := by unfold isDig; rw [Bool.and_eq_true, decide_eq_true_eq, decide_eq_true_eq]; omega
        rw [this, Bool.true_and]
        exact ih
theorem piDigits_ev (s : ByteArray) (hs : s.size ≤ 1048576) : Ev (fun k => spec_piDigits.f k s 1 10) (digsB (bl s) 1 10) := by
  unfold spec_piDigits.f digsB
  refine Ev.bindc (l1In_eq _ _ _) ?_
  have e : (decide ((1 : Int) ≤ (s.size : Int)) && decide ((s.size : Int) ≤ 10)) = (decide (1 ≤ (bl s).length) && decide ((bl s).length ≤ 10)) := by
    rw [bl_len]; congr 1 <;> (rw [decide_eq_decide]; omega)
  rw [e]
  cases h : (decide (1 ≤ (bl s).length) && decide ((bl s).length ≤ 10)) with
  | false => exact Ev.no (Ev.now _)
  | true =>
    refine Ev.yes ?_
    rw [Bool.true_and]
    exact piDigits_l0 s hs s.size 0 (by omega)
/-! Does a text ascend? -/
def chkA (l : List UInt8) : Nat → Nat → Bool
  | 0, _ => true
  | d + 1, i => decide ((l.getD (i - 1) 0).toNat < (l.getD i 0).toNat) && chkA l d (i + 1)
theorem at_ (l : List UInt8) (i : Nat) (h : i < l.length) : l.getD i 0 = l[i] := by rw [List.getD_eq_getElem?_getD, List.getElem?_eq_getElem h]; rfl
theorem chkA_iff (l : List UInt8) : ∀ (d i : Nat), i + 1 + d = l.length → (chkA l d (i + 1) = true ↔ (l.drop i).Pairwise (· < ·))
  | 0, i, hi => by
    unfold chkA
    rw [List.drop_eq_getElem_cons (by omega), List.drop_of_length_le (by omega)]
    simp
  | d + 1, i, hi => by
    have ih := chkA_iff l d (i + 1) (by omega)
    have e0 := List.drop_eq_getElem_cons (l := l) (i := i) (by omega)
    have e1 := List.drop_eq_getElem_cons (l := l) (i := i + 1) (by omega)
    unfold chkA
    rw [show i + 1 - 1 = i by omega, at_ l i (by omega), at_ l (i + 1) (by omega), Bool.and_eq_true, decide_eq_true_iff, ih, e0, List.pairwise_cons]
    constructor
    · rintro ⟨h1, h2⟩
      refine ⟨fun x hx => ?_, h2⟩
      rw [e1] at hx h2
      rw [UInt8.lt_iff_toNat_lt]
      rcases List.mem_cons.1 hx with rfl | hx
      · exact h1
      · have := (List.pairwise_cons.1 h2).1 x hx
        rw [UInt8.lt_iff_toNat_lt] at this
        omega
    · rintro ⟨h1, h2⟩
      refine ⟨?_, h2⟩
      have := h1 l[i + 1] (by rw [e1]; exact List.mem_cons_self)
      rwa [UInt8.lt_iff_toNat_lt] at this
/-! The rows of numbers. -/
def stepW (n : Nat) (old cur : List Int) (j : Nat) : List Int :=
  if j < n then (cur.set j (wrap64 (rd cur j + wrap64 (rd old j * j)))).set (j + 1) (wrap64 (rd (cur.set j (wrap64 (rd cur j + wrap64 (rd old j * j)))) ((j + 1 : Nat) : Int) + wrap64 (rd old j * wrap64 ((n : Int) - j))))
  else cur.set j (wrap64 (rd cur j + wrap64 (rd old j * j)))
theorem stepW_len (n : Nat) (old cur : List Int) (j : Nat) : (stepW n old cur j).length = cur.length := by unfold stepW; split <;> simp
def inner (n : Nat) (old : List Int) : Nat → Nat → List Int → List Int
  | 0, _, cur => cur
  | d + 1, j, cur => inner n old d (j + 1) (stepW n old cur j)
theorem inner_len (n : Nat) (old : List Int) : ∀ (d j : Nat) (cur : List Int), (inner n old d j cur).length = cur.length
  | 0, _, _ => rfl
  | d + 1, j, cur => by unfold inner; rw [inner_len, stepW_len]
def pass (n : Nat) (old : List Int) : List Int := inner n old (n + 1) 0 (List.replicate (n + 1) 0)
theorem pass_len (n : Nat) (old : List Int) : (pass n old).length = n + 1 := by unfold pass; rw [inner_len, List.length_replicate]
def iterW (n : Nat) : Nat → List Int → List Int
  | 0, l => l
  | m + 1, l => iterW n m (pass n l)
theorem iterW_len (n : Nat) : ∀ (m : Nat) (l : List Int), l.length = n + 1 → (iterW n m l).length = n + 1
  | 0, l, h => h
  | m + 1, l, h => by unfold iterW; exact iterW_len n m _ (pass_len n l)
section
variable (s : ByteArray) (n : Nat) (hn : s.size = n) (hb : n ≤ 10)
include hn hb
theorem impl_l1 (x30 x31 : Int) (old : List Int) (ho : old.length = n + 1) (R : Int × Bool) : ∀ (d j : Nat) (cur : List Int), j + d = n + 1 → cur.length = n + 1 → Ev (fun k => impl_CountWorn.l0 k s (inner n old d j cur) x30 (wrap64 (x31 + 1))) R → Ev (fun k => impl_CountWorn.l1 k s cur x30 x31 old (old.length : Int) (j : Int)) R
  | 0, j, cur, hj, hc, hR => by
    apply Ev.succ; simp only [impl_CountWorn.l1]
    exact Ev.neg (by omega) hR
  | d + 1, j, cur, hj, hc, hR => by
    have e1 : wrap64 ((j : Int) + 1) = ((j + 1 : Nat) : Int) := by rw [wrap_id (by omega) (by omega)]; omega
    have ih := impl_l1 x30 x31 old ho R d (j + 1) (stepW n old cur j) (by omega) (by rw [stepW_len]; exact hc) hR
    unfold stepW at ih
    apply Ev.succ; simp only [impl_CountWorn.l1, e1, Int.toNat_natCast, ho, hc, hn, List.length_set]
    rw [ho] at ih
    refine Ev.pos (by omega) (Ev.pos (by omega) (Ev.pos (by omega) (Ev.pos (by omega) (Ev.bindc rfl ?_))))
    by_cases c : j < n
    · rw [if_pos c] at ih
      refine Ev.pos (by omega) (Ev.pos (by omega) (Ev.pos (by first | omega | (simp only [List.length_set]; omega)) ?_))
      exact ih
    · rw [if_neg c] at ih
      exact Ev.neg (by omega) ih
theorem impl_l0 (long : Nat) (hl : long ≤ 4) : ∀ (m i : Nat) (cur : List Int), i + m = long → cur.length = n + 1 → Ev (fun k => impl_CountWorn.l0 k s cur (long : Int) (i : Int)) (rd (iterW n m cur) (n : Int), true)
  | 0, i, cur, hi, hc => by
    apply Ev.succ; simp only [impl_CountWorn.l0, hc, hn]
    exact Ev.neg (by omega) (Ev.pos (by omega) (Ev.pos (by omega) (Ev.now _)))
  | m + 1, i, cur, hi, hc => by
    have e1 : wrap64 ((i : Int) + 1) = ((i + 1 : Nat) : Int) := by rw [wrap_id (by omega) (by omega)]; omega
    have ih := impl_l0 long hl m (i + 1) (pass n cur) (by omega) (pass_len n cur)
    rw [← e1] at ih
    have st := impl_l1 s n hn hb (long : Int) (i : Int) cur hc _ (n + 1) 0 (List.replicate (n + 1) 0) (by omega) List.length_replicate ih
    apply Ev.succ; simp only [impl_CountWorn.l0, hc, Int.toNat_natCast]
    rw [hc] at st
    exact Ev.pos (by omega) (Ev.pos (by omega) (Ev.pos (by omega) st))
theorem spec_l2 (x1 : Int) (old : List Int) (ho : old.length = n + 1) (R : Int × Bool) : ∀ (d j : Nat) (cur : List Int), j + d = n + 1 → cur.length = n + 1 → Ev (fun k => spec_CountWorn.l1 k s (wrap64 (x1 - 1)) (inner n old d j cur)) R → Ev (fun k => spec_CountWorn.l2 k s x1 cur old (old.length : Int) (j : Int)) R
  | 0, j, cur, hj, hc, hR => by
    apply Ev.succ; simp only [spec_CountWorn.l2]
    exact Ev.neg (by omega) hR
  | d + 1, j, cur, hj, hc, hR => by
    have e1 : wrap64 ((j : Int) + 1) = ((j + 1 : Nat) : Int) := by rw [wrap_id (by omega) (by omega)]; omega
    have ih := spec_l2 x1 old ho R d (j + 1) (stepW n old cur j) (by omega) (by rw [stepW_len]; exact hc) hR
    unfold stepW at ih
    apply Ev.succ; simp only [spec_CountWorn.l2, e1, Int.toNat_natCast, ho, hc, hn, List.length_set]
    rw [ho] at ih
    refine Ev.pos (by omega) (Ev.pos (by omega) (Ev.pos (by omega) (Ev.pos (by omega) (Ev.bindc rfl ?_))))
    by_cases c : j < n
    · rw [if_pos c] at ih
      refine Ev.pos (by omega) (Ev.pos (by omega) (Ev.pos (by first | omega | (simp only [List.length_set]; omega)) ?_))
      exact ih
    · rw [if_neg c] at ih
      exact Ev.neg (by omega) ih
theorem spec_l1 : ∀ (m : Nat) (cur : List Int), m ≤ 4 → cur.length = n + 1 → Ev (fun k => spec_CountWorn.l1 k s (m : Int) cur) (rd (iterW n m cur) (n : Int), true)
  | 0, cur, hm, hc => by
    apply Ev.succ; simp only [spec_CountWorn.l1, hc, hn]
    exact Ev.neg (by omega) (Ev.pos (by omega) (Ev.pos (by omega) (Ev.now _)))
  | m + 1, cur, hm, hc => by
    have e1 : wrap64 (((m + 1 : Nat) : Int) - 1) = (m : Int) := by rw [wrap_id (by omega) (by omega)]; omega
    have e2 : wrap64 ((n : Int) + 1) = ((n + 1 : Nat) : Int) := by rw [wrap_id (by omega) (by omega)]; omega
    have ih := spec_l1 m (pass n cur) (by omega) (pass_len n cur)
    rw [← e1] at ih
    have st := spec_l2 s n hn hb ((m + 1 : Nat) : Int) cur hc _ (n + 1) 0 (List.replicate (n + 1) 0) (by omega) List.length_replicate ih
    apply Ev.succ; simp only [spec_CountWorn.l1, hc, hn, e2, Int.toNat_natCast]
    rw [hc] at st
    exact Ev.pos (by omega) (Ev.pos (by omega) (Ev.pos (by omega) st))
def startW (n : Nat) : List Int := (List.replicate (n + 1) 0).set 0 1
theorem spec_l0 (m : Nat) (hm : m ≤ 4) (hp : 1 ≤ n) : ∀ (d i : Nat), 1 ≤ i → i + d = n → Ev (fun k => spec_CountWorn.l0 k s (m : Int) (i : Int)) (if chkA (bl s) d i = true then (rd (iterW n m (startW n)) (n : Int), true) else (0, false))
  | 0, i, h1, hi => by
    have e2 : wrap64 ((n : Int) + 1) = ((n + 1 : Nat) : Int) := by rw [wrap_id (by omega) (by omega)]; omega
    have go := spec_l1 s n hn hb m (startW n) hm (by unfold startW; simp)
    unfold chkA
    rw [if_pos rfl]
    apply Ev.succ; simp only [spec_CountWorn.l0, hn, e2, Int.toNat_natCast]
    refine Ev.neg (by omega) (Ev.pos (by omega) (Ev.pos (by omega) (Ev.bindc rfl (Ev.pos (by simp) ?_))))
    exact go
  | d + 1, i, h1, hi => by
    have es : s.size = (bl s).length := rfl
    have e1 : wrap64 ((i : Int) + 1) = ((i + 1 : Nat) : Int) := by rw [wrap_id (by omega) (by omega)]; omega
    have e2 : wrap64 ((i : Int) - 1) = ((i - 1 : Nat) : Int) := by rw [wrap_id (by omega) (by omega)]; omega
    have ih := spec_l0 m hm hp d (i + 1) (by omega) (by omega)
    apply Ev.succ; simp only [spec_CountWorn.l0, hn, e1, e2]
    unfold chkA
    rw [bt_nat s i (by omega), bt_nat s (i - 1) (by omega), at_ _ _ (by omega), at_ _ _ (by omega)]
    refine Ev.pos (by omega) (Ev.pos (by omega) (Ev.pos (by omega) (Ev.pos (by omega) ?_)))
    by_cases c : ((bl s)[i - 1]'(by omega)).toNat < ((bl s)[i]'(by omega)).toNat
    · rw [decide_eq_true c, Bool.true_and]
      exact Ev.neg (by omega) ih
    · rw [decide_eq_false c, Bool.false_and, if_neg (by decide)]
      exact Ev.pos (by omega) (Ev.now _)
end
theorem both (s : ByteArray) (hs : s.size ≤ 1048576) (long : Int) : ∃ r : Int × Bool, Ev (fun k => spec_CountWorn.f k s long) r ∧ Ev (fun k => impl_CountWorn.f k s long) r := by
  have badS : Ev (fun k => spec_CountWorn.j0 k s long true) ((0 : Int), false) := Ev.succ (by simp only [spec_CountWorn.j0]; exact Ev.pos (by trivial) (Ev.now _))
  have badI : Ev (fun k => impl_CountWorn.j0 k s long true) ((0 : Int), false) := Ev.succ (by simp only [impl_CountWorn.j0]; exact Ev.pos (by trivial) (Ev.now _))
  have d1 := piDigits_ev s hs
  have d2 : impl_isDigits.f s 1 10 = some (digsB (bl s) 1 10) := isDigits_eq s 1 10 (by omega)
  unfold spec_CountWorn.f impl_CountWorn.f
  cases h1 : digsB (bl s) 1 10 with
  | false => exact ⟨(0, false), Ev.bind d1 (by rw [h1]; exact Ev.neg (by decide) badS), Ev.bindc (by rw [d2, h1]) (Ev.neg (by decide) badI)⟩
  | true =>
    have h1' := h1
    unfold digsB at h1'
    simp only [Bool.and_eq_true, decide_eq_true_eq] at h1'
    have es : s.size = (bl s).length := rfl
    obtain ⟨t, t1, _, t3⟩ := letters_ev s (by omega)
    have ca := chkA_iff (bl s) ((bl s).length - 1) 0 (by omega)
    rw [List.drop_zero] at ca
    have hpin : impl_pinLong.f long = some (decide (2 ≤ long) && decide (long ≤ 4)) := by unfold impl_pinLong.f; rw [in_eq]; rfl
    cases h2 : (decide (2 ≤ long) && decide (long ≤ 4)) with
    | false =>
      refine ⟨(0, false), Ev.bind d1 (by rw [h1]; exact Ev.pos rfl (Ev.bindc (x := false) (by rw [l1In_eq, h2]) badS)), Ev.bindc (by rw [d2, h1]) (Ev.pos rfl (Ev.bind t1 ?_))⟩
      by_cases c : t.toList = s.toList
      · exact Ev.pos c (Ev.bindc (x := false) (by rw [hpin, h2]) badI)
      · exact Ev.neg c badI
    | true =>
      simp only [Bool.and_eq_true, decide_eq_true_eq] at h2
      obtain ⟨m, rfl⟩ := Int.eq_ofNat_of_zero_le (show 0 ≤ long by omega)
      have s0 := spec_l0 s s.size rfl (by omega) m (by omega) (by omega) (s.size - 1) 1 (by omega) (by omega)
      have sE : Ev (fun k => spec_CountWorn.j0 k s (m : Int) (!true)) (if chkA (bl s) (s.size - 1) 1 = true then (rd (iterW s.size m (startW s.size)) (s.size : Int), true) else (0, false)) := by
        apply Ev.succ; simp only [spec_CountWorn.j0]
        exact Ev.neg (by decide) s0
      have h2' : (decide ((2 : Int) ≤ (m : Int)) && decide ((m : Int) ≤ 4)) = true := by simp only [Bool.and_eq_true, decide_eq_true_eq]; exact h2
      refine ⟨_, Ev.bind d1 (by rw [h1]; exact Ev.pos rfl (Ev.bindc (x := true) (by rw [l1In_eq, h2']) sE)), Ev.bindc (by rw [d2, h1]) (Ev.pos rfl (Ev.bind t1 ?_))⟩
      rw [bl_toList, bl_toList]
      by_cases c : bl t = bl s
      · have hca : chkA (bl s) (s.size - 1) 1 = true := ca.2 (t3.1 c)
        rw [if_pos hca]
        refine Ev.pos c (Ev.bindc (x := true) (by rw [hpin, h2']) ?_)
        have e2 : wrap64 ((s.size : Int) + 1) = ((s.size + 1 : Nat) : Int) := by rw [wrap_id (by omega) (by omega)]; omega
        have i0 := impl_l0 s s.size rfl (by omega) m (by omega) m 0 (startW s.size) (by omega) (by unfold startW; simp)
        apply Ev.succ; simp only [impl_CountWorn.j0, e2, Int.toNat_natCast]
        refine Ev.neg (by decide) (Ev.pos (by omega) (Ev.pos (by omega) (Ev.bindc rfl (Ev.pos (by simp) ?_))))
        exact i0
      · have hca : ¬ chkA (bl s) (s.size - 1) 1 = true := fun h => c (t3.2 (ca.1 h))
        rw [if_neg hca]
        exact Ev.neg c badI
end CountWorn
open CountWorn in
theorem pure_FnExactCountWorn : PureFnExactCountWorn := by
  intro s long
  intros
  refine Ev.rounds (g := fun k => laws_FnExactCountWorn.f k s long) ?_
  unfold laws_FnExactCountWorn.f
  by_cases c1 : s.size ≤ 1048576
  · obtain ⟨r, hs, hi⟩ := both s c1 long
    exact Ev.neg (by omega) (Ev.bind hs (Ev.bind hi (Ev.pos rfl (Ev.neg (by simp) (Ev.now _)))))
  · exact Ev.pos (by omega) (Ev.now _)
end Go.Proofs.YtjjmbinhagaifaaDoor

namespace Go.Proofs.YtjjmbinhagaifaaDoor
open Go.RowKit Go.Proofs.YtjjmbinhagaifaaDoorW.PrintWords Go.ChangeShapes Go.WideShapes

theorem C_scalar {α : Type} {enc : α → Value} {h1 : ∀ x, (enc x).oneCell' = true} {w : World} {A : Option Addr} {l : List α} (hn : l.length ≤ 9223372036854775807)
    (hcell : 0 < l.length → ∃ ad, A = some ad ∧ ∀ j x, l[j]? = some x → w.cell? (ad.add j) = some (enc x)) : (Kd.scalar enc h1).C w A l.length l := by
  refine ⟨rfl, hn, fun hp => ?_⟩
  obtain ⟨ad, hA, hc⟩ := hcell hp
  refine ⟨ad, hA, fun j x hx => ⟨[enc x], rfl, rfl, fun i u hu => ?_⟩⟩
  match i, hu with
  | 0, hu =>
    have : enc x = u := by simpa using hu
    subst this
    show w.cell? (ad.add (j * 1 + 0)) = _
    rw [Nat.mul_one, Nat.add_zero]
    exact hc j x hx
  | i + 1, hu => simp at hu

section
variable {H : Type} {enc : TypeId × Value → H} {P : Program} {w : World} {base : Nat} {spare : Nat → Bool} {held : Bool}

/-- A cell that reads at a slice of whole numbers. -/
theorem read_ints {t e : TypeId} {k : IntKind} {fuel : Nat} {v : Value} {y : DataW H × List MemPlace} (ht : P.underlying t = some (.slice e)) (he : P.underlying e = some (.int k)) (hc : P.cellsOf e = 1)
    (hf : DataW.trod enc P w base spare held fuel t [v] = some y) :
    ∃ (A : Option Addr) (c : Nat) (l : List Int), v = .slice A l.length c ∧ l.length ≤ c ∧ (∀ x ∈ l, (Lit.int k x).wf = true) ∧ (Kd.int k).C w A l.length l := by
  rcases open_ints ht he hc hf with ⟨hcs, _⟩ | ⟨a, len, cap, zs, hcs, _, hl, hm, hz, _, hcell, hwf⟩
  · obtain rfl : v = .slice none 0 0 := by simpa using hcs
    exact ⟨none, 0, [], rfl, Nat.le_refl _, fun x hx => by simp at hx, rfl, by simp, fun h => absurd h (by simp)⟩
  · obtain rfl : v = .slice (some a) len cap := by simpa using hcs
    have hlz : len ≤ zs.length := by rw [hz]; split <;> omega
    have hlen : (zs.take len).length = len := by rw [List.length_take]; omega
    refine ⟨some a, cap, zs.take len, by rw [hlen], by rw [hlen]; exact hl, fun x hx => hwf x (List.mem_of_mem_take hx), ?_⟩
    refine C_scalar (by rw [hlen]; unfold maxLen at hm; omega) (fun hp => ⟨a, rfl, fun j x hj => ?_⟩)
    have hj' : j < len := by have := (List.getElem?_eq_some_iff.1 hj).1; rw [hlen] at this; exact this
    rw [hcell j (by omega)]
    rw [List.getElem?_take_of_lt hj'] at hj
    rw [List.getD_eq_getElem?_getD, hj]; rfl

/-- A cell that reads at a slice of strings. -/
theorem read_strs {t e : TypeId} {fuel : Nat} {v : Value} {y : DataW H × List MemPlace} (ht : P.underlying t = some (.slice e)) (he : P.underlying e = some .string) (hc : P.cellsOf e = 1)
    (hf : DataW.trod enc P w base spare held fuel t [v] = some y) :
    ∃ (A : Option Addr) (c : Nat) (l : List ByteArray), v = .slice A l.length c ∧ l.length ≤ c ∧ (∀ s ∈ l, s.size ≤ 9223372036854775807) ∧ Kd.string.C w A l.length l := by
  rcases open_strings ht he hc hf with ⟨hcs, _⟩ | ⟨a, len, cap, zs, hcs, _, hl, hm, hz, _, hcell, hwf⟩
  · obtain rfl : v = .slice none 0 0 := by simpa using hcs
    exact ⟨none, 0, [], rfl, Nat.le_refl _, fun x hx => by simp at hx, rfl, by simp, fun h => absurd h (by simp)⟩
  · obtain rfl : v = .slice (some a) len cap := by simpa using hcs
    have hlz : len ≤ zs.length := by rw [hz]; split <;> omega
    have hlen : (zs.take len).length = len := by rw [List.length_take]; omega
    refine ⟨some a, cap, zs.take len, by rw [hlen], by rw [hlen]; exact hl, fun x hx => by have := hwf x (List.mem_of_mem_take hx); unfold maxLen at this; omega, ?_⟩
    refine C_scalar (by rw [hlen]; unfold maxLen at hm; omega) (fun hp => ⟨a, rfl, fun j x hj => ?_⟩)
    have hj' : j < len := by have := (List.getElem?_eq_some_iff.1 hj).1; rw [hlen] at this; exact this
    rw [hcell j (by omega)]
    rw [List.getElem?_take_of_lt hj'] at hj
    rw [List.getD_eq_getElem?_getD, hj]; rfl

theorem read_int {t : TypeId} {k : IntKind} {fuel : Nat} {v : Value} {y : DataW H × List MemPlace} (ht : P.underlying t = some (.int k))
    (hf : DataW.trod enc P w base spare held fuel t [v] = some y) : ∃ n : Int, v = .int k n ∧ (Lit.int k n).wf = true := by
  obtain ⟨n, e1, _, h⟩ := DataW.trod_int ht hf
  exact ⟨n, by simpa using e1, h⟩
end

/-- The cells of a datum that holds numbers alone, an array's elements being numbers or structs of numbers. -/
def litsOf : DataW Unit → List Value
  | .lit (.int k n) => [.int k n]
  | .agg l => l.flatMap fun
    | .lit (.int k n) => [.int k n]
    | .agg l2 => l2.flatMap fun
      | .lit (.int k n) => [.int k n]
      | _ => []
    | _ => []
  | _ => []
end Go.Proofs.YtjjmbinhagaifaaDoor

/- FnExactCountWornCardSaid: the law 'FnExactCountWorn' answers true for every input, and leaves its arguments as they were. The row and its tied card, over the walk of its calls and the pure statement. -/
namespace Go.Proofs.YtjjmbinhagaifaaDoor.fnExactCountWorn
open Go.ChangeShapes Go.WideShapes Go.ChangeAt Go.RowKit Go.Proofs.YtjjmbinhagaifaaDoor.P Go.Proofs.YtjjmbinhagaifaaDoorW.PrintWords
open Go.ChangeMaps (open_string shut_string)
set_option linter.unusedVariables false
theorem own : ownKnob Tryd.prog.godebug = none := by kernel_rfl
/-- What the row lists of package-level variables. -/
noncomputable def laidList : List (String × DataW Unit) := [("unicode/utf8.acceptRanges", Rows.laid_unicode_utf8_acceptRanges), ("unicode/utf8.first", Rows.laid_unicode_utf8_first)]
/-- A world that meets it: the settled one, the listed variables laid. -/
noncomputable def laidWorld (os : Os) : World :=
  let w0 := World.holding Tryd.prog os ⟨#[], #[], []⟩
  { w0 with heap := ((w0.heap.modify 2 fun o => match o with | .cells _ t frozen => .cells (litsOf Rows.laid_unicode_utf8_acceptRanges).toArray t frozen | o => o).modify 1 fun o => match o with | .cells _ t frozen => .cells (litsOf Rows.laid_unicode_utf8_first).toArray t frozen | o => o) }
theorem laidWorld_met (os : Os) (args : Array Value) : laidMetH Tryd.prog laidList ((laidWorld os).forCall (fun _ _ => 0) ⟨#[], args, []⟩).memory :=
  laidMetH_of_parts3 (fuel := 8) (laidMet_of_run' 8 (by kernel_rfl) (by kernel_rfl)) (by kernel_rfl) (by kernel_rfl)
set_option maxRecDepth 100000 in
theorem lifted (os : Os) (started : os.Started) (H : Type) (enc : TypeId × Value → H) :
    ReturnsInHanded {} Tryd.checked os 8 .any (fun w args => (Rows.fnExactCountWornSpec.pre enc Tryd.prog Tryd.f8 [] false w args ∧ laidMetH Tryd.prog laidList w) ∧ sizedMet enc Tryd.prog Tryd.f8 (OpenSpec.ofChange Rows.fnExactCountWornSpec) false w args)
      (Rows.fnExactCountWornSpec.post enc Tryd.prog Tryd.f8 false true false false) := by
  refine returnsInHanded_of_change_and (C := Tryd.checked) (X := fun w _ => laidMetH Tryd.prog laidList w) (fun _ _ _ hh h => h.of_heap hh) own started (by kernel_rfl) Tryd.func8
    (ChangeSpec.witness_at (enc := enc) (C := Tryd.checked) (os := os) (X := fun w _ => laidMetH Tryd.prog laidList w) false (laidWorld os) #[.string ByteArray.empty, .int .i64 0] 8 rfl (by kernel_rfl) (by kernel_rfl) (by kernel_rfl) (by kernel_rfl) (by kernel_rfl) (laidWorld_met os _)) ?_
  intro W base args ds gs before hval0 hW _ _ hL _
  have hval : ∀ (j : Nat) t v, Tryd.f8.params[j]? = some t → args[j]? = some v → Value.okWide Tryd.prog W .any base t v := hval0
  have hW' := hW
  obtain ⟨p, q, hA0, hV, rfl, hfz, hnd⟩ := hW
  have hA : DataW.TrodAll enc Tryd.prog W 0 (fun _ => true) true Tryd.f8.params.toList args.toList ds p := hA0
  rw [Tryd.params8] at hA hval
  obtain ⟨v0, vs0, d0, ds0, p0, q0, hargs, rfl, rfl, h0, r0⟩ := trodAll_cons hA
  obtain ⟨v1, vs1, d1, ds1, p1, q1, rfl, rfl, rfl, h1, r1⟩ := trodAll_cons r0
  obtain ⟨rfl, rfl, rfl⟩ := trodAll_nil r1
  obtain rfl : args = #[v0, v1] := by cases args; simp_all
  obtain ⟨rfl, rfl⟩ := trodVars_none hV
  obtain ⟨a0, rfl, rfl, rfl, y0⟩ := open_string Tryd.underlying9 (hval 0 9 v0 rfl rfl) h0
  have z0 : a0.size ≤ 9223372036854775807 := by unfold maxLen at y0; omega
  obtain ⟨a1, rfl, rfl, rfl, w1⟩ := open_int Tryd.underlying3 (hval 1 3 v1 rfl rfl) h1
  clear hA0 hval0
  simp only [List.append_nil] at hW'
  obtain ⟨k, hk⟩ := pure_FnExactCountWorn a0 a1 z0 w1
  refine (laws_FnExactCountWorn.calls k a0 a1 true W  hk).mono fun e W' ⟨he, bel0⟩ => ?_
  have bel : Below W.heap.size W W' := bel0
  subst he
  exact ⟨_, rfl, _, _, _, [], _, [], hW', trodAll_mk1 (shut_bool Tryd.underlying4 _), (trodAll_cons_mk (shut_string Tryd.underlying9 y0) (trodAll_cons_mk (shut_int Tryd.underlying3 w1) trodAll_mk0)), rfl, bel.frame _, fun h => by cases h⟩
theorem over : Rows.fnExactCountWornRow.holds Tryd.pinned (OpenSpec.ofChange Rows.fnExactCountWornSpec) :=
  OpenClaim.holds_of_wide 8 Tryd.f8 rfl rfl rfl rfl rfl rfl rfl ⟨rfl, rfl, rfl, rfl, rfl⟩ rfl rfl rfl rfl rfl (by kernel_rfl) Tryd.func8 (by kernel_rfl)
    (of_decide_eq_true (by kernel_rfl)) (by unfold Func.isWrapper; first | (rw [if_pos (by decide +kernel)]; kernel_rfl) | (rw [if_neg (by decide +kernel)]; exact ⟨rfl, rfl⟩))
    (fun os started H enc _ => lifted os started H enc)
theorem proved : Rows.FnExactCountWornSaid := over
theorem card : Rows.FnExactCountWornCardSaid :=
  Claim7.holds_tied_plain_at .later [] [.data, .pinned] true (true, "b9d15427ed251242a914b83faedb5cb33e9c8a368ba58045d4002b94443799b4") false
    proved (fun _ h => by cases h) (by kernel_rfl) (fun _ h => by cases h) fnExactCountWorn_row_tie rfl ⟨rfl, rfl⟩ (by kernel_rfl) rfl
    (fun f fn hf hfn => by
      obtain rfl : f = 8 := Option.some.inj ((show Tryd.prog.funcNamed "loop.example/g01350/laws.FnExactCountWorn" = some 8 by kernel_rfl).symm.trans hf) |>.symm
      obtain rfl : fn = Tryd.f8 := (Option.some.inj (Tryd.func8.symm.trans hfn)).symm
      exact ⟨by kernel_rfl, fun j t ht => by
        rw [Tryd.params8] at ht
        have hm : t ∈ #[9, 3] := Array.mem_of_getElem? ht
        have hm : t ∈ [9, 3] := by simpa using hm
        have hall : ([9, 3].all fun u => !Tryd.prog.wantsStandIn u) = true := by kernel_rfl
        exact (show Tryd.prog.wantsStandIn t = false by simpa using List.all_eq_true.1 hall t hm)⟩)
    (by kernel_rfl)
#print axioms card
end Go.Proofs.YtjjmbinhagaifaaDoor.fnExactCountWorn
namespace Go.Proofs.YtjjmbinhagaifaaDoor
theorem fnExactCountWorn_holds : Rows.FnExactCountWornCardSaid := fnExactCountWorn.card
end Go.Proofs.YtjjmbinhagaifaaDoor

