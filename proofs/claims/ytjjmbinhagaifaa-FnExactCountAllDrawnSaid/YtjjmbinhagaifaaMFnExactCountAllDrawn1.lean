/- Part 1 of 1 of the proof of: FnExactCountAllDrawnSaid: the law 'FnExactCountAllDrawn' answers true for every input, and leaves its arguments as they were. The row, over the walk of its calls and the pure statement. -/
import Derived.Test.YtjjmbinhagaifaaProg
import Derived.Below
import Derived.Deep.Draws
import Derived.Deep.AppendLies
import Derived.Maps.AppendAt
import Derived.OwnWalk
import Derived.Laws.BytesArg
import Derived.Laws.MakeOwn
import Derived.Laws.OwnMore
import Derived.Deep.OwnRows
import Derived.Tactics
import Derived.Lib.ConvBytes
import Derived.Laws.Slices
import Derived.WalkKit
import Derived.KernelRfl
import Derived.RowKit3
import Derived.Deep.LoopGhost
import Derived.Deep.QuietTactic
import Derived.BigQuiet
import Derived.WideLaws
import Derived.Deep.DeepCutAuto
import Derived.Deep.CutBlock
import Derived.Deep.RegionHeld3
import Derived.Laws.Rows
import Derived.Lib.AppendStr
import Derived.ArgAppend
import Derived.Laws.IdiomCopy
import Derived.OrdersHeld
import Derived.Laws.BitsLemmas
import Derived.RowKit
import Derived.Laws.Runes
import Derived.Test.YtjjmbinhagaifaaWWords
import Derived.Test.YtjjmbinhagaifaaWLast
import Derived.Test.YtjjmbinhagaifaaWTab
import Derived.Test.YtjjmbinhagaifaaWFour
import Derived.Test.YtjjmbinhagaifaaWQPut
import Derived.Test.YtjjmbinhagaifaaWApart
import Derived.Test.YtjjmbinhagaifaaWArr
import Derived.Test.YtjjmbinhagaifaaWZeros
import Derived.Test.YtjjmbinhagaifaaWFoot
import Derived.Test.YtjjmbinhagaifaaWKept
import Derived.Test.YtjjmbinhagaifaaWShare
import Derived.Test.YtjjmbinhagaifaaWN
import Derived.Test.YtjjmbinhagaifaaWFootNe
import Derived.Test.YtjjmbinhagaifaaWAt
import Derived.Test.YtjjmbinhagaifaaWEqStruct
import Derived.Test.YtjjmbinhagaifaaWRepsOne
import Derived.Test.YtjjmbinhagaifaaWInv
import Derived.Test.YtjjmbinhagaifaaWInvWords
import Derived.Test.YtjjmbinhagaifaaWGuard
import Derived.Test.YtjjmbinhagaifaaWNEv
import Derived.Test.YtjjmbinhagaifaaWMore
import Derived.Ground.NamesProg
import Derived.Shelf.Small.Strs
import Derived.Sort.Row
import Derived.Laws.RangeString
import Derived.Shelf.Abstract
import Derived.Laws.Strings
import Derived.Lib.SlTrimSet
import Derived.Lib.Bytealg
import Derived.ProofKit
import Derived.OpenShut
import Derived.ShutString
import Derived.ChangeOld
import Derived.SizedLaws
import Derived.ChangeSlices
import Derived.SliceStrings
import Derived.Lib.SmallJoins
import Derived.LaidLaws
import Derived.LaidHandle
import Derived.LaidMore
import Derived.Test.YtjjmbinhagaifaaRows
-- printed by xprint.py
namespace Go.Proofs.Ytjjmbinhagaifaa.P
open Go.RowKit Go.Proofs.YtjjmbinhagaifaaW.PrintWords Go.Proofs.YtjjmbinhagaifaaW.PrintLast Go.Proofs.YtjjmbinhagaifaaW.PrintMore
attribute [local go_sem] max2_int min2_int max_two min_two max_three min_three max_four min_four   -- for this text's walks alone
set_option linter.unusedVariables false
set_option linter.unusedSimpArgs false



def errW : Option Int → Value
 | none => .nilIface
 | some c => .iface 0 (.int .i64 c)
theorem errW_none : errW none = .nilIface := rfl
theorem errW_some (c : Int) : errW (some c) = .iface 0 (.int .i64 c) := rfl

theorem info5 : (Try.prog.info? 5).map (fun i => (i.zero, i.size, i.bytes)) = some (some (.int .u8 0), 1, 1) := by kernel_rfl
-- the values' own types

end Go.Proofs.Ytjjmbinhagaifaa.P

-- printed by xprint.py
namespace Go.Proofs.Ytjjmbinhagaifaa.P
open Go.RowKit Go.Proofs.YtjjmbinhagaifaaW.PrintWords Go.Proofs.YtjjmbinhagaifaaW.PrintLast Go.Proofs.YtjjmbinhagaifaaW.PrintMore
attribute [local go_sem] max2_int min2_int max_two min_two max_three min_three max_four min_four   -- for this text's walks alone
set_option linter.unusedVariables false
set_option linter.unusedSimpArgs false

/-! ### impl_in: function 11 -/
def impl_in.f (a0 : Int) (a1 : Int) (a2 : Int) : Option (Bool) := if a0 ≥ a1 then (some (decide (a0 ≤ a2))) else (some false)
set_option maxHeartbeats 8000000 in
set_option maxRecDepth 100000 in
theorem impl_in.calls (a0 : Int) (a1 : Int) (a2 : Int) (r : Bool) (w : World) (h : impl_in.f a0 a1 a2 = some r) :
  Calls Try.prog 11 #[.int .i64 a0, .int .i64 a1, .int .i64 a2] w fun e w' => e = .returned (.bool r) ∧ Drawn0 w w' := by
 have H : (if a0 ≥ a1 then (some (decide (a0 ≤ a2))) else (some false)) = some r := h
 clear h
 by_cases c4 : a0 ≥ a1
 ·
  rw [if_pos c4] at H
  have c4b0 : decide (a1 ≤ a0) = true := decide_eq_true c4
  clear c4
  obtain rfl := Option.some.inj H
  go_enter Try.func11, Try.ntmps11
  go_wp2
  go_ret
  exact ⟨by first | rfl | (simp; done) | (simp [*]; done), by repeat (first | exact Drawn0.refl _ | apply Drawn0.step)⟩
 ·
  rw [if_neg c4] at H
  have c4b0 : decide (a1 ≤ a0) = false := decide_eq_false c4
  clear c4
  obtain rfl := Option.some.inj H
  go_enter Try.func11, Try.ntmps11
  go_wp2
  go_ret
  exact ⟨by first | rfl | (simp; done) | (simp [*]; done), by repeat (first | exact Drawn0.refl _ | apply Drawn0.step)⟩

end Go.Proofs.Ytjjmbinhagaifaa.P

-- printed by xprint.py
namespace Go.Proofs.Ytjjmbinhagaifaa.P
open Go.RowKit Go.Proofs.YtjjmbinhagaifaaW.PrintWords Go.Proofs.YtjjmbinhagaifaaW.PrintLast Go.Proofs.YtjjmbinhagaifaaW.PrintMore
attribute [local go_sem] max2_int min2_int max_two min_two max_three min_three max_four min_four   -- for this text's walks alone
set_option linter.unusedVariables false
set_option linter.unusedSimpArgs false

/-! ### impl_digitAt: function 21 -/
def impl_digitAt.j0 : Nat → Int → Int → Bool → Option (Int)
 | 0, _, _, _ => none
 | k + 1, x0, x1, x5 => if x5 = true then (some 0) else ((impl_in.f x0 0 2).bind fun t101 => (if t101 = true then ((impl_in.f x1 0 2).bind fun t102 => (if t102 = true then (some (wrap64 ((wrap64 ((wrap64 (x1 * 3)) + x0)) + 1))) else (some (-1)))) else (some (-1))))
def impl_digitAt.f (k : Nat) (a0 : Int) (a1 : Int) : Option (Int) := if a0 = 1 then (impl_digitAt.j0 k a0 a1 (a1 == 3)) else (impl_digitAt.j0 k a0 a1 false)
theorem impl_digitAt.mono_l : ∀ k, (∀ y0 y1 y2, LeO (impl_digitAt.j0 k y0 y1 y2) (impl_digitAt.j0 (k + 1) y0 y1 y2))
 | 0 => by intros; intro r h; simp [impl_digitAt.j0] at h
 | k + 1 => by
  have ih0 := impl_digitAt.mono_l k
  ·
   intro y0 y1 y2
   unfold impl_digitAt.j0
   repeat' first
   | (with_reducible exact ih0 _ _ _)
   | (with_reducible exact LeO.refl _)
   | (with_reducible exact LeO.none _)
   | (with_reducible refine LeO.ite ?_ ?_)
   | (with_reducible refine LeO.bind ?_ (fun _ => ?_))
   | exact ih0 _ _ _
   | exact LeO.none _
   | refine LeO.ite ?_ ?_
   | refine LeO.bind ?_ (fun _ => ?_)
theorem impl_digitAt.mono : ∀ y0 y1 k, LeO (impl_digitAt.f k y0 y1) (impl_digitAt.f (k + 1) y0 y1) := by
 intro y0 y1 k
 have ih0 := impl_digitAt.mono_l k
 unfold impl_digitAt.f
 repeat' first
   | (with_reducible exact ih0 _ _ _)
   | (with_reducible exact LeO.refl _)
   | (with_reducible exact LeO.none _)
   | (with_reducible refine LeO.ite ?_ ?_)
   | (with_reducible refine LeO.bind ?_ (fun _ => ?_))
   | exact ih0 _ _ _
   | exact LeO.none _
   | refine LeO.ite ?_ ?_
   | refine LeO.bind ?_ (fun _ => ?_)
set_option maxHeartbeats 8000000 in
set_option maxRecDepth 100000 in
theorem impl_digitAt.calls (k : Nat) (a0 : Int) (a1 : Int) (r : Int) (w : World) (h : impl_digitAt.f k a0 a1 = some r) :
  Calls Try.prog 21 #[.int .i64 a0, .int .i64 a1] w fun e w' => e = .returned (.int .i64 r) ∧ Drawn0 w w' := by
 have H : (if a0 = 1 then (impl_digitAt.j0 k a0 a1 (a1 == 3)) else (impl_digitAt.j0 k a0 a1 false)) = some r := h
 clear h
 have HC3 := Aside0.mk H
 clear H
 go_enter Try.func21, Try.ntmps21
 go_upto_region 1 with (fail)
 go_cut [5] (fun v5 wc => ∃ (kq : Nat) (x5_2 : Bool), v5 = .bool x5_2 ∧ Aside0 (impl_digitAt.j0 kq a0 a1 x5_2 = some r) ∧ Aside0 (kq ≤ k) ∧ Drawn0 w wc)
 case first =>
  have H := HC3.out
  clear HC3
  by_cases c4 : a0 = 1
  ·
   rw [if_pos c4] at H
   have c4b0 : (a0 == 1) = true := beq_iff_eq.mpr c4
   have c4b1 : (a0 != 1) = false := bne_eq_false_iff_eq.mpr c4
   clear c4
   (first | rw [c4b0] | (simp only [i64_w, i32_w]; rw [c4b0]) | skip)
   have H' := Aside0.mk H
   clear H
   go_wp2
   go_meet
   case rel => exact ⟨_, ((a1 == 3)), (by first | rfl | (simp; done) | (simp [*]; done)), H', ⟨by first | omega | exact Nat.le_refl _⟩, by repeat (first | exact Drawn0.refl _ | apply Drawn0.step)⟩
  ·
   rw [if_neg c4] at H
   have c4b0 : (a0 == 1) = false := beq_eq_false_iff_ne.mpr c4
   have c4b1 : (a0 != 1) = true := bne_iff_ne.mpr c4
   (first | rw [c4b0] | (simp only [i64_w, i32_w]; rw [c4b0]) | skip)
   have H' := Aside0.mk H
   clear H
   go_wp2
   go_meet
   case rel => exact ⟨_, (false), (by first | rfl | (simp; done) | (simp [*]; done)), H', ⟨by first | omega | exact Nat.le_refl _⟩, by repeat (first | exact Drawn0.refl _ | apply Drawn0.step)⟩
 case rest =>
  clear HC3
  try clear c2
  try clear p2
  try clear c4
  try clear c4b0
  try clear c4b1
  obtain ⟨kq, x5_2, rfl, HA, HJ2, ⟨mc2, rfl⟩⟩ := hcut
  cases kq with
  | zero => exact absurd HA.out (by simp [impl_digitAt.j0])
  | succ kj2 =>
   have H := HA.out
   clear HA
   simp only [impl_digitAt.j0] at H
   by_cases c5 : x5_2 = true
   ·
    subst c5
    have H1 : (some 0) = some r := by rw [if_pos rfl] at H; exact H
    clear H
    have H := H1
    clear H1
    obtain rfl := Option.some.inj H
    go_wp2
    go_ret
    exact ⟨by first | rfl | (simp; done) | (simp [*]; done), by repeat (first | exact Drawn0.refl _ | apply Drawn0.step)⟩
   ·
    replace c5 := Bool.eq_false_iff.mpr c5
    subst c5
    have H1 : ((impl_in.f a0 0 2).bind fun t101 => (if t101 = true then ((impl_in.f a1 0 2).bind fun t102 => (if t102 = true then (some (wrap64 ((wrap64 ((wrap64 (a1 * 3)) + a0)) + 1))) else (some (-1)))) else (some (-1)))) = some r := by rw [if_neg (show ¬ (false = true) by decide)] at H; exact H
    clear H
    have H := H1
    clear H1
    replace H := Option.bind_eq_some_iff.mp H
    obtain ⟨t101, A60, H⟩ := H
    replace H : (if t101 = true then ((impl_in.f a1 0 2).bind fun t102 => (if t102 = true then (some (wrap64 ((wrap64 ((wrap64 (a1 * 3)) + a0)) + 1))) else (some (-1)))) else (some (-1))) = some r := H
    have A6 := Aside0.mk A60
    clear A60
    by_cases c7 : t101 = true
    ·
     subst c7
     have H1 : ((impl_in.f a1 0 2).bind fun t102 => (if t102 = true then (some (wrap64 ((wrap64 ((wrap64 (a1 * 3)) + a0)) + 1))) else (some (-1)))) = some r := by rw [if_pos rfl] at H; exact H
     clear H
     have H := H1
     clear H1
     replace H := Option.bind_eq_some_iff.mp H
     obtain ⟨t102, A80, H⟩ := H
     replace H : (if t102 = true then (some (wrap64 ((wrap64 ((wrap64 (a1 * 3)) + a0)) + 1))) else (some (-1))) = some r := H
     have A8 := Aside0.mk A80
     clear A80
     by_cases c9 : t102 = true
     ·
      subst c9
      have H1 : (some (wrap64 ((wrap64 ((wrap64 (a1 * 3)) + a0)) + 1))) = some r := by rw [if_pos rfl] at H; exact H
      clear H
      have H := H1
      clear H1
      obtain rfl := Option.some.inj H
      go_wp2_with (first | ((with_reducible refine gate_callee (f := 11) rfl ?_); refine goesL_ (some 14) rfl rfl Try.func11 (by kernel_rfl) rfl #[.int .i64 a0, .int .i64 0, .int .i64 2] rfl (by (try simp only [List.map_toArray, List.map_cons, List.map_nil]); first | done | rfl | (simp only [List.length_drop, List.length_take]; rfl)) ?_; (with_reducible refine (impl_in.calls a0 0 2 true _ A6.out).mono ?_); rintro e w' ⟨rfl, ⟨nd, rfl⟩⟩; refine ⟨_, rfl, ?_⟩) | (go_at_call 11; (with_reducible refine (impl_in.calls a1 0 2 true _ A8.out).mono ?_); rintro e w' ⟨rfl, ⟨nd, rfl⟩⟩))
      go_ret
      exact ⟨by first | rfl | (simp; done) | (simp [*]; done), by repeat (first | exact Drawn0.refl _ | apply Drawn0.step)⟩
     ·
      replace c9 := Bool.eq_false_iff.mpr c9
      subst c9
      have H1 : (some (-1)) = some r := by rw [if_neg (show ¬ (false = true) by decide)] at H; exact H
      clear H
      have H := H1
      clear H1
      obtain rfl := Option.some.inj H
      go_wp2_with (first | ((with_reducible refine gate_callee (f := 11) rfl ?_); refine goesL_ (some 14) rfl rfl Try.func11 (by kernel_rfl) rfl #[.int .i64 a0, .int .i64 0, .int .i64 2] rfl (by (try simp only [List.map_toArray, List.map_cons, List.map_nil]); first | done | rfl | (simp only [List.length_drop, List.length_take]; rfl)) ?_; (with_reducible refine (impl_in.calls a0 0 2 true _ A6.out).mono ?_); rintro e w' ⟨rfl, ⟨nd, rfl⟩⟩; refine ⟨_, rfl, ?_⟩) | (go_at_call 11; (with_reducible refine (impl_in.calls a1 0 2 false _ A8.out).mono ?_); rintro e w' ⟨rfl, ⟨nd, rfl⟩⟩))
      go_ret
      exact ⟨by first | rfl | (simp; done) | (simp [*]; done), by repeat (first | exact Drawn0.refl _ | apply Drawn0.step)⟩
    ·
     replace c7 := Bool.eq_false_iff.mpr c7
     subst c7
     have H1 : (some (-1)) = some r := by rw [if_neg (show ¬ (false = true) by decide)] at H; exact H
     clear H
     have H := H1
     clear H1
     obtain rfl := Option.some.inj H
     go_wp2_with (first | ((with_reducible refine gate_callee (f := 11) rfl ?_); refine goesL_ (some 14) rfl rfl Try.func11 (by kernel_rfl) rfl #[.int .i64 a0, .int .i64 0, .int .i64 2] rfl (by (try simp only [List.map_toArray, List.map_cons, List.map_nil]); first | done | rfl | (simp only [List.length_drop, List.length_take]; rfl)) ?_; (with_reducible refine (impl_in.calls a0 0 2 false _ A6.out).mono ?_); rintro e w' ⟨rfl, ⟨nd, rfl⟩⟩; refine ⟨_, rfl, ?_⟩))
     go_ret
     exact ⟨by first | rfl | (simp; done) | (simp [*]; done), by repeat (first | exact Drawn0.refl _ | apply Drawn0.step)⟩

end Go.Proofs.Ytjjmbinhagaifaa.P

-- printed by xprint.py
namespace Go.Proofs.Ytjjmbinhagaifaa.P
open Go.RowKit Go.Proofs.YtjjmbinhagaifaaW.PrintWords Go.Proofs.YtjjmbinhagaifaaW.PrintLast Go.Proofs.YtjjmbinhagaifaaW.PrintMore
attribute [local go_sem] max2_int min2_int max_two min_two max_three min_three max_four min_four   -- for this text's walks alone
set_option linter.unusedVariables false
set_option linter.unusedSimpArgs false

/-! ### impl_digit: function 24 -/
def impl_digit.f (a0 : Int) : Option (Int) := some ((a0 - 48) % 256)
set_option maxHeartbeats 8000000 in
set_option maxRecDepth 100000 in
theorem impl_digit.calls (a0 : Int) (r : Int) (w : World) (h : impl_digit.f a0 = some r) :
  Calls Try.prog 24 #[.int .u8 a0] w fun e w' => e = .returned (.int .i64 r) ∧ Drawn0 w w' := by
 have H : (some ((a0 - 48) % 256)) = some r := h
 clear h
 obtain rfl := Option.some.inj H
 go_enter Try.func24, Try.ntmps24
 go_wp2
 go_ret
 exact ⟨by first | rfl | (simp; done) | (simp [*]; done), by repeat (first | exact Drawn0.refl _ | apply Drawn0.step)⟩

end Go.Proofs.Ytjjmbinhagaifaa.P

-- printed by xprint.py
namespace Go.Proofs.Ytjjmbinhagaifaa.P
open Go.RowKit Go.Proofs.YtjjmbinhagaifaaW.PrintWords Go.Proofs.YtjjmbinhagaifaaW.PrintLast Go.Proofs.YtjjmbinhagaifaaW.PrintMore
attribute [local go_sem] max2_int min2_int max_two min_two max_three min_three max_four min_four   -- for this text's walks alone
set_option linter.unusedVariables false
set_option linter.unusedSimpArgs false

/-! ### impl_spot: function 23 -/
def impl_spot.f (a0 : Int) : Option (Int × Int) := if a0 = 0 then (some (1, 3)) else (some (Int.tmod (wrap64 (a0 - 1)) 3, wrap64 (Int.tdiv (wrap64 (a0 - 1)) 3)))
set_option maxHeartbeats 8000000 in
set_option maxRecDepth 100000 in
theorem impl_spot.calls (a0 : Int) (r1 : Int) (r2 : Int) (w : World) (h : impl_spot.f a0 = some (r1, r2)) :
  Calls Try.prog 23 #[.int .i64 a0] w fun e w' => e = .returned (.tuple #[.int .i64 r1, .int .i64 r2]) ∧ Drawn0 w w' := by
 have H : (if a0 = 0 then (some (1, 3)) else (some (Int.tmod (wrap64 (a0 - 1)) 3, wrap64 (Int.tdiv (wrap64 (a0 - 1)) 3)))) = some (r1, r2) := h
 clear h
 by_cases c2 : a0 = 0
 ·
  rw [if_pos c2] at H
  have c2b0 : (a0 == 0) = true := beq_iff_eq.mpr c2
  have c2b1 : (a0 != 0) = false := bne_eq_false_iff_eq.mpr c2
  clear c2
  simp only [Option.some.injEq, Prod.mk.injEq] at H
  obtain ⟨rfl, rfl⟩ := H
  go_enter Try.func23, Try.ntmps23
  go_wp2
  go_ret2
  exact ⟨by first | rfl | (simp; done) | (simp [*]; done), by repeat (first | exact Drawn0.refl _ | apply Drawn0.step)⟩
 ·
  rw [if_neg c2] at H
  have c2b0 : (a0 == 0) = false := beq_eq_false_iff_ne.mpr c2
  have c2b1 : (a0 != 0) = true := bne_iff_ne.mpr c2
  simp only [Option.some.injEq, Prod.mk.injEq] at H
  obtain ⟨rfl, rfl⟩ := H
  go_enter Try.func23, Try.ntmps23
  go_wp2
  go_ret2
  exact ⟨by first | rfl | (simp; done) | (simp [*]; done), by repeat (first | exact Drawn0.refl _ | apply Drawn0.step)⟩

end Go.Proofs.Ytjjmbinhagaifaa.P

-- printed by xprint.py
namespace Go.Proofs.Ytjjmbinhagaifaa.P
open Go.RowKit Go.Proofs.YtjjmbinhagaifaaW.PrintWords Go.Proofs.YtjjmbinhagaifaaW.PrintLast Go.Proofs.YtjjmbinhagaifaaW.PrintMore
attribute [local go_sem] max2_int min2_int max_two min_two max_three min_three max_four min_four   -- for this text's walks alone
set_option linter.unusedVariables false
set_option linter.unusedSimpArgs false

/-! ### impl_spotOf: function 20 -/
def impl_spotOf.f (a0 : Int) : Option (Int × Int) := (impl_digit.f a0).bind fun t102 => ((impl_spot.f t102).bind fun bt103 => (some (bt103.1, bt103.2)))
set_option maxHeartbeats 8000000 in
set_option maxRecDepth 100000 in
theorem impl_spotOf.calls (a0 : Int) (r1 : Int) (r2 : Int) (w : World) (h : impl_spotOf.f a0 = some (r1, r2)) :
  Calls Try.prog 20 #[.int .u8 a0] w fun e w' => e = .returned (.agg #[.int .i64 r1, .int .i64 r2]) ∧ Below w.heap.size w w' := by
 have hu34 := Try.underlying34
 have HB := Aside0.mk (Below.refl w.heap.size w)
 have H : ((impl_digit.f a0).bind fun t102 => ((impl_spot.f t102).bind fun bt103 => (some (bt103.1, bt103.2)))) = some (r1, r2) := h
 clear h
 replace H := Option.bind_eq_some_iff.mp H
 obtain ⟨t102, A20, H⟩ := H
 replace H : ((impl_spot.f t102).bind fun bt103 => (some (bt103.1, bt103.2))) = some (r1, r2) := H
 have A2 := Aside0.mk A20
 clear A20
 replace H := Option.bind_eq_some_iff.mp H
 obtain ⟨⟨t103, t104⟩, A30, H⟩ := H
 replace H : (some (t103, t104)) = some (r1, r2) := H
 have A3 := Aside0.mk A30
 clear A30
 simp only [Option.some.injEq, Prod.mk.injEq] at H
 obtain ⟨rfl, rfl⟩ := H
 go_enter Try.func20, Try.ntmps20
 go_wp2_with (first | ((with_reducible refine gate_dst (N := 2) rfl ?_); refine box_event ?hg (N := 2) ?hd (cs := #[.int .i64 0, .int .i64 0]) (t := 34) ?hr ?_; (case hd => rfl); (case hg => rfl); (case hr => first | (go_simp; done) | (go_simp; rfl)); intro gb101 hg w4 hbox hb; have n0_ := Aside0.mk (below_step (by repeat (first | (with_reducible first | exact HB.out | apply below_alloc | apply pw_below_drewN | apply below_drew1) | exact HB.out)) hb); have n1_ := Aside0.mk (hbox); have n2_ := Aside0.mk ((by rw [hg]; exact (below_size (by repeat (first | (with_reducible first | exact HB.out | apply below_alloc | apply pw_below_drewN | apply below_drew1) | exact HB.out))) : w.heap.size ≤ gb101)); have n3_ := Aside0.mk ((by rw [hg]; exact (below_size (by repeat (first | (with_reducible first | exact HB.out | apply below_alloc | apply pw_below_drewN | apply below_drew1) | exact HB.out))) : w.heap.size ≤ gb101)); clear HB; have HB := n0_; have BK101 := n1_; have GW101 := n2_; have GE101 := n3_; clear n0_ n1_ n2_ n3_; clear hb hbox hg) | ((with_reducible refine gate_callee (f := 24) rfl ?_); refine goesL_ (some 7) rfl rfl Try.func24 (by kernel_rfl) rfl #[.int .u8 a0] rfl (by (try simp only [List.map_toArray, List.map_cons, List.map_nil]); first | done | rfl | (simp only [List.length_drop, List.length_take]; rfl)) ?_; (with_reducible refine (impl_digit.calls a0 t102 _ A2.out).mono ?_); rintro e w' ⟨rfl, ⟨nd, rfl⟩⟩; refine ⟨_, rfl, ?_⟩; (try (rw [drewN_self w4]; generalize hq_ : World.drewN w4 _ = w4; have n0_ : Aside0 (w4.heap[gb101]? = some (.cells #[.int .i64 0, .int .i64 0] 34 (0, 0))) := ⟨by rw [← hq_]; exact (by (with_reducible repeat (first | refine blk_drewN ?_ _ | refine blk_drew ?_ | refine blk_alloc ?_ _)); exact BK101.out)⟩; have n1_ : Aside0 (Below w.heap.size w w4) := ⟨by rw [← hq_]; exact (by repeat (first | (with_reducible first | exact HB.out | apply below_alloc | apply pw_below_drewN | apply below_drew1 | refine below_set ?_ GE101.out) | exact HB.out))⟩; clear BK101 HB hq_; have BK101 := n0_; have HB := n1_; clear n0_ n1_))) | ((with_reducible refine gate_callee (f := 23) rfl ?_); refine goesL_ (some 8) rfl rfl Try.func23 (by kernel_rfl) rfl #[.int .i64 t102] rfl (by (try simp only [List.map_toArray, List.map_cons, List.map_nil]); first | done | rfl | (simp only [List.length_drop, List.length_take]; rfl)) ?_; (with_reducible refine (impl_spot.calls t102 t103 t104 _ A3.out).mono ?_); rintro e w' ⟨rfl, ⟨nd, rfl⟩⟩; refine ⟨_, rfl, ?_⟩; (try (rw [drewN_self w4]; generalize hq_ : World.drewN w4 _ = w4; have n0_ : Aside0 (w4.heap[gb101]? = some (.cells #[.int .i64 0, .int .i64 0] 34 (0, 0))) := ⟨by rw [← hq_]; exact (by (with_reducible repeat (first | refine blk_drewN ?_ _ | refine blk_drew ?_ | refine blk_alloc ?_ _)); exact BK101.out)⟩; have n1_ : Aside0 (Below w.heap.size w w4) := ⟨by rw [← hq_]; exact (by repeat (first | (with_reducible first | exact HB.out | apply below_alloc | apply pw_below_drewN | apply below_drew1 | refine below_set ?_ GE101.out) | exact HB.out))⟩; clear BK101 HB hq_; have BK101 := n0_; have HB := n1_; clear n0_ n1_)); have hcz5_0 : w4.cell? ⟨gb101, 0, none⟩ = some (.int .i64 0) := (blk_cell BK101.out 0).trans rfl; have hcz5_1 : w4.cell? ⟨gb101, 1, none⟩ = some (.int .i64 0) := (blk_cell BK101.out 1).trans rfl; have hfz5_0 := blk_frozen BK101.out 0; have hfz5_1 := blk_frozen BK101.out 1))
 refine bodyPost_ret (results_cell_row rfl _ _ gb101 34 #[.int .i64 t103, .int .i64 t104] (0, 0) _ rfl (by (with_reducible repeat (first | refine blk_drewN ?_ _ | refine blk_drew ?_ | refine blk_alloc ?_ _)); refine blk_put (cs := #[.int .i64 t103, .int .i64 0]) ?_ 1 _ rfl; (with_reducible repeat (first | refine blk_drewN ?_ _ | refine blk_drew ?_ | refine blk_alloc ?_ _)); refine blk_put (cs := #[.int .i64 0, .int .i64 0]) ?_ 0 _ rfl; (with_reducible repeat (first | refine blk_drewN ?_ _ | refine blk_drew ?_ | refine blk_alloc ?_ _)); exact BK101.out) Try.underlying34 rfl (by kernel_rfl)) rfl ?_
 exact ⟨by first | rfl | (simp [errW_none, errW_some] <;> rfl) | (simp [*, errW_none, errW_some] <;> rfl), by repeat (first | (with_reducible first | exact HB.out | apply below_alloc | apply pw_below_drewN | apply below_drew1 | refine below_set ?_ GE101.out) | exact HB.out)⟩

end Go.Proofs.Ytjjmbinhagaifaa.P

-- printed by xprint.py
namespace Go.Proofs.Ytjjmbinhagaifaa.P
open Go.RowKit Go.Proofs.YtjjmbinhagaifaaW.PrintWords Go.Proofs.YtjjmbinhagaifaaW.PrintLast Go.Proofs.YtjjmbinhagaifaaW.PrintMore
attribute [local go_sem] max2_int min2_int max_two min_two max_three min_three max_four min_four   -- for this text's walks alone
set_option linter.unusedVariables false
set_option linter.unusedSimpArgs false

/-! ### strings_IndexByte: function 17 -/
def strings_IndexByte.f (a0 : ByteArray) (a1 : Int) : Option Int := some (Lib.indexByte a0.data.toList a1.toNat.toUInt8)
end Go.Proofs.Ytjjmbinhagaifaa.P
namespace Go.Proofs
open Go.Shelf
def YtjjmbinhagaifaalaysIndexByte_ren : Go.Shelf.Ren := ⟨fun | 137 => 17 | 217 => 19 | 266 => 22 | n => n, fun | 9 => 9 | 5 => 5 | 3 => 3 | n => n, fun | n => n⟩
theorem YtjjmbinhagaifaalaysIndexByte : Go.Proofs.Lays.n137 Try.prog YtjjmbinhagaifaalaysIndexByte_ren := {
  mixed := by kernel_rfl
  f137 := Try.func17.trans (congrArg some (by kernel_rfl))
  f217 := Try.func19.trans (congrArg some (by kernel_rfl))
  f266 := Try.func22.trans (congrArg some (by kernel_rfl))
  t3 := Try.underlying3
  a3 := Try.isAgg3
  z3 := Try.sizeOf3
  v3 := Try.zeroValue3
  t5 := Try.underlying5
  a5 := Try.isAgg5
  z5 := Try.sizeOf5
  v5 := Try.zeroValue5
  t9 := Try.underlying9
  a9 := Try.isAgg9
  z9 := Try.sizeOf9
  v9 := Try.zeroValue9 }
end Go.Proofs
namespace Go.Proofs.Ytjjmbinhagaifaa.P
open Go.RowKit Go.Proofs.YtjjmbinhagaifaaW.PrintWords Go.Proofs.YtjjmbinhagaifaaW.PrintLast Go.Proofs.YtjjmbinhagaifaaW.PrintMore
theorem strings_IndexByte.calls (a0 : ByteArray) (a1 : Int) (r : Int) (w : World) (h : strings_IndexByte.f a0 a1 = some r) :
  Calls Try.prog 17 #[.string a0, .int .u8 a1] w fun e w' => e = .returned (.int .i64 r) ∧ Drawn0 w w' := by
 obtain rfl := Option.some.inj h
 have hcon := Any.strings_IndexByte YtjjmbinhagaifaalaysIndexByte a0 a1 w
 change Calls Try.prog 17 _ _ _ at hcon
 exact hcon.mono fun e w' he => ⟨he.1, by rw [he.2]; exact Drawn0.refl _⟩

end Go.Proofs.Ytjjmbinhagaifaa.P

-- printed by xprint.py
namespace Go.Proofs.Ytjjmbinhagaifaa.P
open Go.RowKit Go.Proofs.YtjjmbinhagaifaaW.PrintWords Go.Proofs.YtjjmbinhagaifaaW.PrintLast Go.Proofs.YtjjmbinhagaifaaW.PrintMore
attribute [local go_sem] max2_int min2_int max_two min_two max_three min_three max_four min_four   -- for this text's walks alone
set_option linter.unusedVariables false
set_option linter.unusedSimpArgs false

/-! ### impl_canFollow: function 18 -/
def impl_canFollow.j0 : Nat → ByteArray → Bool → Int → Int → Int → Int → Option (Bool)
 | 0, _, _, _, _, _, _ => none
 | k + 1, x0, x33, x106000, x106001, x107000, x107001 => if x33 = true then (some true) else ((impl_digitAt.f k (wrap64 (Int.tdiv (wrap64 (x106000 + x107000)) 2)) (wrap64 (Int.tdiv (wrap64 (x106001 + x107001)) 2))).bind fun t107 => (if 0 ≤ t107 then (if t107 < 10 then ((strings_IndexByte.f x0 (bt (⟨#[48, 49, 50, 51, 52, 53, 54, 55, 56, 57]⟩ : ByteArray) t107)).bind fun t108 => (some (decide (t108 ≥ 0)))) else (none)) else (none)))
def impl_canFollow.f (k : Nat) (a0 : ByteArray) (a1 : Int) : Option (Bool) := if a0.toList = ([] : List UInt8) then (some true) else (if 0 ≤ (wrap64 ((a0.size : Int) - 1)) then (if (wrap64 ((a0.size : Int) - 1)) < (a0.size : Int) then ((impl_spotOf.f (bt a0 (wrap64 ((a0.size : Int) - 1)))).bind fun bt101 => ((impl_spotOf.f a1).bind fun bt103 => (if (Int.tmod (wrap64 (bt101.1 + bt103.1)) 2) = 0 then (impl_canFollow.j0 k a0 ((Int.tmod (wrap64 (bt101.2 + bt103.2)) 2) != 0) bt101.1 bt101.2 bt103.1 bt103.2) else (impl_canFollow.j0 k a0 true bt101.1 bt101.2 bt103.1 bt103.2)))) else (none)) else (none))
theorem impl_canFollow.mono_l : ∀ k, (∀ y0 y1 y2 y3 y4 y5, LeO (impl_canFollow.j0 k y0 y1 y2 y3 y4 y5) (impl_canFollow.j0 (k + 1) y0 y1 y2 y3 y4 y5))
 | 0 => by intros; intro r h; simp [impl_canFollow.j0] at h
 | k + 1 => by
  have ih0 := impl_canFollow.mono_l k
  ·
   intro y0 y1 y2 y3 y4 y5
   unfold impl_canFollow.j0
   repeat' first
   | (with_reducible exact ih0 _ _ _ _ _ _)
   | (with_reducible exact impl_digitAt.mono _ _ _)
   | (with_reducible exact LeO.refl _)
   | (with_reducible exact LeO.none _)
   | (with_reducible refine LeO.ite ?_ ?_)
   | (with_reducible refine LeO.bind ?_ (fun _ => ?_))
   | exact ih0 _ _ _ _ _ _
   | exact impl_digitAt.mono _ _ _
   | exact LeO.none _
   | refine LeO.ite ?_ ?_
   | refine LeO.bind ?_ (fun _ => ?_)
theorem impl_canFollow.mono : ∀ y0 y1 k, LeO (impl_canFollow.f k y0 y1) (impl_canFollow.f (k + 1) y0 y1) := by
 intro y0 y1 k
 have ih0 := impl_canFollow.mono_l k
 unfold impl_canFollow.f
 repeat' first
   | (with_reducible exact ih0 _ _ _ _ _ _)
   | (with_reducible exact impl_digitAt.mono _ _ _)
   | (with_reducible exact LeO.refl _)
   | (with_reducible exact LeO.none _)
   | (with_reducible refine LeO.ite ?_ ?_)
   | (with_reducible refine LeO.bind ?_ (fun _ => ?_))
   | exact ih0 _ _ _ _ _ _
   | exact impl_digitAt.mono _ _ _
   | exact LeO.none _
   | refine LeO.ite ?_ ?_
   | refine LeO.bind ?_ (fun _ => ?_)
set_option maxHeartbeats 8000000 in
set_option maxRecDepth 100000 in
theorem impl_canFollow.calls (k : Nat) (a0 : ByteArray) (a1 : Int) (r : Bool) (w : World) (h : impl_canFollow.f k a0 a1 = some r) :
  Calls Try.prog 18 #[.string a0, .int .u8 a1] w fun e w' => e = .returned (.bool r) ∧ Below w.heap.size w w' := by
 have hu34 := Try.underlying34
 have HB := Aside0.mk (Below.refl w.heap.size w)
 have H : (if a0.toList = ([] : List UInt8) then (some true) else (if 0 ≤ (wrap64 ((a0.size : Int) - 1)) then (if (wrap64 ((a0.size : Int) - 1)) < (a0.size : Int) then ((impl_spotOf.f (bt a0 (wrap64 ((a0.size : Int) - 1)))).bind fun bt101 => ((impl_spotOf.f a1).bind fun bt103 => (if (Int.tmod (wrap64 (bt101.1 + bt103.1)) 2) = 0 then (impl_canFollow.j0 k a0 ((Int.tmod (wrap64 (bt101.2 + bt103.2)) 2) != 0) bt101.1 bt101.2 bt103.1 bt103.2) else (impl_canFollow.j0 k a0 true bt101.1 bt101.2 bt103.1 bt103.2)))) else (none)) else (none))) = some r := h
 clear h
 by_cases c3 : a0.toList = ([] : List UInt8)
 ·
  rw [if_pos c3] at H
  have c3b0 : (a0.toList == ([] : List UInt8)) = true := beq_iff_eq.mpr c3
  have c3b1 : (a0.toList != ([] : List UInt8)) = false := bne_eq_false_iff_eq.mpr c3
  clear c3
  obtain rfl := Option.some.inj H
  go_enter Try.func18, Try.ntmps18
  go_wp2
  go_ret
  exact ⟨by first | rfl | (simp [errW_none, errW_some] <;> rfl) | (simp [*, errW_none, errW_some] <;> rfl), by repeat (first | (with_reducible first | exact HB.out | apply below_alloc | apply pw_below_drewN | apply below_drew1) | exact HB.out)⟩
 ·
  rw [if_neg c3] at H
  have c3b0 : (a0.toList == ([] : List UInt8)) = false := beq_eq_false_iff_ne.mpr c3
  have c3b1 : (a0.toList != ([] : List UInt8)) = true := bne_iff_ne.mpr c3
  obtain ⟨ji4, hji4⟩ : ∃ j_ : Int, (wrap64 ((a0.size : Int) - 1)) = j_ := ⟨_, rfl⟩
  replace H : (if 0 ≤ (ji4) then (if (ji4) < (a0.size : Int) then ((impl_spotOf.f (bt a0 (ji4))).bind fun bt101 => ((impl_spotOf.f a1).bind fun bt103 => (if (Int.tmod (wrap64 (bt101.1 + bt103.1)) 2) = 0 then (impl_canFollow.j0 k a0 ((Int.tmod (wrap64 (bt101.2 + bt103.2)) 2) != 0) bt101.1 bt101.2 bt103.1 bt103.2) else (impl_canFollow.j0 k a0 true bt101.1 bt101.2 bt103.1 bt103.2)))) else (none)) else (none)) = some r := by first | (rw [hji4] at H; exact H) | (simp only [hji4] at H ⊢; exact H)
  have hji4w : (IntKind.i64.wrap ((a0.size : Int) - 1)) = ji4 := (i64_w _).trans hji4
  by_cases c5 : 0 ≤ (ji4)
  ·
   rw [if_pos c5] at H
   have c5b0 : decide (0 ≤ (ji4)) = true := decide_eq_true c5
   clear c5
   by_cases c6 : (ji4) < (a0.size : Int)
   ·
    rw [if_pos c6] at H
    have c6b0 : decide ((ji4) < (a0.size : Int)) = true := decide_eq_true c6
    clear c6
    replace H := Option.bind_eq_some_iff.mp H
    obtain ⟨⟨t101, t102⟩, A80, H⟩ := H
    replace H : ((impl_spotOf.f a1).bind fun bt103 => (if (Int.tmod (wrap64 (t101 + bt103.1)) 2) = 0 then (impl_canFollow.j0 k a0 ((Int.tmod (wrap64 (t102 + bt103.2)) 2) != 0) t101 t102 bt103.1 bt103.2) else (impl_canFollow.j0 k a0 true t101 t102 bt103.1 bt103.2))) = some r := H
    have A8 := Aside0.mk A80
    clear A80
    replace H := Option.bind_eq_some_iff.mp H
    obtain ⟨⟨t103, t104⟩, A90, H⟩ := H
    replace H : (if (Int.tmod (wrap64 (t101 + t103)) 2) = 0 then (impl_canFollow.j0 k a0 ((Int.tmod (wrap64 (t102 + t104)) 2) != 0) t101 t102 t103 t104) else (impl_canFollow.j0 k a0 true t101 t102 t103 t104)) = some r := H
    have A9 := Aside0.mk A90
    clear A90
    have HC10 := Aside0.mk H
    clear H
    have p7 : 0 ≤ ((ji4) : Int) := of_decide_eq_true (by first | (with_reducible assumption) | assumption)
    have q7 : (ji4) < (a0.size : Int) := of_decide_eq_true (by first | (with_reducible assumption) | assumption)
    have hx7 := bt_at a0 (ji4)
    replace p7 := eq_true p7
    replace q7 := eq_true q7
    go_enter Try.func18, Try.ntmps18
    go_upto_region 4 with (first | ((with_reducible refine gate_callee (f := 20) rfl ?_); refine goesL_ (some 15) rfl rfl Try.func20 (by kernel_rfl) rfl #[.int .u8 (bt a0 (ji4))] rfl (by (try simp only [List.map_toArray, List.map_cons, List.map_nil]); first | done | (simp only [hji4]; rfl) | rfl | (simp only [List.length_drop, List.length_take]; rfl)) ?_; (with_reducible refine (impl_spotOf.calls (bt a0 (ji4)) t101 t102 _ A8.out).mono ?_); rintro e w11 ⟨rfl, hb⟩; refine ⟨_, rfl, ?_⟩; have n0_ := Aside0.mk (below_step (by repeat (first | (with_reducible first | exact HB.out | apply below_alloc | apply pw_below_drewN | apply below_drew1) | exact HB.out)) hb); clear HB; have HB := n0_; clear n0_; (try clear hb); (try clear hb2); (try clear hk); (try clear hi)) | ((with_reducible refine gate_callee (f := 20) rfl ?_); refine goesL_ (some 17) rfl rfl Try.func20 (by kernel_rfl) rfl #[.int .u8 a1] rfl (by (try simp only [List.map_toArray, List.map_cons, List.map_nil]); first | done | rfl | (simp only [List.length_drop, List.length_take]; rfl)) ?_; (with_reducible refine (impl_spotOf.calls a1 t103 t104 _ A9.out).mono ?_); rintro e w12 ⟨rfl, hb⟩; refine ⟨_, rfl, ?_⟩; have n0_ := Aside0.mk (below_step (by repeat (first | (with_reducible first | exact HB.out | apply below_alloc | apply pw_below_drewN | apply below_drew1) | exact HB.out)) hb); clear HB; have HB := n0_; clear n0_; (try clear hb); (try clear hb2); (try clear hk); (try clear hi)) | ((with_reducible refine gate_dst (N := 5) rfl ?_); refine box_event ?hg (N := 5) ?hd (cs := #[.int .i64 0, .int .i64 0]) (t := 34) ?hr ?_; (case hd => rfl); (case hg => rfl); (case hr => first | (go_simp; done) | (go_simp; rfl)); intro gb105 hg w13 hbox hb; have n0_ := Aside0.mk (below_step (by repeat (first | (with_reducible first | exact HB.out | apply below_alloc | apply pw_below_drewN | apply below_drew1) | exact HB.out)) hb); have n1_ := Aside0.mk (hbox); have n2_ := Aside0.mk ((by rw [hg]; exact (below_size (by repeat (first | (with_reducible first | exact HB.out | apply below_alloc | apply pw_below_drewN | apply below_drew1) | exact HB.out))) : w.heap.size ≤ gb105)); have n3_ := Aside0.mk ((by rw [hg]; exact (below_size (by repeat (first | (with_reducible first | exact HB.out | apply below_alloc | apply pw_below_drewN | apply below_drew1) | exact HB.out))) : w.heap.size ≤ gb105)); clear HB; have HB := n0_; have BK105 := n1_; have GW105 := n2_; have GE105 := n3_; clear n0_ n1_ n2_ n3_; clear hb hbox hg) | ((with_reducible refine gate_dst (N := 6) rfl ?_); refine box_event ?hg (N := 6) ?hd (cs := #[.int .i64 0, .int .i64 0]) (t := 34) ?hr ?_; (case hd => rfl); (case hg => rfl); (case hr => first | (go_simp; done) | (go_simp; rfl)); intro gb106 hg w14 hbox hb; have n0_ := Aside0.mk (blk_below (g := gb105) (o := .cells #[.int .i64 0, .int .i64 0] 34 (0, 0)) (by (with_reducible repeat (first | refine blk_drewN ?_ _ | refine blk_drew ?_ | refine blk_alloc ?_ _)); exact BK105.out) hb); have n1_ := Aside0.mk (below_step (by repeat (first | (with_reducible first | exact HB.out | apply below_alloc | apply pw_below_drewN | apply below_drew1 | refine below_set ?_ GE105.out) | exact HB.out)) hb); have n2_ := Aside0.mk (hbox); have n3_ := Aside0.mk ((by rw [hg]; exact (below_size (by repeat (first | (with_reducible first | exact HB.out | apply below_alloc | apply pw_below_drewN | apply below_drew1 | refine below_set ?_ GE105.out) | exact HB.out))) : w.heap.size ≤ gb106)); have n4_ := Aside0.mk ((by rw [hg]; exact (below_size (by repeat (first | (with_reducible first | exact HB.out | apply below_alloc | apply pw_below_drewN | apply below_drew1 | refine below_set ?_ GE105.out) | exact HB.out))) : w.heap.size ≤ gb106)); have n5_ := Aside0.mk ((by rw [hg]; exact Nat.ne_of_lt (blk_lt (g := gb105) (o := .cells #[.int .i64 0, .int .i64 0] 34 (0, 0)) (by (with_reducible repeat (first | refine blk_drewN ?_ _ | refine blk_drew ?_ | refine blk_alloc ?_ _)); exact BK105.out)) : gb105 ≠ gb106)); have n6_ := Aside0.mk ((by rw [hg]; exact Nat.ne_of_gt (blk_lt (g := gb105) (o := .cells #[.int .i64 0, .int .i64 0] 34 (0, 0)) (by (with_reducible repeat (first | refine blk_drewN ?_ _ | refine blk_drew ?_ | refine blk_alloc ?_ _)); exact BK105.out)) : gb106 ≠ gb105)); clear BK105; clear HB; have BK105 := n0_; have HB := n1_; have BK106 := n2_; have GW106 := n3_; have GE106 := n4_; have NB105_106 := n5_; have NB106_105 := n6_; clear n0_ n1_ n2_ n3_ n4_ n5_ n6_; clear hb hbox hg; have hnb15 := NB105_106.out; have hnc15 := NB106_105.out; have hcz16_0 : w14.cell? ⟨gb105, 0, none⟩ = some (.int .i64 0) := (blk_cell BK105.out 0).trans rfl; have hcz16_1 : w14.cell? ⟨gb105, 1, none⟩ = some (.int .i64 0) := (blk_cell BK105.out 1).trans rfl; have hfz16_0 := blk_frozen BK105.out 0; have hfz16_1 := blk_frozen BK105.out 1; have hcz17_0 : w14.cell? ⟨gb106, 0, none⟩ = some (.int .i64 0) := (blk_cell BK106.out 0).trans rfl; have hcz17_1 : w14.cell? ⟨gb106, 1, none⟩ = some (.int .i64 0) := (blk_cell BK106.out 1).trans rfl; have hfz17_0 := blk_frozen BK106.out 0; have hfz17_1 := blk_frozen BK106.out 1))
    (try simp only [Act.put, List.setIfInBounds_toArray, List.set_cons_zero, List.set_cons_succ])
    go_cut [33] (fun v33 wc => ∃ (kq : Nat) (x33_9 : Bool), v33 = .bool x33_9 ∧ Aside0 (impl_canFollow.j0 kq a0 x33_9 t101 t102 t103 t104 = some r) ∧ Aside0 (kq ≤ k) ∧ Aside0 (wc.heap[gb105]? = some (.cells #[.int .i64 t101, .int .i64 t102] 34 (0, 0))) ∧ Aside0 (wc.heap[gb106]? = some (.cells #[.int .i64 t103, .int .i64 t104] 34 (0, 0))) ∧ Aside0 (Below w.heap.size w wc))
    case first =>
     have H := HC10.out
     clear HC10
     by_cases c18 : (Int.tmod (wrap64 (t101 + t103)) 2) = 0
     ·
      rw [if_pos c18] at H
      have c18b0 : ((Int.tmod (wrap64 (t101 + t103)) 2) == 0) = true := beq_iff_eq.mpr c18
      have c18b1 : ((Int.tmod (wrap64 (t101 + t103)) 2) != 0) = false := bne_eq_false_iff_eq.mpr c18
      clear c18
      (first | rw [c18b0] | (simp only [i64_w, i32_w]; rw [c18b0]) | skip)
      have H' := Aside0.mk H
      clear H
      have hnb19 := NB105_106.out
      have hnc19 := NB106_105.out
      have hcz20_0 : w14.cell? ⟨gb105, 0, none⟩ = some (.int .i64 0) := (blk_cell BK105.out 0).trans rfl
      have hcz20_1 : w14.cell? ⟨gb105, 1, none⟩ = some (.int .i64 0) := (blk_cell BK105.out 1).trans rfl
      have hfz20_0 := blk_frozen BK105.out 0
      have hfz20_1 := blk_frozen BK105.out 1
      have hcz21_0 : w14.cell? ⟨gb106, 0, none⟩ = some (.int .i64 0) := (blk_cell BK106.out 0).trans rfl
      have hcz21_1 : w14.cell? ⟨gb106, 1, none⟩ = some (.int .i64 0) := (blk_cell BK106.out 1).trans rfl
      have hfz21_0 := blk_frozen BK106.out 0
      have hfz21_1 := blk_frozen BK106.out 1
      go_wp2
      go_meet
      case rel => exact ⟨_, (((Int.tmod (wrap64 (t102 + t104)) 2) != 0)), (by first | rfl | (simp; done) | (simp [*]; done)), H', ⟨by first | omega | exact Nat.le_refl _⟩, ⟨by (with_reducible repeat (first | refine blk_drewN ?_ _ | refine blk_drew ?_ | refine blk_alloc ?_ _)); refine blk_far ?_ NB105_106.out _; (with_reducible repeat (first | refine blk_drewN ?_ _ | refine blk_drew ?_ | refine blk_alloc ?_ _)); refine blk_far ?_ NB105_106.out _; (with_reducible repeat (first | refine blk_drewN ?_ _ | refine blk_drew ?_ | refine blk_alloc ?_ _)); refine blk_put (cs := #[.int .i64 t101, .int .i64 0]) ?_ 1 _ rfl; (with_reducible repeat (first | refine blk_drewN ?_ _ | refine blk_drew ?_ | refine blk_alloc ?_ _)); refine blk_put (cs := #[.int .i64 0, .int .i64 0]) ?_ 0 _ rfl; (with_reducible repeat (first | refine blk_drewN ?_ _ | refine blk_drew ?_ | refine blk_alloc ?_ _)); exact BK105.out⟩, ⟨by (with_reducible repeat (first | refine blk_drewN ?_ _ | refine blk_drew ?_ | refine blk_alloc ?_ _)); refine blk_put (cs := #[.int .i64 t103, .int .i64 0]) ?_ 1 _ rfl; (with_reducible repeat (first | refine blk_drewN ?_ _ | refine blk_drew ?_ | refine blk_alloc ?_ _)); refine blk_put (cs := #[.int .i64 0, .int .i64 0]) ?_ 0 _ rfl; (with_reducible repeat (first | refine blk_drewN ?_ _ | refine blk_drew ?_ | refine blk_alloc ?_ _)); refine blk_far ?_ NB106_105.out _; (with_reducible repeat (first | refine blk_drewN ?_ _ | refine blk_drew ?_ | refine blk_alloc ?_ _)); refine blk_far ?_ NB106_105.out _; (with_reducible repeat (first | refine blk_drewN ?_ _ | refine blk_drew ?_ | refine blk_alloc ?_ _)); exact BK106.out⟩, ⟨by repeat (first | (with_reducible first | exact HB.out | apply below_alloc | apply pw_below_drewN | apply below_drew1 | refine below_set ?_ GE105.out | refine below_set ?_ GE106.out) | exact HB.out)⟩⟩
     ·
      rw [if_neg c18] at H
      have c18b0 : ((Int.tmod (wrap64 (t101 + t103)) 2) == 0) = false := beq_eq_false_iff_ne.mpr c18
      have c18b1 : ((Int.tmod (wrap64 (t101 + t103)) 2) != 0) = true := bne_iff_ne.mpr c18
      (first | rw [c18b0] | (simp only [i64_w, i32_w]; rw [c18b0]) | skip)
      have H' := Aside0.mk H
      clear H
      have hnb22 := NB105_106.out
      have hnc22 := NB106_105.out
      have hcz23_0 : w14.cell? ⟨gb105, 0, none⟩ = some (.int .i64 0) := (blk_cell BK105.out 0).trans rfl
      have hcz23_1 : w14.cell? ⟨gb105, 1, none⟩ = some (.int .i64 0) := (blk_cell BK105.out 1).trans rfl
      have hfz23_0 := blk_frozen BK105.out 0
      have hfz23_1 := blk_frozen BK105.out 1
      have hcz24_0 : w14.cell? ⟨gb106, 0, none⟩ = some (.int .i64 0) := (blk_cell BK106.out 0).trans rfl
      have hcz24_1 : w14.cell? ⟨gb106, 1, none⟩ = some (.int .i64 0) := (blk_cell BK106.out 1).trans rfl
      have hfz24_0 := blk_frozen BK106.out 0
      have hfz24_1 := blk_frozen BK106.out 1
      go_wp2
      go_meet
      case rel => exact ⟨_, (true), (by first | rfl | (simp; done) | (simp [*]; done)), H', ⟨by first | omega | exact Nat.le_refl _⟩, ⟨by (with_reducible repeat (first | refine blk_drewN ?_ _ | refine blk_drew ?_ | refine blk_alloc ?_ _)); refine blk_far ?_ NB105_106.out _; (with_reducible repeat (first | refine blk_drewN ?_ _ | refine blk_drew ?_ | refine blk_alloc ?_ _)); refine blk_far ?_ NB105_106.out _; (with_reducible repeat (first | refine blk_drewN ?_ _ | refine blk_drew ?_ | refine blk_alloc ?_ _)); refine blk_put (cs := #[.int .i64 t101, .int .i64 0]) ?_ 1 _ rfl; (with_reducible repeat (first | refine blk_drewN ?_ _ | refine blk_drew ?_ | refine blk_alloc ?_ _)); refine blk_put (cs := #[.int .i64 0, .int .i64 0]) ?_ 0 _ rfl; (with_reducible repeat (first | refine blk_drewN ?_ _ | refine blk_drew ?_ | refine blk_alloc ?_ _)); exact BK105.out⟩, ⟨by (with_reducible repeat (first | refine blk_drewN ?_ _ | refine blk_drew ?_ | refine blk_alloc ?_ _)); refine blk_put (cs := #[.int .i64 t103, .int .i64 0]) ?_ 1 _ rfl; (with_reducible repeat (first | refine blk_drewN ?_ _ | refine blk_drew ?_ | refine blk_alloc ?_ _)); refine blk_put (cs := #[.int .i64 0, .int .i64 0]) ?_ 0 _ rfl; (with_reducible repeat (first | refine blk_drewN ?_ _ | refine blk_drew ?_ | refine blk_alloc ?_ _)); refine blk_far ?_ NB106_105.out _; (with_reducible repeat (first | refine blk_drewN ?_ _ | refine blk_drew ?_ | refine blk_alloc ?_ _)); refine blk_far ?_ NB106_105.out _; (with_reducible repeat (first | refine blk_drewN ?_ _ | refine blk_drew ?_ | refine blk_alloc ?_ _)); exact BK106.out⟩, ⟨by repeat (first | (with_reducible first | exact HB.out | apply below_alloc | apply pw_below_drewN | apply below_drew1 | refine below_set ?_ GE105.out | refine below_set ?_ GE106.out) | exact HB.out)⟩⟩
    case rest =>
     clear HC10
     try clear c1
     try clear c2
     try clear p2
     try clear c3
     try clear c3b0
     try clear c3b1
     try clear c5
     try clear c5b0
     try clear c6
     try clear c6b0
     try clear p6
     try clear p7
     try clear q7
     try clear hx7
     try clear c15
     try clear c18
     try clear c18b0
     try clear c18b1
     try clear c19
     try clear c20
     try clear c22
     try clear hcz16_0
     try clear hcz16_1
     try clear hcz17_0
     try clear hcz17_1
     try clear hcz20_0
     try clear hcz20_1
     try clear hcz21_0
     try clear hcz21_1
     try clear hcz23_0
     try clear hcz23_1
     try clear hcz24_0
     try clear hcz24_1
     try clear hfz16_0
     try clear hfz16_1
     try clear hfz17_0
     try clear hfz17_1
     try clear hfz20_0
     try clear hfz20_1
     try clear hfz21_0
     try clear hfz21_1
     try clear hfz23_0
     try clear hfz23_1
     try clear hfz24_0
     try clear hfz24_1
     try clear p7
     try clear q7
     obtain ⟨kq, x33_9, rfl, HA, HJ9, BK105, BK106, HB⟩ := hcut
     cases kq with
     | zero => exact absurd HA.out (by simp [impl_canFollow.j0])
     | succ kj9 =>
      have H := HA.out
      clear HA
      simp only [impl_canFollow.j0] at H
      by_cases c25 : x33_9 = true
      ·
       subst c25
       have H1 : (some true) = some r := by rw [if_pos rfl] at H; exact H
       clear H
       have H := H1
       clear H1
       obtain rfl := Option.some.inj H
       go_wp2
       go_ret
       exact ⟨by first | rfl | (simp [errW_none, errW_some] <;> rfl) | (simp only [← hji4]; first | rfl | (simp [errW_none, errW_some] <;> rfl)) | (simp [*, errW_none, errW_some] <;> rfl), by repeat (first | (with_reducible first | exact HB.out | apply below_alloc | apply pw_below_drewN | apply below_drew1 | refine below_set ?_ GE105.out | refine below_set ?_ GE106.out) | exact HB.out)⟩
      ·
       replace c25 := Bool.eq_false_iff.mpr c25
       subst c25
       have H1 : ((impl_digitAt.f kj9 (wrap64 (Int.tdiv (wrap64 (t101 + t103)) 2)) (wrap64 (Int.tdiv (wrap64 (t102 + t104)) 2))).bind fun t107 => (if 0 ≤ t107 then (if t107 < 10 then ((strings_IndexByte.f a0 (bt (⟨#[48, 49, 50, 51, 52, 53, 54, 55, 56, 57]⟩ : ByteArray) t107)).bind fun t108 => (some (decide (t108 ≥ 0)))) else (none)) else (none))) = some r := by rw [if_neg (show ¬ (false = true) by decide)] at H; exact H
       clear H
       have H := H1
       clear H1
       replace H := Option.bind_eq_some_iff.mp H
       obtain ⟨t107, A260, H⟩ := H
       replace H : (if 0 ≤ t107 then (if t107 < 10 then ((strings_IndexByte.f a0 (bt (⟨#[48, 49, 50, 51, 52, 53, 54, 55, 56, 57]⟩ : ByteArray) t107)).bind fun t108 => (some (decide (t108 ≥ 0)))) else (none)) else (none)) = some r := H
       have A26 := Aside0.mk A260
       clear A260
       by_cases c27 : 0 ≤ t107
       ·
        rw [if_pos c27] at H
        have c27b0 : decide (0 ≤ t107) = true := decide_eq_true c27
        clear c27
        by_cases c28 : t107 < 10
        ·
         rw [if_pos c28] at H
         have c28b0 : decide (t107 < 10) = true := decide_eq_true c28
         clear c28
         replace H := Option.bind_eq_some_iff.mp H
         obtain ⟨t108, A300, H⟩ := H
         replace H : (some (decide (t108 ≥ 0))) = some r := H
         have A30 := Aside0.mk A300
         clear A300
         obtain rfl := Option.some.inj H
         have hnb31 := NB105_106.out
         have hnc31 := NB106_105.out
         have hcz32_0 : wc.cell? ⟨gb105, 0, none⟩ = some (.int .i64 t101) := (blk_cell BK105.out 0).trans rfl
         have hcz32_1 : wc.cell? ⟨gb105, 1, none⟩ = some (.int .i64 t102) := (blk_cell BK105.out 1).trans rfl
         have hfz32_0 := blk_frozen BK105.out 0
         have hfz32_1 := blk_frozen BK105.out 1
         have hcz33_0 : wc.cell? ⟨gb106, 0, none⟩ = some (.int .i64 t103) := (blk_cell BK106.out 0).trans rfl
         have hcz33_1 : wc.cell? ⟨gb106, 1, none⟩ = some (.int .i64 t104) := (blk_cell BK106.out 1).trans rfl
         have hfz33_0 := blk_frozen BK106.out 0
         have hfz33_1 := blk_frozen BK106.out 1
         go_wp2_with (first | ((with_reducible refine gate_callee (f := 21) rfl ?_); refine goesL_ (some 46) rfl rfl Try.func21 (by kernel_rfl) rfl #[.int .i64 (wrap64 (Int.tdiv (wrap64 (t101 + t103)) 2)), .int .i64 (wrap64 (Int.tdiv (wrap64 (t102 + t104)) 2))] rfl (by (try simp only [List.map_toArray, List.map_cons, List.map_nil]); first | done | rfl | (simp only [List.length_drop, List.length_take]; rfl)) ?_; (with_reducible refine (impl_digitAt.calls kj9 (wrap64 (Int.tdiv (wrap64 (t101 + t103)) 2)) (wrap64 (Int.tdiv (wrap64 (t102 + t104)) 2)) t107 _ A26.out).mono ?_); rintro e w' ⟨rfl, ⟨nd, rfl⟩⟩; refine ⟨_, rfl, ?_⟩; have p29 : 0 ≤ (t107 : Int) := of_decide_eq_true (by first | (with_reducible assumption) | assumption); have q29 : t107 < (10 : Int) := of_decide_eq_true (by first | (with_reducible assumption) | assumption); have hx29 := bt_at (⟨#[48, 49, 50, 51, 52, 53, 54, 55, 56, 57]⟩ : ByteArray) t107; replace p29 := eq_true p29; replace q29 := eq_true q29) | ((with_reducible refine gate_callee (f := 17) rfl ?_); refine goesL_ (some 50) rfl rfl Try.func17 (by kernel_rfl) rfl #[.string a0, .int .u8 (bt (⟨#[48, 49, 50, 51, 52, 53, 54, 55, 56, 57]⟩ : ByteArray) t107)] rfl (by (try simp only [List.map_toArray, List.map_cons, List.map_nil]); first | done | rfl | (simp only [List.length_drop, List.length_take]; rfl)) ?_; (with_reducible refine (strings_IndexByte.calls a0 (bt (⟨#[48, 49, 50, 51, 52, 53, 54, 55, 56, 57]⟩ : ByteArray) t107) t108 _ A30.out).mono ?_); rintro e w' ⟨rfl, ⟨nd, rfl⟩⟩; refine ⟨_, rfl, ?_⟩))
         go_ret
         exact ⟨by first | rfl | (simp [errW_none, errW_some] <;> rfl) | (simp only [← hji4]; first | rfl | (simp [errW_none, errW_some] <;> rfl)) | (simp [*, errW_none, errW_some] <;> rfl), by repeat (first | (with_reducible first | exact HB.out | apply below_alloc | apply pw_below_drewN | apply below_drew1 | refine below_set ?_ GE105.out | refine below_set ?_ GE106.out) | exact HB.out)⟩
        ·
         rw [if_neg c28] at H
         exact absurd H (by simp)
       ·
        rw [if_neg c27] at H
        exact absurd H (by simp)
   ·
    rw [if_neg c6] at H
    exact absurd H (by simp)
  ·
   rw [if_neg c5] at H
   exact absurd H (by simp)

end Go.Proofs.Ytjjmbinhagaifaa.P

-- printed by xprint.py
namespace Go.Proofs.Ytjjmbinhagaifaa.P
open Go.RowKit Go.Proofs.YtjjmbinhagaifaaW.PrintWords Go.Proofs.YtjjmbinhagaifaaW.PrintLast Go.Proofs.YtjjmbinhagaifaaW.PrintMore
attribute [local go_sem] max2_int min2_int max_two min_two max_three min_three max_four min_four   -- for this text's walks alone
set_option linter.unusedVariables false
set_option linter.unusedSimpArgs false

/-! ### impl_nextPoints: function 16 -/
def impl_nextPoints.l0 : Nat → ByteArray → List Int → List Int → Int → Int → Option (ByteArray)
 | 0, _, _, _, _, _ => none
 | k + 1, x0, x3, x8, x9, x10 => if x10 < x9 then (if 0 ≤ x10 then (if x10 < (x8.length : Int) then ((strings_IndexByte.f x0 (rd x8 x10)).bind fun t108 => (if t108 < 0 then ((impl_canFollow.f k x0 (rd x8 x10)).bind fun t109 => (if t109 = true then (if x3.length < 140737488355328 then (impl_nextPoints.l0 k x0 (x3 ++ [rd x8 x10]) x8 x9 (wrap64 (x10 + 1))) else (none)) else (impl_nextPoints.l0 k x0 x3 x8 x9 (wrap64 (x10 + 1))))) else (impl_nextPoints.l0 k x0 x3 x8 x9 (wrap64 (x10 + 1))))) else (none)) else (none)) else (some (strOfNums x3))
def impl_nextPoints.f (k : Nat) (a0 : ByteArray) : Option (ByteArray) := (some (([49, 50, 51, 52, 53, 54, 55, 56, 57] : List Int) : List Int)).bind fun y104 => (impl_nextPoints.l0 k a0 (([] : List Int)) y104 (y104.length : Int) 0)
theorem impl_nextPoints.mono_l : ∀ k, (∀ y0 y1 y2 y3 y4, LeO (impl_nextPoints.l0 k y0 y1 y2 y3 y4) (impl_nextPoints.l0 (k + 1) y0 y1 y2 y3 y4))
 | 0 => by intros; intro r h; simp [impl_nextPoints.l0] at h
 | k + 1 => by
  have ih0 := impl_nextPoints.mono_l k
  ·
   intro y0 y1 y2 y3 y4
   unfold impl_nextPoints.l0
   repeat' first
   | (with_reducible exact ih0 _ _ _ _ _)
   | (with_reducible exact impl_canFollow.mono _ _ _)
   | (with_reducible exact LeO.refl _)
   | (with_reducible exact LeO.none _)
   | (with_reducible refine LeO.ite ?_ ?_)
   | (with_reducible refine LeO.bind ?_ (fun _ => ?_))
   | exact ih0 _ _ _ _ _
   | exact impl_canFollow.mono _ _ _
   | exact LeO.none _
   | refine LeO.ite ?_ ?_
   | refine LeO.bind ?_ (fun _ => ?_)
theorem impl_nextPoints.mono : ∀ y0 k, LeO (impl_nextPoints.f k y0) (impl_nextPoints.f (k + 1) y0) := by
 intro y0 k
 have ih0 := impl_nextPoints.mono_l k
 unfold impl_nextPoints.f
 repeat' first
   | (with_reducible exact ih0 _ _ _ _ _)
   | (with_reducible exact impl_canFollow.mono _ _ _)
   | (with_reducible exact LeO.refl _)
   | (with_reducible exact LeO.none _)
   | (with_reducible refine LeO.ite ?_ ?_)
   | (with_reducible refine LeO.bind ?_ (fun _ => ?_))
   | exact ih0 _ _ _ _ _
   | exact impl_canFollow.mono _ _ _
   | exact LeO.none _
   | refine LeO.ite ?_ ?_
   | refine LeO.bind ?_ (fun _ => ?_)
/-- A row of bytes of the call's own whose block bears a mark behind its cells. -/
def BR (w : World) (base : Nat) (ok : Nat → Prop) (v : Value) (xs : List Int) : Prop :=
 (∀ k, v.ownBlock = some k → ok k) ∧ ∃ g cap cells lo hi, v = .slice (some ⟨g, 0, none⟩) xs.length cap ∧ base ≤ g ∧ g < w.heap.size ∧ w.heap[g]? = some (.cells cells 5 (lo, hi)) ∧ xs.length ≤ cap ∧ xs.length ≤ lo ∧ xs.length ≤ 9223372036854775807 ∧ ∀ i, i < xs.length → cells[i]? = some (.int .u8 (xs.getD i 0))
theorem BR_heap {w w1 : World} {base : Nat} {ok : Nat → Prop} {v : Value} {xs : List Int} (h : BR w base ok v xs) (hs : w.heap.size ≤ w1.heap.size) (hm : ∀ k, k < w.heap.size → w1.heap[k]? = w.heap[k]?) : BR w1 base ok v xs := by
 obtain ⟨h0, g, cap, cells, lo, hi, e, hb, hl, hh, r⟩ := h
 exact ⟨h0, g, cap, cells, lo, hi, e, hb, Nat.lt_of_lt_of_le hl hs, (hm g hl).trans hh, r⟩
theorem BR_below {w w1 : World} {base : Nat} {ok : Nat → Prop} {v : Value} {xs : List Int} (h : BR w base ok v xs) (hb : Below w.heap.size w w1) : BR w1 base ok v xs := BR_heap h hb.size (fun k hk => hb.block k hk)
theorem BR_alloc {w : World} {base : Nat} {ok : Nat → Prop} {v : Value} {xs : List Int} (h : BR w base ok v xs) (o : Obj) : BR (w.alloc o) base ok v xs := BR_below h (below_alloc (Below.refl _ _) o)
theorem BR_drew {w : World} {base : Nat} {ok : Nat → Prop} {v : Value} {xs : List Int} (h : BR w base ok v xs) : BR w.drew base ok v xs := BR_below h (below_drew (Below.refl _ _))
theorem BR_drewN {w : World} {base : Nat} {ok : Nat → Prop} {v : Value} {xs : List Int} (h : BR w base ok v xs) (m : Nat) : BR (w.drewN m) base ok v xs := BR_below h (pw_below_drewN (Below.refl _ _) m)
theorem BR_mono {w : World} {base : Nat} {ok ok' : Nat → Prop} {v : Value} {xs : List Int} (h : BR w base ok v xs) (hok : ∀ k, ok k → ok' k) : BR w base ok' v xs := ⟨fun k hk => hok k (h.1 k hk), h.2⟩
theorem BR_tight {w : World} {base : Nat} {ok : Nat → Prop} {v : Value} {xs : List Int} (_ : (0 : Nat) = 0) (h : BR w base ok v xs) : BR w base (fun k => some k = v.ownBlock) v xs := ⟨fun k hk => hk.symm, h.2⟩
theorem BR_reok {w : World} {base : Nat} {ok ok' : Nat → Prop} {v : Value} {xs : List Int} (_ : (0 : Nat) = 0) (h : BR w base ok v xs) (hok : ∀ k, v.ownBlock = some k → ok' k) : BR w base ok' v xs := ⟨hok, h.2⟩
theorem BR_slice {w : World} {base : Nat} {ok : Nat → Prop} {v : Value} {xs : List Int} (h : BR w base ok v xs) : ∃ A c, v = .slice A xs.length c := by
 obtain ⟨_, g, cap, _, _, _, e, _⟩ := h
 exact ⟨_, _, e⟩
theorem BR_form {w : World} {base : Nat} {ok : Nat → Prop} {v : Value} {xs : List Int} (h : BR w base ok v xs) (_ : 0 < xs.length) : ∃ g cap, v = .slice (some ⟨g, 0, none⟩) xs.length cap ∧ base ≤ g ∧ g < w.heap.size ∧ ∃ cells : Array Value, ∃ fr, w.heap[g]? = some (.cells cells 5 fr) := by
 obtain ⟨_, g, cap, cells, lo, hi, e, hb, hl, hh, _⟩ := h
 exact ⟨g, cap, e, hb, hl, cells, _, hh⟩
theorem BR_celln {W : World} {base g n cap : Nat} {ok : Nat → Prop} {xs : List Int} (_ : Int) (h : BR W base ok (.slice (some ⟨g, 0, none⟩) n cap) xs) (i : Int) (h0 : 0 ≤ i) (hi : i < n) : W.cell? ⟨g, i.toNat, none⟩ = some (.int .u8 (rd xs i)) ∧ W.frozen? ⟨g, i.toNat, none⟩ = false := by
 obtain ⟨_, g', cap', cells, lo, hi', e, _, _, hh, _, hlo, _, hc⟩ := h
 injection e with e1 e2 e3
 injection e1 with e1
 injection e1 with e1
 subst e1
 have hlt : i.toNat < xs.length := by omega
 refine ⟨?_, ?_⟩
 ·
  unfold World.cell? rd
  simp only [hh]
  simpa using hc i.toNat hlt
 ·
  unfold World.frozen?
  simp only [hh]
  simp; omega
theorem BR_reads' {w : World} {base n c : Nat} {A : Option Addr} {ok : Nat → Prop} {xs : List Int} (h : BR w base ok (.slice A n c) xs) : n = xs.length ∧ n ≤ c ∧ (Kd.int .u8).C w A xs.length xs := by
 have h' := h
 obtain ⟨_, g, cap, cells, lo, hi, e, _, _, hh, hcap, hlo, hmx, hc⟩ := h
 injection e with e1 e2 e3
 subst e1 e2 e3
 refine ⟨rfl, hcap, rfl, hmx, fun hp => ⟨_, rfl, fun j p hj => ⟨[.int .u8 p], rfl, rfl, fun i u hu => ?_⟩⟩⟩
 obtain ⟨hl, hpe⟩ := List.getElem?_eq_some_iff.1 hj
 have h1 : i = 0 := by
  have := (List.getElem?_eq_some_iff.1 hu).1
  simpa using this
 subst h1
 have hu' : u = .int .u8 p := by simpa using hu.symm
 subst hu'
 have := (BR_celln 0 h' (j : Int) (by omega) (by omega)).1
 rw [Int.toNat_natCast] at this
 have hr : rd xs (j : Int) = p := by unfold rd; rw [Int.toNat_natCast, List.getD_eq_getElem?_getD, hj]; rfl
 rw [hr] at this
 have ea : ((⟨g, 0, none⟩ : Addr).add (j * (Kd.int .u8).sz + 0)) = ⟨g, j, none⟩ := by
  show ((⟨g, 0, none⟩ : Addr).add (j * 1 + 0)) = _
  simp [Addr.add]; intro e; exact e.symm
 rw [ea]
 exact this
theorem BR_putn {W : World} {base g n cap : Nat} {ok : Nat → Prop} {xs : List Int} (h : BR W base ok (.slice (some ⟨g, 0, none⟩) n cap) xs) (i : Int) (x : Int) : BR (W.setCell ⟨g, i.toNat, none⟩ (.int .u8 x)) base ok (.slice (some ⟨g, 0, none⟩) n cap) (xs.set i.toNat x) := by
 obtain ⟨h0, g', cap', cells, lo, hi', e, hb, hl, hh, hcap, hlo, hmx, hc⟩ := h
 injection e with e1 e2 e3
 injection e1 with e1
 injection e1 with e1
 subst e1 e2 e3
 have hset : (W.setCell ⟨g, i.toNat, none⟩ (.int .u8 x)).heap[g]? = some (.cells (cells.setIfInBounds i.toNat (.int .u8 x)) 5 (lo, hi')) := by
  rw [Sort.setCell_eq]
  unfold Sort.mapBlock
  simp only [Array.getElem?_modify, if_true, hh, Option.map_some, Sort.onCells]
 have hsz : (W.setCell ⟨g, i.toNat, none⟩ (.int .u8 x)).heap.size = W.heap.size := by
  rw [Sort.setCell_eq]; unfold Sort.mapBlock; exact Array.size_modify
 refine ⟨h0, g, cap, _, lo, hi', by rw [List.length_set], hb, by rw [hsz]; exact hl, hset, by rw [List.length_set]; exact hcap, by rw [List.length_set]; exact hlo, by rw [List.length_set]; exact hmx, fun j hj => ?_⟩
 rw [List.length_set] at hj
 have hcj := hc j hj
 have hjc : j < cells.size := by
  rcases Nat.lt_or_ge j cells.size with q | q
  ·
   exact q
  ·
   rw [Array.getElem?_eq_none q] at hcj; cases hcj
 rw [Array.getElem?_setIfInBounds, List.getD_eq_getElem?_getD, List.getElem?_set]
 by_cases q : i.toNat = j
 ·
  subst q
  rw [if_pos rfl, if_pos hjc, if_pos rfl, if_pos hj]; rfl
 ·
  rw [if_neg q, if_neg q, hcj, List.getD_eq_getElem?_getD]
theorem mk_heap {w : World} {g : Nat} {cells : Array Value} (sz : Nat) (hh : w.heap[g]? = some (.cells cells 5 (0, 0))) : (w.freeze ⟨g, sz, none⟩ 1).heap[g]? = some (.cells cells 5 (sz, sz + 1)) := by
 unfold World.freeze
 rw [if_neg (by decide)]
 simp only [Array.getElem?_modify, if_true, hh, Option.map_some]
 rfl
theorem mk_other {w : World} {g k : Nat} (sz : Nat) (h : k ≠ g) : (w.freeze ⟨g, sz, none⟩ 1).heap[k]? = w.heap[k]? := by
 unfold World.freeze
 rw [if_neg (by decide)]
 simp only [Array.getElem?_modify]
 rw [if_neg (fun e => h e.symm)]
theorem mk_size (w : World) (g sz : Nat) : (w.freeze ⟨g, sz, none⟩ 1).heap.size = w.heap.size := by
 unfold World.freeze
 rw [if_neg (by decide)]
 exact Array.size_modify
theorem mk_below {B : Nat} {a w : World} (hB : Below B a w) {g : Nat} (hg : B ≤ g) (sz : Nat) : Below B a (w.freeze ⟨g, sz, none⟩ 1) := by
 refine hB.trans ⟨?_, ?_, ?_, by rw [mk_size]; exact Nat.le_refl _, fun k hk => mk_other sz (by omega)⟩ <;> (unfold World.freeze; rw [if_neg (by decide)])
theorem mk_conv {w : World} {g n c : Nat} {cells : Array Value} (hh : w.heap[g]? = some (.cells cells 5 (0, 0))) : (convert 32 32 (.slice (some ⟨g, 0, none⟩) n c)).run Try.prog w = .ok (.slice (some ⟨g, 0, none⟩) n c) (w.freeze ⟨g, cells.size, none⟩ 1) := by
 have hsh : w.shape? g = some (5, cells.size) := by
  unfold World.shape?
  rw [hh]
 simp [convert, run_underlying Try.underlying32, run_underlying Try.underlying5, markStringish, hsh]
theorem mk_row {w : World} {base g n cap : Nat} {ok : Nat → Prop} {xs : List Int} {cells : Array Value} (h : Kd.R (Kd.int .u8) 5 w base ok (.slice (some ⟨g, 0, none⟩) n cap) xs) (hp : 0 < xs.length) (hh : w.heap[g]? = some (.cells cells 5 (0, 0))) : BR (w.freeze ⟨g, cells.size, none⟩ 1) base ok (.slice (some ⟨g, 0, none⟩) n cap) xs := by
 obtain ⟨rfl, hc, hC⟩ := Kd.R_reads' h
 have hcell : ∀ i, i < xs.length → cells[i]? = some (.int .u8 (xs.getD i 0)) := by
  intro i hi
  have := (Kd.R_celln 0 h (i : Int) (by omega) (by omega)).1
  rw [Int.toNat_natCast] at this
  unfold World.cell? at this
  simp only [hh] at this
  simpa [rdOf] using this
 have hlen : xs.length ≤ cells.size := by
  have := hcell (xs.length - 1) (by omega)
  rcases Nat.lt_or_ge (xs.length - 1) cells.size with q | q
  ·
   omega
  ·
   rw [Array.getElem?_eq_none q] at this; cases this
 have hg : g < w.heap.size := by
  rcases Nat.lt_or_ge g w.heap.size with q | q
  ·
   exact q
  ·
   rw [Array.getElem?_eq_none q] at hh; cases hh
 exact ⟨h.1, g, cap, cells, _, _, rfl, Kd.R_base h _ rfl, by rw [mk_size]; exact hg, mk_heap _ hh, hc, hlen, hC.2.1, hcell⟩
theorem BR_lt {w : World} {base : Nat} {ok : Nat → Prop} {v : Value} {xs : List Int} (h : BR w base ok v xs) : ∀ k, v.ownBlock = some k → k < w.heap.size := by
 obtain ⟨_, g, cap, _, _, _, rfl, _, hl, _⟩ := h
 intro k hk
 have : g = k := by simpa [Value.ownBlock] using hk
 omega
theorem BR_after {W w1 : World} {base : Nat} {ok : Nat → Prop} {v v1 u : Value} {xs : List Int} (h : BR W base (fun k => ok k ∧ some k ≠ v.ownBlock) u xs) (hg : W.grownBy w1 v.ownBlock) (hat : v1.ownBlock = v.ownBlock ∨ ∃ b, v1.ownBlock = some b ∧ W.heap.size ≤ b) : BR w1 base (fun k => ok k ∧ some k ≠ v1.ownBlock) u xs := by
 have hlt := BR_lt h
 obtain ⟨h0, g, cap, cells, lo, hi, e, hb, hl, hh, r⟩ := h
 have hu : u.ownBlock = some g := by rw [e]; rfl
 refine ⟨fun k hk => ⟨(h0 k hk).1, ?_⟩, g, cap, cells, lo, hi, e, hb, Nat.lt_of_lt_of_le hl hg.size, (hg.block g hl (h0 g hu).2).trans hh, r⟩
 rcases hat with hat | ⟨b, hb1, hb2⟩
 ·
  rw [hat]; exact (h0 k hk).2
 ·
  rw [hb1]
  intro e1
  injection e1 with e1
  have := hlt k hk
  omega
set_option maxHeartbeats 8000000 in
set_option maxRecDepth 100000 in
theorem impl_nextPoints.calls (k : Nat) (a0 : ByteArray) (r : ByteArray) (w : World) (h : impl_nextPoints.f k a0 = some r) :
  Calls Try.prog 16 #[.string a0] w fun e w' => e = .returned (.string r) ∧ Below w.heap.size w w' := by
 have HB := Aside0.mk (Below.refl w.heap.size w)
 have H : ((some (([49, 50, 51, 52, 53, 54, 55, 56, 57] : List Int) : List Int)).bind fun y104 => (impl_nextPoints.l0 k a0 (([] : List Int)) y104 (y104.length : Int) 0)) = some r := h
 clear h
 obtain ⟨y101, hy101⟩ : ∃ y_ : List Int, y_ = (([] : List Int)) := ⟨_, rfl⟩
 replace H : ((some (([49, 50, 51, 52, 53, 54, 55, 56, 57] : List Int) : List Int)).bind fun y104 => (impl_nextPoints.l0 k a0 y101 y104 (y104.length : Int) 0)) = some r := by first | (rw [hy101]; with_reducible exact H) | (have H2_ := (Option.bind_some _ _).symm.trans H; rw [hy101]; with_reducible exact H2_) | (have H2_ := (Option.bind_some _ _).symm.trans H; with_reducible exact H2_) | with_reducible exact H | (rw [hy101]; exact H) | exact H
 have Ny101 := Aside0.mk hy101
 clear hy101
 obtain ⟨y104, hy104⟩ : ∃ y_ : List Int, y_ = (([49, 50, 51, 52, 53, 54, 55, 56, 57] : List Int)) := ⟨_, rfl⟩
 replace H : (impl_nextPoints.l0 k a0 y101 y104 (y104.length : Int) 0) = some r := by first | (rw [hy104]; with_reducible exact H) | (have H2_ := (Option.bind_some _ _).symm.trans H; rw [hy104]; with_reducible exact H2_) | (have H2_ := (Option.bind_some _ _).symm.trans H; with_reducible exact H2_) | with_reducible exact H | (rw [hy104]; exact H) | exact H
 have Ny104 := Aside0.mk hy104
 clear hy104
 have H' := Aside0.mk H
 clear H
 go_enter Try.func16, Try.ntmps16
 go_wp2_with (first | ((with_reducible refine gate_dst (N := 6) rfl ?_); refine Kd.R_lit (Kd.int .u8) _ 5 ?hg (N := 6) ?hd (xs := ([] : List Int)) (inner := []) (ok := fun _ => True) (okp := fun _ => True) ?hr ?hp (fun _ hk => hk) trivial (Below.refl _ _) (Nat.le_refl _) (by simp) ?_; (case hd => rfl); (case hg => rfl); (case hr => first | (go_simp; done) | (go_simp; rfl)); (case hp => exact (Reps.none _ _)); intro v102 w2 ho3 hb hg_ hnew_; clear hg_ hnew_; (first | rw [← Ny101.out] at ho3 | (simp only [Int.reduceToNat] at ho3; rw [← Ny101.out] at ho3)); have n0_ := Aside0.mk (Kd.R_lower ho3 (below_size (by repeat (first | (with_reducible first | exact HB.out | apply below_alloc | apply pw_below_drewN | apply below_drew1) | exact HB.out)))); have n1_ := Aside0.mk (below_step (by repeat (first | (with_reducible first | exact HB.out | apply below_alloc | apply pw_below_drewN | apply below_drew1) | exact HB.out)) hb); clear HB; have HO103 := n0_; have HB := n1_; clear n0_ n1_; clear hb ho3) | ((with_reducible refine gate_dst (N := 7) rfl ?_); refine Kd.R_lit (Kd.int .u8) _ 5 ?hg (N := 7) ?hd (xs := ([49, 50, 51, 52, 53, 54, 55, 56, 57] : List Int)) (inner := [.int .u8 49, .int .u8 50, .int .u8 51, .int .u8 52, .int .u8 53, .int .u8 54, .int .u8 55, .int .u8 56, .int .u8 57]) (ok := fun _ => True) (okp := fun _ => True) ?hr ?hp (fun _ hk => hk) trivial (Below.refl _ _) (Nat.le_refl _) (by simp) ?_; (case hd => rfl); (case hg => rfl); (case hr => first | (go_simp; done) | (go_simp; rfl)); (case hp => exact (Reps.one (show Kd.M (Kd.int .u8) _ _ _ 49 [.int .u8 49] from rfl) (Reps.one (show Kd.M (Kd.int .u8) _ _ _ 50 [.int .u8 50] from rfl) (Reps.one (show Kd.M (Kd.int .u8) _ _ _ 51 [.int .u8 51] from rfl) (Reps.one (show Kd.M (Kd.int .u8) _ _ _ 52 [.int .u8 52] from rfl) (Reps.one (show Kd.M (Kd.int .u8) _ _ _ 53 [.int .u8 53] from rfl) (Reps.one (show Kd.M (Kd.int .u8) _ _ _ 54 [.int .u8 54] from rfl) (Reps.one (show Kd.M (Kd.int .u8) _ _ _ 55 [.int .u8 55] from rfl) (Reps.one (show Kd.M (Kd.int .u8) _ _ _ 56 [.int .u8 56] from rfl) (Reps.one (show Kd.M (Kd.int .u8) _ _ _ 57 [.int .u8 57] from rfl) (Reps.none _ _))))))))))); intro v105 w4 ho5 hb hg_ hnew_; clear hg_ hnew_; (first | rw [← Ny104.out] at ho5 | (simp only [Int.reduceToNat] at ho5; rw [← Ny104.out] at ho5)); have n0_ := Aside0.mk (Kd.R_elder' (by (with_reducible repeat (first | apply Kd.R_alloc | apply Kd.R_drewN | apply Kd.R_drew)); exact HO103.out) (Kd.R_base ho5) hb); have n1_ := Aside0.mk (Kd.R_lower (Kd.R_new' ho5 (Kd.R_lt (by (with_reducible repeat (first | apply Kd.R_alloc | apply Kd.R_drewN | apply Kd.R_drew)); exact HO103.out))) (below_size (by repeat (first | (with_reducible first | exact HB.out | apply below_alloc | apply pw_below_drewN | apply below_drew1) | exact HB.out)))); have n2_ := Aside0.mk (below_step (by repeat (first | (with_reducible first | exact HB.out | apply below_alloc | apply pw_below_drewN | apply below_drew1) | exact HB.out)) hb); clear HO103; clear HB; have HO103 := n0_; have HO106 := n1_; have HB := n2_; clear n0_ n1_ n2_; clear hb ho5; have hpos6 : 0 < y104.length := (by rw [Ny104.out]; decide); obtain ⟨g6, co6, eo6, gb6, gl6, cl6, gh6⟩ := Kd.R_form HO106.out hpos6; subst eo6; have hcvB := mk_conv (n := y104.length) (c := co6) gh6; have n0_ := Aside0.mk (Kd.R_step (w1 := w4.freeze ⟨g6, cl6.size, none⟩ 1) HO103.out (fun k_ hk_ _ => mk_other cl6.size (fun e_ => hk_.2 (by rw [e_]; rfl)))); have n1_ := Aside0.mk (mk_row HO106.out hpos6 gh6); have n2_ := Aside0.mk (mk_below HB.out gb6 cl6.size); clear HO103 HO106 HB gh6 gl6 gb6 hpos6; have HO103 := n0_; have HO106 := n1_; have HB := n2_; clear n0_ n1_ n2_))
 generalize w4.freeze ⟨g6, cl6.size, none⟩ 1 = w5 at HO103 HO106 HB ⊢
 generalize (some (⟨g6, 0, none⟩ : Addr)) = Ao6 at HO103 HO106 ⊢
 go_loopg [3, 10] k (fun kq v3 v10 w' => ∃ (x3_1 : List Int) (x10_1 : Int), v10 = .int .i64 x10_1 ∧ Aside0 (impl_nextPoints.l0 kq a0 x3_1 y104 (y104.length : Int) x10_1 = some r) ∧ Aside0 (kq ≤ k) ∧ Aside0 (Kd.R (Kd.int .u8) 5 w' w.heap.size (fun k_ => some k_ ≠ ((.slice Ao6 y104.length co6) : Value).ownBlock) v3 x3_1) ∧ Aside0 (BR w' w.heap.size (fun k_ => some k_ ≠ (v3 : Value).ownBlock) (.slice Ao6 y104.length co6) y104) ∧ Aside0 (Below w.heap.size w w'))
 case atStart => exact ⟨(y101), (0), (by first | rfl | (simp; done) | (simp [*]; done)), H', ⟨Nat.le_refl _⟩, ⟨by (with_reducible repeat (first | apply Kd.R_alloc | apply Kd.R_drewN | apply Kd.R_drew)); exact Kd.R_mono HO103.out (fun _ hk => hk.2)⟩, ⟨by (with_reducible repeat (first | apply BR_alloc | apply BR_drewN | apply BR_drew)); exact BR_mono HO106.out (fun _ hk => hk.2)⟩, ⟨by repeat (first | (with_reducible first | exact HB.out | apply below_alloc | apply pw_below_drewN | apply below_drew1) | exact HB.out)⟩⟩
 case round =>
  clear H'
  try clear c1
  try clear p2
  obtain ⟨x3_1, x10_1, rfl, HA, HK1, HO_3, HO_8, HB⟩ := hrel
  cases gk with
  | zero => exact absurd HA.out (by simp [impl_nextPoints.l0])
  | succ k1 =>
   have H := HA.out
   clear HA
   simp only [impl_nextPoints.l0] at H
   by_cases c7 : x10_1 < (y104.length : Int)
   ·
    rw [if_pos c7] at H
    have c7b0 : decide (x10_1 < (y104.length : Int)) = true := decide_eq_true c7
    clear c7
    by_cases c8 : 0 ≤ x10_1
    ·
     rw [if_pos c8] at H
     have c8b0 : decide (0 ≤ x10_1) = true := decide_eq_true c8
     clear c8
     by_cases c9 : x10_1 < (y104.length : Int)
     ·
      rw [if_pos c9] at H
      have c9b0 : decide (x10_1 < (y104.length : Int)) = true := decide_eq_true c9
      clear c9
      replace H := Option.bind_eq_some_iff.mp H
      obtain ⟨t108, A100, H⟩ := H
      replace H : (if t108 < 0 then ((impl_canFollow.f k1 a0 (rd y104 x10_1)).bind fun t109 => (if t109 = true then (if x3_1.length < 140737488355328 then (impl_nextPoints.l0 k1 a0 (x3_1 ++ [rd y104 x10_1]) y104 (y104.length : Int) (wrap64 (x10_1 + 1))) else (none)) else (impl_nextPoints.l0 k1 a0 x3_1 y104 (y104.length : Int) (wrap64 (x10_1 + 1))))) else (impl_nextPoints.l0 k1 a0 x3_1 y104 (y104.length : Int) (wrap64 (x10_1 + 1)))) = some r := H
      have A10 := Aside0.mk A100
      clear A100
      by_cases c11 : t108 < 0
      ·
       rw [if_pos c11] at H
       have c11b0 : decide (t108 < 0) = true := decide_eq_true c11
       clear c11
       replace H := Option.bind_eq_some_iff.mp H
       obtain ⟨t109, A120, H⟩ := H
       replace H : (if t109 = true then (if x3_1.length < 140737488355328 then (impl_nextPoints.l0 k1 a0 (x3_1 ++ [rd y104 x10_1]) y104 (y104.length : Int) (wrap64 (x10_1 + 1))) else (none)) else (impl_nextPoints.l0 k1 a0 x3_1 y104 (y104.length : Int) (wrap64 (x10_1 + 1)))) = some r := H
       have A12 := Aside0.mk A120
       clear A120
       by_cases c13 : t109 = true
       ·
        subst c13
        have H1 : (if x3_1.length < 140737488355328 then (impl_nextPoints.l0 k1 a0 (x3_1 ++ [rd y104 x10_1]) y104 (y104.length : Int) (wrap64 (x10_1 + 1))) else (none)) = some r := by rw [if_pos rfl] at H; exact H
        clear H
        have H := H1
        clear H1
        by_cases c14 : x3_1.length < 140737488355328
        ·
         rw [if_pos c14] at H
         have LMc14 := Aside0.mk c14
         clear c14
         obtain ⟨y110, hy110⟩ : ∃ y_ : List Int, y_ = (x3_1 ++ [rd y104 x10_1]) := ⟨_, rfl⟩
         replace H : (impl_nextPoints.l0 k1 a0 y110 y104 (y104.length : Int) (wrap64 (x10_1 + 1))) = some r := by first | (rw [hy110]; with_reducible exact H) | (have H2_ := (Option.bind_some _ _).symm.trans H; rw [hy110]; with_reducible exact H2_) | (have H2_ := (Option.bind_some _ _).symm.trans H; with_reducible exact H2_) | with_reducible exact H | (rw [hy110]; exact H) | exact H
         have Ny110 := Aside0.mk hy110
         clear hy110
         have H' := Aside0.mk H
         clear H
         have p107 : 0 ≤ (x10_1 : Int) := of_decide_eq_true (by first | (with_reducible assumption) | assumption)
         have q107 : x10_1 < (y104.length : Int) := of_decide_eq_true (by first | (with_reducible assumption) | assumption)
         obtain ⟨ad107, e107, hx107_0⟩ := Kd.at_int (BR_reads' HO_8.out).2.2 x10_1 p107 q107
         cases e107
         replace p107 := eq_true p107
         replace q107 := eq_true q107
         go_wp2_with (first | ((with_reducible refine gate_callee (f := 17) rfl ?_); refine goesL_ (some 16) rfl rfl Try.func17 (by kernel_rfl) rfl #[.string a0, .int .u8 (rd y104 x10_1)] rfl (by (try simp only [List.map_toArray, List.map_cons, List.map_nil]); first | done | rfl | (simp only [List.length_drop, List.length_take]; rfl)) ?_; (with_reducible refine (strings_IndexByte.calls a0 (rd y104 x10_1) t108 _ A10.out).mono ?_); rintro e w' ⟨rfl, ⟨nd, rfl⟩⟩; refine ⟨_, rfl, ?_⟩) | (go_at_call 18; (with_reducible refine (impl_canFollow.calls k1 a0 (rd y104 x10_1) true _ A12.out).mono ?_); rintro e w15 ⟨rfl, hb⟩; have n0_ := Aside0.mk (Kd.R_below (by (with_reducible repeat (first | apply Kd.R_alloc | apply Kd.R_drewN | apply Kd.R_drew)); exact HO_3.out) hb); have n1_ := Aside0.mk (BR_below (by (with_reducible repeat (first | apply BR_alloc | apply BR_drewN | apply BR_drew)); exact HO_8.out) hb); have n2_ := Aside0.mk (below_step (by repeat (first | (with_reducible first | exact HB.out | apply below_alloc | apply pw_below_drewN | apply below_drew1) | exact HB.out)) hb); clear HO_3; clear HO_8; clear HB; have HO_3 := n0_; have HO_8 := n1_; have HB := n2_; clear n0_ n1_ n2_; (try clear hb); (try clear hb2); (try clear hk); (try clear hi)) | ((with_reducible refine gate_builtin (b := .append) (xs := #[.tmp 23, .tmp 25]) rfl ?_); at_builtin; refine Kd.R_append (Kd.int .u8) (w0 := w) w.heap.size rfl (.tmp 23) (.tmp 25) 32 5 (.int .u8 0) 1 rfl Try.underlying32 info5 rfl (by decide) (by omega) u3 x3_1 (rd y104 x10_1) [.int .u8 (rd y104 x10_1)] (fun k_ => some k_ ≠ (.slice (some ad107) y104.length co6 : Value).ownBlock) (fun _ => False) rfl rfl ?aP (fun _ hk => hk.elim) ?aF ?aO ?aB ?aS ?aL ?_; (case aP => exact rfl); (case aB => exact (by repeat (first | (with_reducible first | exact HB.out | apply below_alloc | apply pw_below_drewN | apply below_drew1) | exact HB.out))); (case aF => exact (fun k_ hk => Kd.fresh' (BR_lt (by (with_reducible repeat (first | apply BR_alloc | apply BR_drewN | apply BR_drew)); exact HO_8.out)) k_ hk)); (case aO => exact (by (with_reducible repeat (first | apply Kd.R_alloc | apply Kd.R_drewN | apply Kd.R_drew)); exact HO_3.out)); (case aS => exact (below_size (by repeat (first | (with_reducible first | exact HB.out | apply below_alloc | apply pw_below_drewN | apply below_drew1) | exact HB.out)))); (case aL => have := LMc14.out; omega); intro v111 w16 ho hb hg hat; rw [← Ny110.out] at ho; have n0_ := Aside0.mk (BR_after (ok := (fun _ => True)) (by (with_reducible repeat (first | apply BR_alloc | apply BR_drewN | apply BR_drew)); exact BR_mono HO_8.out (fun _ hk => ⟨trivial, hk⟩)) hg hat); have n1_ := Aside0.mk (hb); have n2_ := Aside0.mk (ho); clear HO_8; clear HB; clear HO_3; have HO_8 := n0_; have HB := n1_; have HO112 := n2_; clear n0_ n1_ n2_; clear ho hb hg hat))
         go_roundg k1
         case measure => have := HK1.out; omega
         case rel => exact ⟨(y110), (wrap64 (x10_1 + 1)), (by first | rfl | (simp; done) | (simp [*]; done)), H', ⟨by have := HK1.out; omega⟩, ⟨by (with_reducible repeat (first | apply Kd.R_alloc | apply Kd.R_drewN | apply Kd.R_drew)); exact HO112.out⟩, ⟨by (with_reducible repeat (first | apply BR_alloc | apply BR_drewN | apply BR_drew)); exact BR_mono HO_8.out (fun _ hk => hk.2)⟩, ⟨by repeat (first | (with_reducible first | exact HB.out | apply below_alloc | apply pw_below_drewN | apply below_drew1) | exact HB.out)⟩⟩
        ·
         rw [if_neg c14] at H
         exact absurd H (by simp)
       ·
        replace c13 := Bool.eq_false_iff.mpr c13
        subst c13
        have H1 : (impl_nextPoints.l0 k1 a0 x3_1 y104 (y104.length : Int) (wrap64 (x10_1 + 1))) = some r := by rw [if_neg (show ¬ (false = true) by decide)] at H; exact H
        clear H
        have H := H1
        clear H1
        have H' := Aside0.mk H
        clear H
        have p107 : 0 ≤ (x10_1 : Int) := of_decide_eq_true (by first | (with_reducible assumption) | assumption)
        have q107 : x10_1 < (y104.length : Int) := of_decide_eq_true (by first | (with_reducible assumption) | assumption)
        obtain ⟨ad107, e107, hx107_0⟩ := Kd.at_int (BR_reads' HO_8.out).2.2 x10_1 p107 q107
        cases e107
        replace p107 := eq_true p107
        replace q107 := eq_true q107
        go_wp2_with (first | ((with_reducible refine gate_callee (f := 17) rfl ?_); refine goesL_ (some 16) rfl rfl Try.func17 (by kernel_rfl) rfl #[.string a0, .int .u8 (rd y104 x10_1)] rfl (by (try simp only [List.map_toArray, List.map_cons, List.map_nil]); first | done | rfl | (simp only [List.length_drop, List.length_take]; rfl)) ?_; (with_reducible refine (strings_IndexByte.calls a0 (rd y104 x10_1) t108 _ A10.out).mono ?_); rintro e w' ⟨rfl, ⟨nd, rfl⟩⟩; refine ⟨_, rfl, ?_⟩) | (go_at_call 18; (with_reducible refine (impl_canFollow.calls k1 a0 (rd y104 x10_1) false _ A12.out).mono ?_); rintro e w17 ⟨rfl, hb⟩; have n0_ := Aside0.mk (Kd.R_below (by (with_reducible repeat (first | apply Kd.R_alloc | apply Kd.R_drewN | apply Kd.R_drew)); exact HO_3.out) hb); have n1_ := Aside0.mk (BR_below (by (with_reducible repeat (first | apply BR_alloc | apply BR_drewN | apply BR_drew)); exact HO_8.out) hb); have n2_ := Aside0.mk (below_step (by repeat (first | (with_reducible first | exact HB.out | apply below_alloc | apply pw_below_drewN | apply below_drew1) | exact HB.out)) hb); clear HO_3; clear HO_8; clear HB; have HO_3 := n0_; have HO_8 := n1_; have HB := n2_; clear n0_ n1_ n2_; (try clear hb); (try clear hb2); (try clear hk); (try clear hi)))
        go_roundg k1
        case measure => have := HK1.out; omega
        case rel => exact ⟨(x3_1), (wrap64 (x10_1 + 1)), (by first | rfl | (simp; done) | (simp [*]; done)), H', ⟨by have := HK1.out; omega⟩, ⟨by (with_reducible repeat (first | apply Kd.R_alloc | apply Kd.R_drewN | apply Kd.R_drew)); exact HO_3.out⟩, ⟨by (with_reducible repeat (first | apply BR_alloc | apply BR_drewN | apply BR_drew)); exact HO_8.out⟩, ⟨by repeat (first | (with_reducible first | exact HB.out | apply below_alloc | apply pw_below_drewN | apply below_drew1) | exact HB.out)⟩⟩
      ·
       rw [if_neg c11] at H
       have c11b0 : decide (t108 < 0) = false := decide_eq_false c11
       clear c11
       have H' := Aside0.mk H
       clear H
       have p107 : 0 ≤ (x10_1 : Int) := of_decide_eq_true (by first | (with_reducible assumption) | assumption)
       have q107 : x10_1 < (y104.length : Int) := of_decide_eq_true (by first | (with_reducible assumption) | assumption)
       obtain ⟨ad107, e107, hx107_0⟩ := Kd.at_int (BR_reads' HO_8.out).2.2 x10_1 p107 q107
       cases e107
       replace p107 := eq_true p107
       replace q107 := eq_true q107
       go_wp2_with (first | ((with_reducible refine gate_callee (f := 17) rfl ?_); refine goesL_ (some 16) rfl rfl Try.func17 (by kernel_rfl) rfl #[.string a0, .int .u8 (rd y104 x10_1)] rfl (by (try simp only [List.map_toArray, List.map_cons, List.map_nil]); first | done | rfl | (simp only [List.length_drop, List.length_take]; rfl)) ?_; (with_reducible refine (strings_IndexByte.calls a0 (rd y104 x10_1) t108 _ A10.out).mono ?_); rintro e w' ⟨rfl, ⟨nd, rfl⟩⟩; refine ⟨_, rfl, ?_⟩))
       go_roundg k1
       case measure => have := HK1.out; omega
       case rel => exact ⟨(x3_1), (wrap64 (x10_1 + 1)), (by first | rfl | (simp; done) | (simp [*]; done)), H', ⟨by have := HK1.out; omega⟩, ⟨by (with_reducible repeat (first | apply Kd.R_alloc | apply Kd.R_drewN | apply Kd.R_drew)); exact HO_3.out⟩, ⟨by (with_reducible repeat (first | apply BR_alloc | apply BR_drewN | apply BR_drew)); exact HO_8.out⟩, ⟨by repeat (first | (with_reducible first | exact HB.out | apply below_alloc | apply pw_below_drewN | apply below_drew1) | exact HB.out)⟩⟩
     ·
      rw [if_neg c9] at H
      exact absurd H (by simp)
    ·
     rw [if_neg c8] at H
     exact absurd H (by simp)
   ·
    rw [if_neg c7] at H
    have c7b0 : decide (x10_1 < (y104.length : Int)) = false := decide_eq_false c7
    clear c7
    obtain rfl := Option.some.inj H
    have hcv18 := own_string (P := Try.prog) Try.underlying32 Try.underlying5 Try.underlying9 (Kd.own_of_R HO_3.out)
    go_wp2
    go_ret
    exact ⟨by first | rfl | (simp [errW_none, errW_some] <;> rfl) | (simp [*, errW_none, errW_some] <;> rfl), by repeat (first | (with_reducible first | exact HB.out | apply below_alloc | apply pw_below_drewN | apply below_drew1) | exact HB.out)⟩

end Go.Proofs.Ytjjmbinhagaifaa.P

namespace Go.Proofs.Ytjjmbinhagaifaa
open Go.RowKit Go.Proofs.YtjjmbinhagaifaaW.PrintWords
set_option linter.unusedSimpArgs false
/-! A range over a string of ASCII bytes: its place, a block of its own anywhere in memory. -/
def iterAt (w : World) (g : Nat) (s : ByteArray) (pos : Nat) : World := { w with heap := w.heap.setIfInBounds g (.stringIter s pos) }
section
variable {w w0 : World} {g B : Nat} {s : ByteArray} {pos : Nat} {o : Obj} {P : Program}
theorem iterAt_heap (h : w.heap[g]? = some o) : (iterAt w g s pos).heap[g]? = some (.stringIter s pos) := by
  have := (Array.getElem?_eq_some_iff.1 h).1
  simp [iterAt, Array.getElem?_setIfInBounds, this]
theorem iterAt_other {k : Nat} (hk : k ≠ g) : (iterAt w g s pos).heap[k]? = w.heap[k]? := by
  simp [iterAt, Array.getElem?_setIfInBounds, Ne.symm hk]
theorem iterAt_size : (iterAt w g s pos).heap.size = w.heap.size := by simp [iterAt]
theorem iterAt_below (hb : Below B w0 w) (hg : B ≤ g) : Below B w0 (iterAt w g s pos) :=
  hb.trans ⟨rfl, rfl, rfl, by rw [iterAt_size]; exact Nat.le_refl _, fun k hk => iterAt_other (by omega)⟩
theorem iterAt_cell {a : Addr} (h : a.block ≠ g) : (iterAt w g s pos).cell? a = w.cell? a := by
  simp only [World.cell?, iterAt_other h]
theorem run_next_at (ty : TypeId) (hg : w.heap[g]? = some (.stringIter s pos)) (h : pos < s.size) (ha : (s[pos]'h).toNat < 128) :
    (Instr.next (.pointer (some ⟨g, 0, none⟩)) true ty).run P w = .ok (.tuple #[.bool true, .int .i64 pos, .int .i32 (s[pos]'h).toNat]) (iterAt w g s (pos + 1)) := by
  simp only [Instr.next, getObj, setObj, Sem.run_bind, Sem.run, hg, Result.andThen, h, if_true, decode_ascii s pos h ha]
  simp [goInt, Sem.run, hg, iterAt]
theorem run_next_stop (ty : TypeId) (hg : w.heap[g]? = some (.stringIter s pos)) (h : ¬ pos < s.size) :
    (Instr.next (.pointer (some ⟨g, 0, none⟩)) true ty).run P w = .ok (.tuple #[.bool false]) w := by
  simp [Instr.next, getObj, Sem.run, hg, h]
theorem run_slice_str (ty : TypeId) (lo hi : Int) (hu : (underlying ty).run P w = .ok .string w) (h0 : 0 ≤ lo) (h1 : lo ≤ hi) (h2 : hi ≤ s.size) :
    (Instr.slice ty (.string s) (some (.int .i64 lo)) (some (.int .i64 hi)) none).run P w = .ok (.string (s.extract lo.toNat hi.toNat)) w := by
  have e1 := run_sliceBound (P := P) (w := w) .i64 hi s.size .sliceAlen (by omega) h2
  have e2 := run_sliceBound (P := P) (w := w) .i64 lo hi.toNat .sliceB h0 (by omega)
  simp [Instr.slice, Instr.sliceBounds, Sem.run, hu, Result.andThen, goInt, e1, e2]
/-- A row of the call's own is no iterator. -/
theorem Kd.R_iterAt {α : Type} {d : Kd α} {e base : Nat} {ok : Nat → Prop} {v : Value} {xs : List α} {pos' : Nat} (h : d.R e w base ok v xs) (hg : w.heap[g]? = some (.stringIter s pos)) : d.R e (iterAt w g s pos') base ok v xs := by
  have hb := Kd.R_bound h
  refine Kd.R_mono (Kd.R_move hb (fun k hk => iterAt_other ?_)) (fun _ hk => hk.1)
  rintro rfl
  obtain ⟨_, _, _, q, _, cells, hc⟩ := hk
  rw [hg] at hc
  cases hc
end
end Go.Proofs.Ytjjmbinhagaifaa

-- printed by xprint.py
namespace Go.Proofs.Ytjjmbinhagaifaa.P
open Go.RowKit Go.Proofs.YtjjmbinhagaifaaW.PrintWords Go.Proofs.YtjjmbinhagaifaaW.PrintLast Go.Proofs.YtjjmbinhagaifaaW.PrintMore
attribute [local go_sem] max2_int min2_int max_two min_two max_three min_three max_four min_four   -- for this text's walks alone
set_option linter.unusedVariables false
set_option linter.unusedSimpArgs false

/-! ### impl_countDrawn: function 9 -/
/-! A function that hands patterns on to a closure with a variable of its own: the closure's answer is always the same; what it does to its variable is 'next'. -/
def loopD {α : Type} (rec : ByteArray → α → Option (Bool × α)) (pat : ByteArray) : List UInt8 → α → Option (Bool × α)
 | [], σ => some (false, σ)
 | c :: cs, σ => (rec (pat ++ ⟨#[c]⟩) σ).bind fun r => if r.1 = true then some (true, r.2) else loopD rec pat cs r.2
def drawnF {α : Type} (next : α → ByteArray → α) (stop : Bool) : Nat → ByteArray → Int → α → Option (Bool × α)
 | 0, _, _, _ => none
 | k + 1, pat, long, σ => if (pat.size : Int) = long then some (stop, next σ pat) else if pat.size ≤ 1000 then (impl_nextPoints.f k pat).bind fun pts => if (pts.data.toList.all fun c => decide (c.toNat < 128)) = true then loopD (fun p s => drawnF next stop k p long s) pat pts.data.toList σ else none else none
theorem loopD_mono {α : Type} (r1 r2 : ByteArray → α → Option (Bool × α)) (h : ∀ p s, LeO (r1 p s) (r2 p s)) (pat : ByteArray) : ∀ (l : List UInt8) (σ : α), LeO (loopD r1 pat l σ) (loopD r2 pat l σ)
 | [], σ => LeO.refl _
 | c :: cs, σ => by
  unfold loopD
  refine LeO.bind (h _ _) (fun r => ?_)
  exact LeO.ite (LeO.refl _) (loopD_mono r1 r2 h pat cs r.2)
theorem drawnF_mono {α : Type} (next : α → ByteArray → α) (stop : Bool) : ∀ (k : Nat) (pat : ByteArray) (long : Int) (σ : α), LeO (drawnF next stop k pat long σ) (drawnF next stop (k + 1) pat long σ)
 | 0, pat, long, σ => LeO.none _
 | k + 1, pat, long, σ => by
  unfold drawnF
  refine LeO.ite (LeO.refl _) (LeO.ite (LeO.bind (impl_nextPoints.mono _ _) (fun pts => ?_)) (LeO.refl _))
  exact LeO.ite (loopD_mono _ _ (fun p s => drawnF_mono next stop k p long s) pat _ σ) (LeO.refl _)
theorem enc_asc (c : UInt8) (h : c.toNat < 128) : Utf8.encode (c.toNat : Int) = ⟨#[c]⟩ := by
 have : ∀ n : Fin 128, Utf8.encode (n.val : Int) = ⟨#[UInt8.ofNat n.val]⟩ := by decide +kernel
 have e := this ⟨c.toNat, h⟩
 simp only at e
 rw [e, UInt8.ofNat_toNat]
theorem kept_trans {w W W2 : World} {S : Nat → Prop} (h : Kept w W S) (k : Kept W W2 S) : Kept w W2 S := Kept.then_ h k (fun _ hs => .inl hs)
section
variable {α : Type} (enc : α → Value) (T : Nat) (next : α → ByteArray → α) (stop : Bool) (G b B : Nat) (w0 : World)
set_option maxHeartbeats 8000000 in
set_option maxRecDepth 100000 in
theorem drawn_calls (hBb : B ≤ b) (eg : ∀ args w, (callFunc G args).run Try.prog w = .ok (.enter G args) w)
  (hE : ∀ (W : World) (x : ByteArray) (σ : α), Below B w0 W → W.heap[b]? = some (.cells #[enc σ] T (0, 0)) → Calls Try.prog G #[.string x, .pointer (some ⟨b, 0, none⟩)] W fun e W' => e = .returned (.bool stop) ∧ Below B w0 W' ∧ W'.heap[b]? = some (.cells #[enc (next σ x)] T (0, 0)) ∧ Kept W W' (fun k => k = b)) :
  ∀ (k : Nat) (pat : ByteArray) (long : Int) (σ : α) (r : Bool × α) (W : World), Below B w0 W → W.heap[b]? = some (.cells #[enc σ] T (0, 0)) → drawnF next stop k pat long σ = some r →
   Calls Try.prog 12 #[.string pat, .int .i64 long, .func (.func G) #[] #[.pointer (some ⟨b, 0, none⟩)]] W fun e W' => e = .returned (.bool r.1) ∧ Below B w0 W' ∧ W'.heap[b]? = some (.cells #[enc r.2] T (0, 0)) ∧ Kept W W' (fun k => k = b) := by
 intro k
 induction k with
 | zero => intro pat long σ r W hB hbx h; cases h
 | succ k ih =>
  intro pat long σ r W hB hbx h
  have hlt : b < W.heap.size := by
   rcases Nat.lt_or_ge b W.heap.size with q | q
   ·
    exact q
   ·
    rw [Array.getElem?_eq_none q] at hbx; cases hbx
  unfold drawnF at h
  by_cases c : (pat.size : Int) = long
  ·
   rw [if_pos c] at h
   obtain rfl := Option.some.inj h
   have c0 : ((pat.size : Int) == long) = true := beq_iff_eq.mpr c
   have hcall := hE W pat σ hB hbx
   clear ih hE hB hbx h c hlt
   go_enter Try.func12, Try.ntmps12
   go_wp2_with fail
   refine hcall.mono ?_
   rintro e W' ⟨rfl, h1, h2, h3⟩
   have H1 := Aside0.mk (And.intro h1 (And.intro h2 h3))
   clear h1 h2 h3
   go_wp2
   go_ret
   exact ⟨rfl, H1.out.1, H1.out.2.1, H1.out.2.2⟩
  ·
   rw [if_neg c] at h
   split at h
   ·
    rename_i hsz
    obtain ⟨pts, hn, h⟩ := Option.bind_eq_some_iff.mp h
    split at h
    ·
     rename_i hasc
     rw [List.all_eq_true] at hasc
     have c0 : ((pat.size : Int) == long) = false := beq_eq_false_iff_ne.mpr c
     have hnp := impl_nextPoints.calls k pat pts W hn
     have hfit : (9223372036854775807 < pat.size + 1) = False := eq_false (by omega)
     have HH := Aside0.mk h
     have HB := Aside0.mk hB
     have HX := Aside0.mk hbx
     have IH := Aside0.mk ih
     have HA := Aside0.mk hasc
     have HL := Aside0.mk hlt
     have HW := Aside0.mk hB.size
     clear ih hE hB hbx h c hlt hn hasc
     go_enter Try.func12, Try.ntmps12
     go_wp2_with (go_at_call 16; refine hnp.mono ?_; rintro e w1 ⟨rfl, hb1⟩; have HB1 := Aside0.mk (HB.out.trans (hb1.mono (Nat.le_trans hBb (Nat.le_of_lt HL.out)))); have HX1 := Aside0.mk ((hb1.block b HL.out).trans HX.out); have HK1 := Aside0.mk (Kept.of_below hb1 (fun k => k = b)); clear hb1)
     have hsz1 : W.heap.size ≤ w1.heap.size := HK1.out.1
     obtain ⟨g, hg⟩ : ∃ g, g = w1.heap.size := ⟨_, rfl⟩
     have HG := Aside0.mk (show b < g ∧ W.heap.size ≤ g by have := HL.out; omega)
     have IT := Aside0.mk (show (w1.iter pts 0).heap[g]? = some (.stringIter pts 0) by rw [hg]; exact World.iter_heap _ _ _)
     have IB := Aside0.mk (show Below B w0 (w1.iter pts 0) from (HB1.out).alloc (by have := HL.out; omega) _)
     have IX := Aside0.mk (show (w1.iter pts 0).heap[b]? = some (.cells #[enc σ] T (0, 0)) from (Below.heap_alloc w1 _ b (by have := HL.out; omega)).trans HX1.out)
     have IK := Aside0.mk (show Kept W (w1.iter pts 0) (fun k => k = b) from Kept.alloc HK1.out _)
     rw [← hg]
     generalize w1.iter pts 0 = wi at IT IB IX IK ⊢
     clear HB1 HX1 HK1 hsz1 hg
     go_loopg [8] pts.size (fun gg _ w' => Aside0 (∃ (kk : Nat) (σ' : α), kk ≤ pts.size ∧ pts.size - kk ≤ gg ∧ w'.heap[g]? = some (.stringIter pts kk) ∧ Below B w0 w' ∧ w'.heap[b]? = some (.cells #[enc σ'] T (0, 0)) ∧ Kept W w' (fun k => k = b) ∧ loopD (fun p s => drawnF next stop k p long s) pat (pts.data.toList.drop kk) σ' = some r))
     case atStart => exact ⟨⟨0, σ, Nat.zero_le _, by omega, IT.out, IB.out, IX.out, IK.out, by simpa using HH.out⟩⟩
     case round =>
      obtain ⟨⟨kk, σ', k1, k2, k3, k4, k5, k6, k7⟩⟩ := hrel
      by_cases hk : kk < pts.size
      ·
       have hkl : kk < pts.data.toList.length := by simpa using hk
       have ha : (pts[kk]'hk).toNat < 128 := by
        have h_ := of_decide_eq_true (HA.out _ (List.getElem_mem hkl))
        rw [Array.getElem_toList] at h_
        exact h_
       have hnx := fun ty => run_next_at (P := Try.prog) ty k3 hk ha
       have hd : pts.data.toList.drop kk = (pts[kk]'hk) :: pts.data.toList.drop (kk + 1) := List.drop_eq_getElem_cons hkl
       rw [hd] at k7
       unfold loopD at k7
       obtain ⟨q, hq, k7⟩ := Option.bind_eq_some_iff.mp k7
       generalize hc : (pts[kk]'hk) = c at ha hnx hq k7
       have henc := enc_asc c ha
       have hcv : ∀ W : World, (convert 21 9 (.int .i32 (c.toNat : Int))).run Try.prog W = .ok (.string ⟨#[c]⟩) W := fun W => by rw [← henc]; exact run_convert_int_string W 21 9 .i32 _ (by rw [Try.underlying21]; rfl) Try.underlying9
       have j3 := iterAt_heap (s := pts) (pos := kk + 1) k3
       have j4 := iterAt_below (s := pts) (pos := kk + 1) k4 (Nat.le_trans hBb (Nat.le_of_lt HG.out.1))
       have j5 : (iterAt wr g pts (kk + 1)).heap[b]? = some (.cells #[enc σ'] T (0, 0)) := (iterAt_other (Nat.ne_of_lt HG.out.1)).trans k5
       have j6 : Kept W (iterAt wr g pts (kk + 1)) (fun k => k = b) := ⟨by rw [iterAt_size]; exact k6.1, fun i hi hn => (iterAt_other (by have := HG.out.2; omega)).trans (k6.2 i hi hn)⟩
       have hcall := IH.out (pat ++ ⟨#[c]⟩) long σ' q (iterAt wr g pts (kk + 1)) j4 j5 hq
       have JJ := Aside0.mk (And.intro j3 (And.intro j6 (And.intro k2 hk)))
       have K7 := Aside0.mk k7
       have hszb : (pat.size + (⟨#[c]⟩ : ByteArray).size) = pat.size + 1 := rfl
       clear k1 k2 k3 k4 k5 k6 k7 hd hq hc henc j3 j4 j5 j6 ha
       generalize iterAt wr g pts (kk + 1) = wj at hcall JJ hnx
       go_wp2_with (go_at_call 12; refine hcall.mono ?_; rintro e w2 ⟨rfl, h1, h2, h3⟩; have R1 := Aside0.mk (And.intro h1 (And.intro h2 h3)); clear h1 h2 h3; cases hq1 : q.1)
       ·
        have k7 := K7.out
        rw [hq1, if_neg (by decide)] at k7
        have jg : w2.heap[g]? = some (.stringIter pts (kk + 1)) := by
         have hgl : g < wj.heap.size := by
          rcases Nat.lt_or_ge g wj.heap.size with z | z
          ·
           exact z
          ·
           have := JJ.out.1; rw [Array.getElem?_eq_none z] at this; cases this
         exact (R1.out.2.2.2 g hgl (fun e => by have := HG.out.1; omega)).trans JJ.out.1
        have NX := Aside0.mk (show ∃ (kk' : Nat) (σ'' : α), kk' ≤ pts.size ∧ pts.size - kk' ≤ pts.size - (kk + 1) ∧ w2.heap[g]? = some (.stringIter pts kk') ∧ Below B w0 w2 ∧ w2.heap[b]? = some (.cells #[enc σ''] T (0, 0)) ∧ Kept W w2 (fun k => k = b) ∧ loopD (fun p s => drawnF next stop k p long s) pat (pts.data.toList.drop kk') σ'' = some r from ⟨kk + 1, q.2, by have := JJ.out.2.2.2; omega, Nat.le_refl _, jg, R1.out.1, R1.out.2.1, kept_trans JJ.out.2.1 R1.out.2.2, k7⟩)
        clear k7 jg
        go_wp2
        go_roundg (pts.size - (kk + 1))
        case measure => have := JJ.out.2.2; omega
        case rel => exact NX
       ·
        have k7 := K7.out
        rw [hq1, if_pos rfl] at k7
        obtain rfl := Option.some.inj k7
        have RR := Aside0.mk (And.intro R1.out.1 (And.intro R1.out.2.1 (kept_trans JJ.out.2.1 R1.out.2.2)))
        go_wp2
        go_ret
        exact ⟨rfl, RR.out.1, RR.out.2.1, RR.out.2.2⟩
      ·
       have hnx := fun ty => run_next_stop (P := Try.prog) ty k3 hk
       rw [List.drop_of_length_le (by have h_ : pts.data.toList.length = pts.size := rfl; omega)] at k7
       obtain rfl := Option.some.inj k7
       have RR := Aside0.mk (And.intro k4 (And.intro k5 k6))
       clear k1 k2 k3 k4 k5 k6 k7 hk
       go_wp2
       go_ret
       exact ⟨rfl, RR.out.1, RR.out.2.1, RR.out.2.2⟩
    ·
     cases h
   ·
    cases h
end
def impl_countDrawn.f (k : Nat) (a0 : ByteArray) (a1 : Int) : Option Int := (drawnF (fun (n : Int) (_ : ByteArray) => wrap64 (n + 1)) false k a0 a1 0).map fun r => r.2
theorem impl_countDrawn.mono : ∀ y0 y1 k, LeO (impl_countDrawn.f k y0 y1) (impl_countDrawn.f (k + 1) y0 y1) := by
 intro y0 y1 k r h
 unfold impl_countDrawn.f at h ⊢
 obtain ⟨q, hq, rfl⟩ := Option.map_eq_some_iff.1 h
 rw [drawnF_mono _ _ _ _ _ _ q hq]; rfl
set_option maxHeartbeats 8000000 in
set_option maxRecDepth 100000 in
theorem countClo_calls (b B : Nat) (w0 : World) (hBb : B ≤ b) (W : World) (x : ByteArray) (σ : Int) (hB : Below B w0 W) (hbx : W.heap[b]? = some (.cells #[.int .i64 σ] 3 (0, 0))) :
  Calls Try.prog 13 #[.string x, .pointer (some ⟨b, 0, none⟩)] W fun e W' => e = .returned (.bool false) ∧ Below B w0 W' ∧ W'.heap[b]? = some (.cells #[.int .i64 (wrap64 (σ + 1))] 3 (0, 0)) ∧ Kept W W' (fun k => k = b) := by
 have hc : W.cell? ⟨b, 0, none⟩ = some (.int .i64 σ) := (blk_cell hbx 0).trans rfl
 have hf : W.frozen? ⟨b, 0, none⟩ = false := by unfold World.frozen?; simp only [hbx]; rfl
 have HH := Aside0.mk (And.intro hB hbx)
 clear hB hbx
 go_enter Try.func13, Try.ntmps13
 go_wp2
 go_ret
 refine ⟨rfl, HH.out.1.setCell (p := ⟨b, 0, none⟩) hBb _, blk_put (cs := #[.int .i64 σ]) HH.out.2 0 _ rfl, ⟨((Below.refl 0 W).setCell (p := ⟨b, 0, none⟩) (Nat.zero_le _) _).size, fun i hi hn => Below.heap_setCell _ _ _ _ hn⟩⟩
set_option maxHeartbeats 8000000 in
set_option maxRecDepth 100000 in
theorem impl_countDrawn.calls (k : Nat) (a0 : ByteArray) (a1 : Int) (r : Int) (w : World) (h : impl_countDrawn.f k a0 a1 = some r) :
  Calls Try.prog 9 #[.string a0, .int .i64 a1] w fun e w' => e = .returned (.int .i64 r) ∧ Below w.heap.size w w' := by
 unfold impl_countDrawn.f at h
 obtain ⟨q, hq, rfl⟩ := Option.map_eq_some_iff.1 h
 have eg : ∀ args w, (callFunc 13 args).run Try.prog w = .ok (.enter 13 args) w := enters_of Try.func13 (by kernel_rfl) rfl
 have hd := fun W hB hbx => drawn_calls (Value.int .i64) 3 (fun (n : Int) (_ : ByteArray) => wrap64 (n + 1)) false 13 w.heap.size w.heap.size w (Nat.le_refl _) eg (fun W x σ hB hbx => countClo_calls w.heap.size w.heap.size w (Nat.le_refl _) W x σ hB hbx) k a0 a1 0 q W hB hbx hq
 have HD := Aside0.mk hd
 clear hd h hq
 go_enter Try.func9, Try.ntmps9
 go_wp2_with (go_at_call 12; go_loud (refine (HD.out _ ?hb ?hx).mono ?_); (case hb => first | exact below_alloc (Below.refl _ _) _ | exact (below_alloc (Below.refl _ _) _).setCell (p := ⟨w.heap.size, 0, none⟩) (Nat.le_refl _) _); (case hx => first | exact blk_new _ _ | exact blk_put (cs := #[.int .i64 0]) (blk_new _ _) 0 _ rfl); rintro e w2 ⟨rfl, h1, h2, _⟩; have hcell : w2.cell? ⟨w.heap.size, 0, none⟩ = some (.int .i64 q.2) := (blk_cell h2 0).trans rfl; have HB2 := Aside0.mk h1; clear h1 h2)
 go_ret
 exact ⟨rfl, HB2.out⟩

end Go.Proofs.Ytjjmbinhagaifaa.P

-- printed by xprint.py
namespace Go.Proofs.Ytjjmbinhagaifaa.P
open Go.RowKit Go.Proofs.YtjjmbinhagaifaaW.PrintWords Go.Proofs.YtjjmbinhagaifaaW.PrintLast Go.Proofs.YtjjmbinhagaifaaW.PrintMore
attribute [local go_sem] max2_int min2_int max_two min_two max_three min_three max_four min_four   -- for this text's walks alone
set_option linter.unusedVariables false
set_option linter.unusedSimpArgs false

/-! ### impl_patternLong: function 8 -/
def impl_patternLong.f (a0 : Int) : Option (Bool) := (impl_in.f a0 1 9).bind fun t101 => (some t101)
set_option maxHeartbeats 8000000 in
set_option maxRecDepth 100000 in
theorem impl_patternLong.calls (a0 : Int) (r : Bool) (w : World) (h : impl_patternLong.f a0 = some r) :
  Calls Try.prog 8 #[.int .i64 a0] w fun e w' => e = .returned (.bool r) ∧ Drawn0 w w' := by
 have H : ((impl_in.f a0 1 9).bind fun t101 => (some t101)) = some r := h
 clear h
 replace H := Option.bind_eq_some_iff.mp H
 obtain ⟨t101, A20, H⟩ := H
 replace H : (some t101) = some r := H
 have A2 := Aside0.mk A20
 clear A20
 obtain rfl := Option.some.inj H
 go_enter Try.func8, Try.ntmps8
 go_wp2_with (first | ((with_reducible refine gate_callee (f := 11) rfl ?_); refine goesL_ (some 4) rfl rfl Try.func11 (by kernel_rfl) rfl #[.int .i64 a0, .int .i64 1, .int .i64 9] rfl (by (try simp only [List.map_toArray, List.map_cons, List.map_nil]); first | done | rfl | (simp only [List.length_drop, List.length_take]; rfl)) ?_; (with_reducible refine (impl_in.calls a0 1 9 t101 _ A2.out).mono ?_); rintro e w' ⟨rfl, ⟨nd, rfl⟩⟩; refine ⟨_, rfl, ?_⟩))
 go_ret
 exact ⟨by first | rfl | (simp; done) | (simp [*]; done), by repeat (first | exact Drawn0.refl _ | apply Drawn0.step)⟩

end Go.Proofs.Ytjjmbinhagaifaa.P

-- printed by xprint.py
namespace Go.Proofs.Ytjjmbinhagaifaa.P
open Go.RowKit Go.Proofs.YtjjmbinhagaifaaW.PrintWords Go.Proofs.YtjjmbinhagaifaaW.PrintLast Go.Proofs.YtjjmbinhagaifaaW.PrintMore
attribute [local go_sem] max2_int min2_int max_two min_two max_three min_three max_four min_four   -- for this text's walks alone
set_option linter.unusedVariables false
set_option linter.unusedSimpArgs false

/-! ### impl_CountAllDrawn: function 5 -/
def impl_CountAllDrawn.f (k : Nat) (a0 : Int) : Option (Int × Bool) := (impl_patternLong.f a0).bind fun t101 => (if t101 = true then ((impl_countDrawn.f k (⟨#[]⟩ : ByteArray) a0).bind fun t102 => (some (t102, true))) else (some (0, false)))
theorem impl_CountAllDrawn.mono : ∀ y0 k, LeO (impl_CountAllDrawn.f k y0) (impl_CountAllDrawn.f (k + 1) y0) := by
 intro y0 k
 unfold impl_CountAllDrawn.f
 repeat' first
   | (with_reducible exact impl_countDrawn.mono _ _ _)
   | (with_reducible exact LeO.refl _)
   | (with_reducible exact LeO.none _)
   | (with_reducible refine LeO.ite ?_ ?_)
   | (with_reducible refine LeO.bind ?_ (fun _ => ?_))
   | exact impl_countDrawn.mono _ _ _
   | exact LeO.none _
   | refine LeO.ite ?_ ?_
   | refine LeO.bind ?_ (fun _ => ?_)
set_option maxHeartbeats 8000000 in
set_option maxRecDepth 100000 in
theorem impl_CountAllDrawn.calls (k : Nat) (a0 : Int) (r1 : Int) (r2 : Bool) (w : World) (h : impl_CountAllDrawn.f k a0 = some (r1, r2)) :
  Calls Try.prog 5 #[.int .i64 a0] w fun e w' => e = .returned (.tuple #[.int .i64 r1, .bool r2]) ∧ Below w.heap.size w w' := by
 have HB := Aside0.mk (Below.refl w.heap.size w)
 have H : ((impl_patternLong.f a0).bind fun t101 => (if t101 = true then ((impl_countDrawn.f k (⟨#[]⟩ : ByteArray) a0).bind fun t102 => (some (t102, true))) else (some (0, false)))) = some (r1, r2) := h
 clear h
 replace H := Option.bind_eq_some_iff.mp H
 obtain ⟨t101, A20, H⟩ := H
 replace H : (if t101 = true then ((impl_countDrawn.f k (⟨#[]⟩ : ByteArray) a0).bind fun t102 => (some (t102, true))) else (some (0, false))) = some (r1, r2) := H
 have A2 := Aside0.mk A20
 clear A20
 by_cases c3 : t101 = true
 ·
  subst c3
  have H1 : ((impl_countDrawn.f k (⟨#[]⟩ : ByteArray) a0).bind fun t102 => (some (t102, true))) = some (r1, r2) := by rw [if_pos rfl] at H; exact H
  clear H
  have H := H1
  clear H1
  replace H := Option.bind_eq_some_iff.mp H
  obtain ⟨t102, A40, H⟩ := H
  replace H : (some (t102, true)) = some (r1, r2) := H
  have A4 := Aside0.mk A40
  clear A40
  simp only [Option.some.injEq, Prod.mk.injEq] at H
  obtain ⟨rfl, rfl⟩ := H
  go_enter Try.func5, Try.ntmps5
  go_wp2_with (first | ((with_reducible refine gate_callee (f := 8) rfl ?_); refine goesL_ (some 5) rfl rfl Try.func8 (by kernel_rfl) rfl #[.int .i64 a0] rfl (by (try simp only [List.map_toArray, List.map_cons, List.map_nil]); first | done | rfl | (simp only [List.length_drop, List.length_take]; rfl)) ?_; (with_reducible refine (impl_patternLong.calls a0 true _ A2.out).mono ?_); rintro e w' ⟨rfl, ⟨nd, rfl⟩⟩; refine ⟨_, rfl, ?_⟩) | ((with_reducible refine gate_callee (f := 9) rfl ?_); refine goesL_ (some 8) rfl rfl Try.func9 (by kernel_rfl) rfl #[.string (⟨#[]⟩ : ByteArray), .int .i64 a0] rfl (by (try simp only [List.map_toArray, List.map_cons, List.map_nil]); first | done | rfl | (simp only [List.length_drop, List.length_take]; rfl)) ?_; (with_reducible refine (impl_countDrawn.calls k (⟨#[]⟩ : ByteArray) a0 t102 _ A4.out).mono ?_); rintro e w5 ⟨rfl, hb⟩; refine ⟨_, rfl, ?_⟩; have n0_ := Aside0.mk (below_step (by repeat (first | (with_reducible first | exact HB.out | apply below_alloc | apply pw_below_drewN | apply below_drew1) | exact HB.out)) hb); clear HB; have HB := n0_; clear n0_; (try clear hb); (try clear hb2); (try clear hk); (try clear hi)))
  go_ret2
  exact ⟨by first | rfl | (simp [errW_none, errW_some] <;> rfl) | (simp [*, errW_none, errW_some] <;> rfl), by repeat (first | (with_reducible first | exact HB.out | apply below_alloc | apply pw_below_drewN | apply below_drew1) | exact HB.out)⟩
 ·
  replace c3 := Bool.eq_false_iff.mpr c3
  subst c3
  have H1 : (some (0, false)) = some (r1, r2) := by rw [if_neg (show ¬ (false = true) by decide)] at H; exact H
  clear H
  have H := H1
  clear H1
  simp only [Option.some.injEq, Prod.mk.injEq] at H
  obtain ⟨rfl, rfl⟩ := H
  go_enter Try.func5, Try.ntmps5
  go_wp2_with (first | ((with_reducible refine gate_callee (f := 8) rfl ?_); refine goesL_ (some 5) rfl rfl Try.func8 (by kernel_rfl) rfl #[.int .i64 a0] rfl (by (try simp only [List.map_toArray, List.map_cons, List.map_nil]); first | done | rfl | (simp only [List.length_drop, List.length_take]; rfl)) ?_; (with_reducible refine (impl_patternLong.calls a0 false _ A2.out).mono ?_); rintro e w' ⟨rfl, ⟨nd, rfl⟩⟩; refine ⟨_, rfl, ?_⟩))
  go_ret2
  exact ⟨by first | rfl | (simp [errW_none, errW_some] <;> rfl) | (simp [*, errW_none, errW_some] <;> rfl), by repeat (first | (with_reducible first | exact HB.out | apply below_alloc | apply pw_below_drewN | apply below_drew1) | exact HB.out)⟩

end Go.Proofs.Ytjjmbinhagaifaa.P

-- printed by xprint.py
namespace Go.Proofs.Ytjjmbinhagaifaa.P
open Go.RowKit Go.Proofs.YtjjmbinhagaifaaW.PrintWords Go.Proofs.YtjjmbinhagaifaaW.PrintLast Go.Proofs.YtjjmbinhagaifaaW.PrintMore
attribute [local go_sem] max2_int min2_int max_two min_two max_three min_three max_four min_four   -- for this text's walks alone
set_option linter.unusedVariables false
set_option linter.unusedSimpArgs false

/-! ### spec_l1In: function 6 -/
def spec_l1In.f (a0 : Int) (a1 : Int) (a2 : Int) : Option (Bool) := if a0 ≥ a1 then (some (decide (a0 ≤ a2))) else (some false)
set_option maxHeartbeats 8000000 in
set_option maxRecDepth 100000 in
theorem spec_l1In.calls (a0 : Int) (a1 : Int) (a2 : Int) (r : Bool) (w : World) (h : spec_l1In.f a0 a1 a2 = some r) :
  Calls Try.prog 6 #[.int .i64 a0, .int .i64 a1, .int .i64 a2] w fun e w' => e = .returned (.bool r) ∧ Drawn0 w w' := by
 have H : (if a0 ≥ a1 then (some (decide (a0 ≤ a2))) else (some false)) = some r := h
 clear h
 by_cases c4 : a0 ≥ a1
 ·
  rw [if_pos c4] at H
  have c4b0 : decide (a1 ≤ a0) = true := decide_eq_true c4
  clear c4
  obtain rfl := Option.some.inj H
  go_enter Try.func6, Try.ntmps6
  go_wp2
  go_ret
  exact ⟨by first | rfl | (simp; done) | (simp [*]; done), by repeat (first | exact Drawn0.refl _ | apply Drawn0.step)⟩
 ·
  rw [if_neg c4] at H
  have c4b0 : decide (a1 ≤ a0) = false := decide_eq_false c4
  clear c4
  obtain rfl := Option.some.inj H
  go_enter Try.func6, Try.ntmps6
  go_wp2
  go_ret
  exact ⟨by first | rfl | (simp; done) | (simp [*]; done), by repeat (first | exact Drawn0.refl _ | apply Drawn0.step)⟩

end Go.Proofs.Ytjjmbinhagaifaa.P

-- printed by xprint.py
namespace Go.Proofs.Ytjjmbinhagaifaa.P
open Go.RowKit Go.Proofs.YtjjmbinhagaifaaW.PrintWords Go.Proofs.YtjjmbinhagaifaaW.PrintLast Go.Proofs.YtjjmbinhagaifaaW.PrintMore
attribute [local go_sem] max2_int min2_int max_two min_two max_three min_three max_four min_four   -- for this text's walks alone
set_option linter.unusedVariables false
set_option linter.unusedSimpArgs false

/-! ### spec_piBetween: function 15 -/
def spec_piBetween.f (a0 : Int) (a1 : Int) : Option (Int) := if (Int.tmod ((((a0 - 49) % 256) / 3) - (((a1 - 49) % 256) / 3)) 2) = 0 then (if (Int.tmod ((((a0 - 49) % 256) % 3) - (((a1 - 49) % 256) % 3)) 2) = 0 then (some (((((((a0 - 49) % 256) + ((a1 - 49) % 256)) / 2) % 256) + 49) % 256)) else (some 0)) else (some 0)
set_option maxHeartbeats 8000000 in
set_option maxRecDepth 100000 in
theorem spec_piBetween.calls (a0 : Int) (a1 : Int) (r : Int) (w : World) (h : spec_piBetween.f a0 a1 = some r) :
  Calls Try.prog 15 #[.int .u8 a0, .int .u8 a1] w fun e w' => e = .returned (.int .u8 r) ∧ Drawn0 w w' := by
 have H : (if (Int.tmod ((((a0 - 49) % 256) / 3) - (((a1 - 49) % 256) / 3)) 2) = 0 then (if (Int.tmod ((((a0 - 49) % 256) % 3) - (((a1 - 49) % 256) % 3)) 2) = 0 then (some (((((((a0 - 49) % 256) + ((a1 - 49) % 256)) / 2) % 256) + 49) % 256)) else (some 0)) else (some 0)) = some r := h
 clear h
 by_cases c3 : (Int.tmod ((((a0 - 49) % 256) / 3) - (((a1 - 49) % 256) / 3)) 2) = 0
 ·
  rw [if_pos c3] at H
  have c3b0 : ((Int.tmod ((((a0 - 49) % 256) / 3) - (((a1 - 49) % 256) / 3)) 2) == 0) = true := beq_iff_eq.mpr c3
  have c3b1 : ((Int.tmod ((((a0 - 49) % 256) / 3) - (((a1 - 49) % 256) / 3)) 2) != 0) = false := bne_eq_false_iff_eq.mpr c3
  clear c3
  by_cases c4 : (Int.tmod ((((a0 - 49) % 256) % 3) - (((a1 - 49) % 256) % 3)) 2) = 0
  ·
   rw [if_pos c4] at H
   have c4b0 : ((Int.tmod ((((a0 - 49) % 256) % 3) - (((a1 - 49) % 256) % 3)) 2) == 0) = true := beq_iff_eq.mpr c4
   have c4b1 : ((Int.tmod ((((a0 - 49) % 256) % 3) - (((a1 - 49) % 256) % 3)) 2) != 0) = false := bne_eq_false_iff_eq.mpr c4
   clear c4
   obtain rfl := Option.some.inj H
   go_enter Try.func15, Try.ntmps15
   go_wp2
   go_ret
   exact ⟨by first | rfl | (simp; done) | (simp [*]; done), by repeat (first | exact Drawn0.refl _ | apply Drawn0.step)⟩
  ·
   rw [if_neg c4] at H
   have c4b0 : ((Int.tmod ((((a0 - 49) % 256) % 3) - (((a1 - 49) % 256) % 3)) 2) == 0) = false := beq_eq_false_iff_ne.mpr c4
   have c4b1 : ((Int.tmod ((((a0 - 49) % 256) % 3) - (((a1 - 49) % 256) % 3)) 2) != 0) = true := bne_iff_ne.mpr c4
   obtain rfl := Option.some.inj H
   go_enter Try.func15, Try.ntmps15
   go_wp2
   go_ret
   exact ⟨by first | rfl | (simp; done) | (simp [*]; done), by repeat (first | exact Drawn0.refl _ | apply Drawn0.step)⟩
 ·
  rw [if_neg c3] at H
  have c3b0 : ((Int.tmod ((((a0 - 49) % 256) / 3) - (((a1 - 49) % 256) / 3)) 2) == 0) = false := beq_eq_false_iff_ne.mpr c3
  have c3b1 : ((Int.tmod ((((a0 - 49) % 256) / 3) - (((a1 - 49) % 256) / 3)) 2) != 0) = true := bne_iff_ne.mpr c3
  obtain rfl := Option.some.inj H
  go_enter Try.func15, Try.ntmps15
  go_wp2
  go_ret
  exact ⟨by first | rfl | (simp; done) | (simp [*]; done), by repeat (first | exact Drawn0.refl _ | apply Drawn0.step)⟩

end Go.Proofs.Ytjjmbinhagaifaa.P

-- printed by xprint.py
namespace Go.Proofs.Ytjjmbinhagaifaa.P
open Go.RowKit Go.Proofs.YtjjmbinhagaifaaW.PrintWords Go.Proofs.YtjjmbinhagaifaaW.PrintLast Go.Proofs.YtjjmbinhagaifaaW.PrintMore
attribute [local go_sem] max2_int min2_int max_two min_two max_three min_three max_four min_four   -- for this text's walks alone
set_option linter.unusedVariables false
set_option linter.unusedSimpArgs false

/-! ### spec_piHas: function 14 -/
def spec_piHas.l0 : Nat → ByteArray → Int → Int → Option (Bool)
 | 0, _, _, _ => none
 | k + 1, x0, x1, x5 => if x5 < (x0.size : Int) then (if 0 ≤ x5 then (if (bt x0 x5) = x1 then (some true) else (spec_piHas.l0 k x0 x1 (wrap64 (x5 + 1)))) else (none)) else (some false)
def spec_piHas.f (k : Nat) (a0 : ByteArray) (a1 : Int) : Option (Bool) := spec_piHas.l0 k a0 a1 0
theorem spec_piHas.mono_l : ∀ k, (∀ y0 y1 y2, LeO (spec_piHas.l0 k y0 y1 y2) (spec_piHas.l0 (k + 1) y0 y1 y2))
 | 0 => by intros; intro r h; simp [spec_piHas.l0] at h
 | k + 1 => by
  have ih0 := spec_piHas.mono_l k
  ·
   intro y0 y1 y2
   unfold spec_piHas.l0
   repeat' first
   | (with_reducible exact ih0 _ _ _)
   | (with_reducible exact LeO.refl _)
   | (with_reducible exact LeO.none _)
   | (with_reducible refine LeO.ite ?_ ?_)
   | (with_reducible refine LeO.bind ?_ (fun _ => ?_))
   | exact ih0 _ _ _
   | exact LeO.none _
   | refine LeO.ite ?_ ?_
   | refine LeO.bind ?_ (fun _ => ?_)
theorem spec_piHas.mono : ∀ y0 y1 k, LeO (spec_piHas.f k y0 y1) (spec_piHas.f (k + 1) y0 y1) := by
 intro y0 y1 k
 have ih0 := spec_piHas.mono_l k
 unfold spec_piHas.f
 repeat' first
   | (with_reducible exact ih0 _ _ _)
   | (with_reducible exact LeO.refl _)
   | (with_reducible exact LeO.none _)
   | (with_reducible refine LeO.ite ?_ ?_)
   | (with_reducible refine LeO.bind ?_ (fun _ => ?_))
   | exact ih0 _ _ _
   | exact LeO.none _
   | refine LeO.ite ?_ ?_
   | refine LeO.bind ?_ (fun _ => ?_)
set_option maxHeartbeats 8000000 in
set_option maxRecDepth 100000 in
theorem spec_piHas.calls (k : Nat) (a0 : ByteArray) (a1 : Int) (r : Bool) (w : World) (h : spec_piHas.f k a0 a1 = some r) :
  Calls Try.prog 14 #[.string a0, .int .u8 a1] w fun e w' => e = .returned (.bool r) ∧ Drawn0 w w' := by
 have H : (spec_piHas.l0 k a0 a1 0) = some r := h
 clear h
 have H' := Aside0.mk H
 clear H
 go_enter Try.func14, Try.ntmps14
 go_wp2
 go_loopg [5] k (fun kq v5 w' => ∃ (x5_1 : Int), v5 = .int .i64 x5_1 ∧ Aside0 (spec_piHas.l0 kq a0 a1 x5_1 = some r) ∧ Aside0 (kq ≤ k) ∧ Drawn0 w w')
 case atStart => exact ⟨(0), (by first | rfl | (simp; done) | (simp [*]; done)), H', ⟨Nat.le_refl _⟩, by repeat (first | exact Drawn0.refl _ | apply Drawn0.step)⟩
 case round =>
  clear H'
  try clear c1
  try clear p2
  obtain ⟨x5_1, rfl, HA, HK1, ⟨m1, rfl⟩⟩ := hrel
  cases gk with
  | zero => exact absurd HA.out (by simp [spec_piHas.l0])
  | succ k1 =>
   have H := HA.out
   clear HA
   simp only [spec_piHas.l0] at H
   by_cases c3 : x5_1 < (a0.size : Int)
   ·
    rw [if_pos c3] at H
    have c3b0 : decide (x5_1 < (a0.size : Int)) = true := decide_eq_true c3
    clear c3
    by_cases c4 : 0 ≤ x5_1
    ·
     rw [if_pos c4] at H
     have c4b0 : decide (0 ≤ x5_1) = true := decide_eq_true c4
     clear c4
     by_cases c6 : (bt a0 x5_1) = a1
     ·
      rw [if_pos c6] at H
      have c6b0 : ((bt a0 x5_1) == a1) = true := beq_iff_eq.mpr c6
      have c6b1 : ((bt a0 x5_1) != a1) = false := bne_eq_false_iff_eq.mpr c6
      clear c6
      obtain rfl := Option.some.inj H
      have p5 : 0 ≤ (x5_1 : Int) := of_decide_eq_true (by first | (with_reducible assumption) | assumption)
      have q5 : x5_1 < (a0.size : Int) := of_decide_eq_true (by first | (with_reducible assumption) | assumption)
      have hx5 := bt_at a0 x5_1
      replace p5 := eq_true p5
      replace q5 := eq_true q5
      go_wp2
      go_ret
      exact ⟨by first | rfl | (simp; done) | (simp [*]; done), by repeat (first | exact Drawn0.refl _ | apply Drawn0.step)⟩
     ·
      rw [if_neg c6] at H
      have c6b0 : ((bt a0 x5_1) == a1) = false := beq_eq_false_iff_ne.mpr c6
      have c6b1 : ((bt a0 x5_1) != a1) = true := bne_iff_ne.mpr c6
      have H' := Aside0.mk H
      clear H
      have p5 : 0 ≤ (x5_1 : Int) := of_decide_eq_true (by first | (with_reducible assumption) | assumption)
      have q5 : x5_1 < (a0.size : Int) := of_decide_eq_true (by first | (with_reducible assumption) | assumption)
      have hx5 := bt_at a0 x5_1
      replace p5 := eq_true p5
      replace q5 := eq_true q5
      go_wp2
      go_roundg k1
      case measure => have := HK1.out; omega
      case rel => exact ⟨(wrap64 (x5_1 + 1)), (by first | rfl | (simp; done) | (simp [*]; done)), H', ⟨by have := HK1.out; omega⟩, by repeat (first | exact Drawn0.refl _ | apply Drawn0.step)⟩
    ·
     rw [if_neg c4] at H
     exact absurd H (by simp)
   ·
    rw [if_neg c3] at H
    have c3b0 : decide (x5_1 < (a0.size : Int)) = false := decide_eq_false c3
    clear c3
    obtain rfl := Option.some.inj H
    go_wp2
    go_ret
    exact ⟨by first | rfl | (simp; done) | (simp [*]; done), by repeat (first | exact Drawn0.refl _ | apply Drawn0.step)⟩

end Go.Proofs.Ytjjmbinhagaifaa.P

-- printed by xprint.py
namespace Go.Proofs.Ytjjmbinhagaifaa.P
open Go.RowKit Go.Proofs.YtjjmbinhagaifaaW.PrintWords Go.Proofs.YtjjmbinhagaifaaW.PrintLast Go.Proofs.YtjjmbinhagaifaaW.PrintMore
attribute [local go_sem] max2_int min2_int max_two min_two max_three min_three max_four min_four   -- for this text's walks alone
set_option linter.unusedVariables false
set_option linter.unusedSimpArgs false

/-! ### spec_piGoes: function 10 -/
def spec_piGoes.f (k : Nat) (a0 : ByteArray) (a1 : Int) : Option (Bool) := (spec_piHas.f k a0 a1).bind fun t101 => (if t101 = true then (some false) else (if 0 ≤ (wrap64 ((a0.size : Int) - 1)) then (if (wrap64 ((a0.size : Int) - 1)) < (a0.size : Int) then ((spec_piBetween.f (bt a0 (wrap64 ((a0.size : Int) - 1))) a1).bind fun t102 => (if t102 = 0 then (some true) else ((spec_piHas.f k a0 t102).bind fun t103 => (some t103)))) else (none)) else (none)))
theorem spec_piGoes.mono : ∀ y0 y1 k, LeO (spec_piGoes.f k y0 y1) (spec_piGoes.f (k + 1) y0 y1) := by
 intro y0 y1 k
 unfold spec_piGoes.f
 repeat' first
   | (with_reducible exact spec_piHas.mono _ _ _)
   | (with_reducible exact LeO.refl _)
   | (with_reducible exact LeO.none _)
   | (with_reducible refine LeO.ite ?_ ?_)
   | (with_reducible refine LeO.bind ?_ (fun _ => ?_))
   | exact spec_piHas.mono _ _ _
   | exact LeO.none _
   | refine LeO.ite ?_ ?_
   | refine LeO.bind ?_ (fun _ => ?_)
set_option maxHeartbeats 8000000 in
set_option maxRecDepth 100000 in
theorem spec_piGoes.calls (k : Nat) (a0 : ByteArray) (a1 : Int) (r : Bool) (w : World) (h : spec_piGoes.f k a0 a1 = some r) :
  Calls Try.prog 10 #[.string a0, .int .u8 a1] w fun e w' => e = .returned (.bool r) ∧ Drawn0 w w' := by
 have H : ((spec_piHas.f k a0 a1).bind fun t101 => (if t101 = true then (some false) else (if 0 ≤ (wrap64 ((a0.size : Int) - 1)) then (if (wrap64 ((a0.size : Int) - 1)) < (a0.size : Int) then ((spec_piBetween.f (bt a0 (wrap64 ((a0.size : Int) - 1))) a1).bind fun t102 => (if t102 = 0 then (some true) else ((spec_piHas.f k a0 t102).bind fun t103 => (some t103)))) else (none)) else (none)))) = some r := h
 clear h
 replace H := Option.bind_eq_some_iff.mp H
 obtain ⟨t101, A30, H⟩ := H
 replace H : (if t101 = true then (some false) else (if 0 ≤ (wrap64 ((a0.size : Int) - 1)) then (if (wrap64 ((a0.size : Int) - 1)) < (a0.size : Int) then ((spec_piBetween.f (bt a0 (wrap64 ((a0.size : Int) - 1))) a1).bind fun t102 => (if t102 = 0 then (some true) else ((spec_piHas.f k a0 t102).bind fun t103 => (some t103)))) else (none)) else (none))) = some r := H
 have A3 := Aside0.mk A30
 clear A30
 by_cases c4 : t101 = true
 ·
  subst c4
  have H1 : (some false) = some r := by rw [if_pos rfl] at H; exact H
  clear H
  have H := H1
  clear H1
  obtain rfl := Option.some.inj H
  go_enter Try.func10, Try.ntmps10
  go_wp2_with (first | ((with_reducible refine gate_callee (f := 14) rfl ?_); refine goesL_ (some 8) rfl rfl Try.func14 (by kernel_rfl) rfl #[.string a0, .int .u8 a1] rfl (by (try simp only [List.map_toArray, List.map_cons, List.map_nil]); first | done | rfl | (simp only [List.length_drop, List.length_take]; rfl)) ?_; (with_reducible refine (spec_piHas.calls k a0 a1 true _ A3.out).mono ?_); rintro e w' ⟨rfl, ⟨nd, rfl⟩⟩; refine ⟨_, rfl, ?_⟩))
  go_ret
  exact ⟨by first | rfl | (simp; done) | (simp [*]; done), by repeat (first | exact Drawn0.refl _ | apply Drawn0.step)⟩
 ·
  replace c4 := Bool.eq_false_iff.mpr c4
  subst c4
  have H1 : (if 0 ≤ (wrap64 ((a0.size : Int) - 1)) then (if (wrap64 ((a0.size : Int) - 1)) < (a0.size : Int) then ((spec_piBetween.f (bt a0 (wrap64 ((a0.size : Int) - 1))) a1).bind fun t102 => (if t102 = 0 then (some true) else ((spec_piHas.f k a0 t102).bind fun t103 => (some t103)))) else (none)) else (none)) = some r := by rw [if_neg (show ¬ (false = true) by decide)] at H; exact H
  clear H
  have H := H1
  clear H1
  obtain ⟨ji5, hji5⟩ : ∃ j_ : Int, (wrap64 ((a0.size : Int) - 1)) = j_ := ⟨_, rfl⟩
  replace H : (if 0 ≤ (ji5) then (if (ji5) < (a0.size : Int) then ((spec_piBetween.f (bt a0 (ji5)) a1).bind fun t102 => (if t102 = 0 then (some true) else ((spec_piHas.f k a0 t102).bind fun t103 => (some t103)))) else (none)) else (none)) = some r := by first | (rw [hji5] at H; exact H) | (simp only [hji5] at H ⊢; exact H)
  (try rw [hji5] at A3)
  have hji5w : (IntKind.i64.wrap ((a0.size : Int) - 1)) = ji5 := (i64_w _).trans hji5
  by_cases c6 : 0 ≤ (ji5)
  ·
   rw [if_pos c6] at H
   have c6b0 : decide (0 ≤ (ji5)) = true := decide_eq_true c6
   clear c6
   by_cases c7 : (ji5) < (a0.size : Int)
   ·
    rw [if_pos c7] at H
    have c7b0 : decide ((ji5) < (a0.size : Int)) = true := decide_eq_true c7
    clear c7
    replace H := Option.bind_eq_some_iff.mp H
    obtain ⟨t102, A90, H⟩ := H
    replace H : (if t102 = 0 then (some true) else ((spec_piHas.f k a0 t102).bind fun t103 => (some t103))) = some r := H
    have A9 := Aside0.mk A90
    clear A90
    by_cases c10 : t102 = 0
    ·
     rw [if_pos c10] at H
     have c10b0 : (t102 == 0) = true := beq_iff_eq.mpr c10
     have c10b1 : (t102 != 0) = false := bne_eq_false_iff_eq.mpr c10
     clear c10
     obtain rfl := Option.some.inj H
     go_enter Try.func10, Try.ntmps10
     go_wp2_with (first | ((with_reducible refine gate_callee (f := 14) rfl ?_); refine goesL_ (some 8) rfl rfl Try.func14 (by kernel_rfl) rfl #[.string a0, .int .u8 a1] rfl (by (try simp only [List.map_toArray, List.map_cons, List.map_nil]); first | done | rfl | (simp only [List.length_drop, List.length_take]; rfl)) ?_; (with_reducible refine (spec_piHas.calls k a0 a1 false _ A3.out).mono ?_); rintro e w' ⟨rfl, ⟨nd, rfl⟩⟩; refine ⟨_, rfl, ?_⟩; have p8 : 0 ≤ ((ji5) : Int) := of_decide_eq_true (by first | (with_reducible assumption) | assumption); have q8 : (ji5) < (a0.size : Int) := of_decide_eq_true (by first | (with_reducible assumption) | assumption); have hx8 := bt_at a0 (ji5); replace p8 := eq_true p8; replace q8 := eq_true q8) | ((with_reducible refine gate_callee (f := 15) rfl ?_); refine goesL_ (some 15) rfl rfl Try.func15 (by kernel_rfl) rfl #[.int .u8 (bt a0 (ji5)), .int .u8 a1] rfl (by (try simp only [List.map_toArray, List.map_cons, List.map_nil]); first | done | (simp only [hji5]; rfl) | rfl | (simp only [List.length_drop, List.length_take]; rfl)) ?_; (with_reducible refine (spec_piBetween.calls (bt a0 (ji5)) a1 t102 _ A9.out).mono ?_); rintro e w' ⟨rfl, ⟨nd, rfl⟩⟩; refine ⟨_, rfl, ?_⟩))
     go_ret
     exact ⟨by first | rfl | (simp; done) | (simp only [← hji5] <;> (first | rfl | simp)) | (simp [*]; done), by repeat (first | exact Drawn0.refl _ | apply Drawn0.step)⟩
    ·
     rw [if_neg c10] at H
     have c10b0 : (t102 == 0) = false := beq_eq_false_iff_ne.mpr c10
     have c10b1 : (t102 != 0) = true := bne_iff_ne.mpr c10
     replace H := Option.bind_eq_some_iff.mp H
     obtain ⟨t103, A110, H⟩ := H
     replace H : (some t103) = some r := H
     have A11 := Aside0.mk A110
     clear A110
     obtain rfl := Option.some.inj H
     go_enter Try.func10, Try.ntmps10
     go_wp2_with (first | ((with_reducible refine gate_callee (f := 14) rfl ?_); refine goesL_ (some 8) rfl rfl Try.func14 (by kernel_rfl) rfl #[.string a0, .int .u8 a1] rfl (by (try simp only [List.map_toArray, List.map_cons, List.map_nil]); first | done | rfl | (simp only [List.length_drop, List.length_take]; rfl)) ?_; (with_reducible refine (spec_piHas.calls k a0 a1 false _ A3.out).mono ?_); rintro e w' ⟨rfl, ⟨nd, rfl⟩⟩; refine ⟨_, rfl, ?_⟩; have p8 : 0 ≤ ((ji5) : Int) := of_decide_eq_true (by first | (with_reducible assumption) | assumption); have q8 : (ji5) < (a0.size : Int) := of_decide_eq_true (by first | (with_reducible assumption) | assumption); have hx8 := bt_at a0 (ji5); replace p8 := eq_true p8; replace q8 := eq_true q8) | ((with_reducible refine gate_callee (f := 15) rfl ?_); refine goesL_ (some 15) rfl rfl Try.func15 (by kernel_rfl) rfl #[.int .u8 (bt a0 (ji5)), .int .u8 a1] rfl (by (try simp only [List.map_toArray, List.map_cons, List.map_nil]); first | done | (simp only [hji5]; rfl) | rfl | (simp only [List.length_drop, List.length_take]; rfl)) ?_; (with_reducible refine (spec_piBetween.calls (bt a0 (ji5)) a1 t102 _ A9.out).mono ?_); rintro e w' ⟨rfl, ⟨nd, rfl⟩⟩; refine ⟨_, rfl, ?_⟩) | (go_at_call 14; (with_reducible refine (spec_piHas.calls k a0 t102 t103 _ A11.out).mono ?_); rintro e w' ⟨rfl, ⟨nd, rfl⟩⟩))
     go_ret
     exact ⟨by first | rfl | (simp; done) | (simp only [← hji5] <;> (first | rfl | simp)) | (simp [*]; done), by repeat (first | exact Drawn0.refl _ | apply Drawn0.step)⟩
   ·
    rw [if_neg c7] at H
    exact absurd H (by simp)
  ·
   rw [if_neg c6] at H
   exact absurd H (by simp)

end Go.Proofs.Ytjjmbinhagaifaa.P

-- printed by xprint.py
namespace Go.Proofs.Ytjjmbinhagaifaa.P
open Go.RowKit Go.Proofs.YtjjmbinhagaifaaW.PrintWords Go.Proofs.YtjjmbinhagaifaaW.PrintLast Go.Proofs.YtjjmbinhagaifaaW.PrintMore
attribute [local go_sem] max2_int min2_int max_two min_two max_three min_three max_four min_four   -- for this text's walks alone
set_option linter.unusedVariables false
set_option linter.unusedSimpArgs false

/-! ### spec_piCount: function 7 -/
mutual
def spec_piCount.l0 : Nat → ByteArray → Int → Int → Int → Option (Int)
 | 0, _, _, _, _ => none
 | k + 1, x0, x1, x5, x6 => if x6 ≤ 57 then ((spec_piGoes.f k x0 x6).bind fun t101 => (if t101 = true then (if x0.size + (Utf8.encode (wrap32 (x6))).size ≤ 9223372036854775807 then ((spec_piCount.f k (x0 ++ (Utf8.encode (wrap32 (x6)))) (wrap64 (x1 - 1))).bind fun t102 => (spec_piCount.l0 k x0 x1 (wrap64 (x5 + t102)) ((x6 + 1) % 256))) else (none)) else (spec_piCount.l0 k x0 x1 x5 ((x6 + 1) % 256)))) else (some x5)
def spec_piCount.f : Nat → ByteArray → Int → Option (Int)
 | 0, _, _ => none
 | k + 1, a0, a1 => if a1 = 0 then (some 1) else (spec_piCount.l0 k a0 a1 0 49)
end
theorem spec_piCount.mono_l : ∀ k, (∀ y0 y1, LeO (spec_piCount.f k y0 y1) (spec_piCount.f (k + 1) y0 y1)) ∧ (∀ y0 y1 y2 y3, LeO (spec_piCount.l0 k y0 y1 y2 y3) (spec_piCount.l0 (k + 1) y0 y1 y2 y3))
 | 0 => ⟨by intros; intro r h; simp [spec_piCount.f] at h, by intros; intro r h; simp [spec_piCount.l0] at h⟩
 | k + 1 => by
  obtain ⟨ih0, ih1⟩ := spec_piCount.mono_l k
  refine ⟨?_, ?_⟩
  ·
   intro y0 y1
   unfold spec_piCount.f
   repeat' first
   | (with_reducible exact ih0 _ _)
   | (with_reducible exact ih1 _ _ _ _)
   | (with_reducible exact spec_piGoes.mono _ _ _)
   | (with_reducible exact LeO.refl _)
   | (with_reducible exact LeO.none _)
   | (with_reducible refine LeO.ite ?_ ?_)
   | (with_reducible refine LeO.bind ?_ (fun _ => ?_))
   | exact ih0 _ _
   | exact ih1 _ _ _ _
   | exact spec_piGoes.mono _ _ _
   | exact LeO.none _
   | refine LeO.ite ?_ ?_
   | refine LeO.bind ?_ (fun _ => ?_)
  ·
   intro y0 y1 y2 y3
   unfold spec_piCount.l0
   repeat' first
   | (with_reducible exact ih0 _ _)
   | (with_reducible exact ih1 _ _ _ _)
   | (with_reducible exact spec_piGoes.mono _ _ _)
   | (with_reducible exact LeO.refl _)
   | (with_reducible exact LeO.none _)
   | (with_reducible refine LeO.ite ?_ ?_)
   | (with_reducible refine LeO.bind ?_ (fun _ => ?_))
   | exact ih0 _ _
   | exact ih1 _ _ _ _
   | exact spec_piGoes.mono _ _ _
   | exact LeO.none _
   | refine LeO.ite ?_ ?_
   | refine LeO.bind ?_ (fun _ => ?_)
theorem spec_piCount.mono : ∀ y0 y1 k, LeO (spec_piCount.f k y0 y1) (spec_piCount.f (k + 1) y0 y1) := by
 intro y0 y1 k
 obtain ⟨ih0, ih1⟩ := spec_piCount.mono_l k
 exact ih0 y0 y1
set_option maxHeartbeats 8000000 in
set_option maxRecDepth 100000 in
theorem spec_piCount.calls (k : Nat) : ∀ (a0 : ByteArray) (a1 : Int) (r : Int) (w : World) (h : spec_piCount.f k a0 a1 = some r),
  Calls Try.prog 7 #[.string a0, .int .i64 a1] w fun e w' => e = .returned (.int .i64 r) ∧ Drawn0 w w' := by
 induction k using Nat.strongRecOn with
 | _ k ih =>
 intro a0 a1 r w h
 cases k with
 | zero => exact absurd h (by simp [spec_piCount.f])
 | succ k =>
 simp only [spec_piCount.f] at h
 have H : (if a1 = 0 then (some 1) else (spec_piCount.l0 k a0 a1 0 49)) = some r := h
 clear h
 by_cases c3 : a1 = 0
 ·
  rw [if_pos c3] at H
  have c3b0 : (a1 == 0) = true := beq_iff_eq.mpr c3
  have c3b1 : (a1 != 0) = false := bne_eq_false_iff_eq.mpr c3
  clear c3
  obtain rfl := Option.some.inj H
  go_enter Try.func7, Try.ntmps7
  go_wp2
  go_ret
  exact ⟨by first | rfl | (simp; done) | (simp [*]; done), by repeat (first | exact Drawn0.refl _ | apply Drawn0.step)⟩
 ·
  rw [if_neg c3] at H
  have c3b0 : (a1 == 0) = false := beq_eq_false_iff_ne.mpr c3
  have c3b1 : (a1 != 0) = true := bne_iff_ne.mpr c3
  have H' := Aside0.mk H
  clear H
  go_enter Try.func7, Try.ntmps7
  go_wp2
  go_loopg [5, 6] k (fun kq v5 v6 w' => ∃ (x5_1 : Int) (x6_1 : Int), v5 = .int .i64 x5_1 ∧ v6 = .int .u8 x6_1 ∧ Aside0 (spec_piCount.l0 kq a0 a1 x5_1 x6_1 = some r) ∧ Aside0 (kq ≤ k) ∧ Drawn0 w w')
  case atStart => exact ⟨(0), (49), (by first | rfl | (simp; done) | (simp [*]; done)), (by first | rfl | (simp; done) | (simp [*]; done)), H', ⟨Nat.le_refl _⟩, by repeat (first | exact Drawn0.refl _ | apply Drawn0.step)⟩
  case round =>
   clear H'
   try clear p2
   try clear c3
   try clear c3b0
   try clear c3b1
   obtain ⟨x5_1, x6_1, rfl, rfl, HA, HK1, ⟨m1, rfl⟩⟩ := hrel
   cases gk with
   | zero => exact absurd HA.out (by simp [spec_piCount.l0])
   | succ k1 =>
    have H := HA.out
    clear HA
    simp only [spec_piCount.l0] at H
    by_cases c4 : x6_1 ≤ 57
    ·
     rw [if_pos c4] at H
     have c4b0 : decide (x6_1 ≤ 57) = true := decide_eq_true c4
     clear c4
     replace H := Option.bind_eq_some_iff.mp H
     obtain ⟨t101, A50, H⟩ := H
     replace H : (if t101 = true then (if a0.size + (Utf8.encode (wrap32 (x6_1))).size ≤ 9223372036854775807 then ((spec_piCount.f k1 (a0 ++ (Utf8.encode (wrap32 (x6_1)))) (wrap64 (a1 - 1))).bind fun t102 => (spec_piCount.l0 k1 a0 a1 (wrap64 (x5_1 + t102)) ((x6_1 + 1) % 256))) else (none)) else (spec_piCount.l0 k1 a0 a1 x5_1 ((x6_1 + 1) % 256))) = some r := H
     have A5 := Aside0.mk A50
     clear A50
     by_cases c6 : t101 = true
     ·
      subst c6
      have H1 : (if a0.size + (Utf8.encode (wrap32 (x6_1))).size ≤ 9223372036854775807 then ((spec_piCount.f k1 (a0 ++ (Utf8.encode (wrap32 (x6_1)))) (wrap64 (a1 - 1))).bind fun t102 => (spec_piCount.l0 k1 a0 a1 (wrap64 (x5_1 + t102)) ((x6_1 + 1) % 256))) else (none)) = some r := by rw [if_pos rfl] at H; exact H
      clear H
      have H := H1
      clear H1
      by_cases c7 : a0.size + (Utf8.encode (wrap32 (x6_1))).size ≤ 9223372036854775807
      ·
       rw [if_pos c7] at H
       have c7b0 := eq_true c7
       have c7b1 : decide (a0.size + (Utf8.encode (wrap32 (x6_1))).size ≤ 9223372036854775807) = true := decide_eq_true c7
       try have c7b2 : (9223372036854775807 < a0.size + (Utf8.encode (wrap32 (x6_1))).size) = False := eq_false (Nat.not_lt.2 c7)
       replace H := Option.bind_eq_some_iff.mp H
       obtain ⟨t102, A80, H⟩ := H
       replace H : (spec_piCount.l0 k1 a0 a1 (wrap64 (x5_1 + t102)) ((x6_1 + 1) % 256)) = some r := H
       have A8 := Aside0.mk A80
       clear A80
       have H' := Aside0.mk H
       clear H
       go_wp2_with (first | ((with_reducible refine gate_callee (f := 10) rfl ?_); refine goesL_ (some 15) rfl rfl Try.func10 (by kernel_rfl) rfl #[.string a0, .int .u8 x6_1] rfl (by (try simp only [List.map_toArray, List.map_cons, List.map_nil]); first | done | rfl | (simp only [List.length_drop, List.length_take]; rfl)) ?_; (with_reducible refine (spec_piGoes.calls k1 a0 x6_1 true _ A5.out).mono ?_); rintro e w' ⟨rfl, ⟨nd, rfl⟩⟩; refine ⟨_, rfl, ?_⟩; have hcv9 : ∀ W : World, (convert 21 9 (.int .i32 (wrap32 (x6_1)))).run Try.prog W = .ok (.string (Utf8.encode (wrap32 (x6_1)))) W := fun W => run_convert_int_string W 21 9 .i32 (wrap32 (x6_1)) (by rw [Try.underlying21]; rfl) Try.underlying9) | ((with_reducible refine gate_callee (f := 7) rfl ?_); refine goesL_ (some 24) rfl rfl Try.func7 (by kernel_rfl) rfl #[.string (a0 ++ (Utf8.encode (wrap32 (x6_1)))), .int .i64 (wrap64 (a1 - 1))] rfl (by (try simp only [List.map_toArray, List.map_cons, List.map_nil]); first | done | rfl | (simp only [List.length_drop, List.length_take]; rfl)) ?_; (with_reducible refine (ih k1 (by have := HK1.out; omega) (a0 ++ (Utf8.encode (wrap32 (x6_1)))) (wrap64 (a1 - 1)) t102 _ A8.out).mono ?_); rintro e w' ⟨rfl, ⟨nd, rfl⟩⟩; refine ⟨_, rfl, ?_⟩))
       go_roundg k1
       case measure => have := HK1.out; omega
       case rel => exact ⟨(wrap64 (x5_1 + t102)), ((x6_1 + 1) % 256), (by first | rfl | (simp; done) | (simp [*]; done)), (by first | rfl | (simp; done) | (simp [*]; done)), H', ⟨by have := HK1.out; omega⟩, by repeat (first | exact Drawn0.refl _ | apply Drawn0.step)⟩
      ·
       rw [if_neg c7] at H
       exact absurd H (by simp)
     ·
      replace c6 := Bool.eq_false_iff.mpr c6
      subst c6
      have H1 : (spec_piCount.l0 k1 a0 a1 x5_1 ((x6_1 + 1) % 256)) = some r := by rw [if_neg (show ¬ (false = true) by decide)] at H; exact H
      clear H
      have H := H1
      clear H1
      have H' := Aside0.mk H
      clear H
      go_wp2_with (first | ((with_reducible refine gate_callee (f := 10) rfl ?_); refine goesL_ (some 15) rfl rfl Try.func10 (by kernel_rfl) rfl #[.string a0, .int .u8 x6_1] rfl (by (try simp only [List.map_toArray, List.map_cons, List.map_nil]); first | done | rfl | (simp only [List.length_drop, List.length_take]; rfl)) ?_; (with_reducible refine (spec_piGoes.calls k1 a0 x6_1 false _ A5.out).mono ?_); rintro e w' ⟨rfl, ⟨nd, rfl⟩⟩; refine ⟨_, rfl, ?_⟩))
      go_roundg k1
      case measure => have := HK1.out; omega
      case rel => exact ⟨(x5_1), ((x6_1 + 1) % 256), (by first | rfl | (simp; done) | (simp [*]; done)), (by first | rfl | (simp; done) | (simp [*]; done)), H', ⟨by have := HK1.out; omega⟩, by repeat (first | exact Drawn0.refl _ | apply Drawn0.step)⟩
    ·
     rw [if_neg c4] at H
     have c4b0 : decide (x6_1 ≤ 57) = false := decide_eq_false c4
     clear c4
     obtain rfl := Option.some.inj H
     go_wp2
     go_ret
     exact ⟨by first | rfl | (simp; done) | (simp [*]; done), by repeat (first | exact Drawn0.refl _ | apply Drawn0.step)⟩

end Go.Proofs.Ytjjmbinhagaifaa.P

-- printed by xprint.py
namespace Go.Proofs.Ytjjmbinhagaifaa.P
open Go.RowKit Go.Proofs.YtjjmbinhagaifaaW.PrintWords Go.Proofs.YtjjmbinhagaifaaW.PrintLast Go.Proofs.YtjjmbinhagaifaaW.PrintMore
attribute [local go_sem] max2_int min2_int max_two min_two max_three min_three max_four min_four   -- for this text's walks alone
set_option linter.unusedVariables false
set_option linter.unusedSimpArgs false

/-! ### spec_CountAllDrawn: function 4 -/
def spec_CountAllDrawn.f (k : Nat) (a0 : Int) : Option (Int × Bool) := (spec_l1In.f a0 1 9).bind fun t101 => (if t101 = true then ((spec_piCount.f k (⟨#[49]⟩ : ByteArray) (wrap64 (a0 - 1))).bind fun t102 => ((spec_piCount.f k (⟨#[50]⟩ : ByteArray) (wrap64 (a0 - 1))).bind fun t103 => ((spec_piCount.f k (⟨#[53]⟩ : ByteArray) (wrap64 (a0 - 1))).bind fun t104 => (some (wrap64 ((wrap64 ((wrap64 (4 * t102)) + (wrap64 (4 * t103)))) + t104), true))))) else (some (0, false)))
theorem spec_CountAllDrawn.mono : ∀ y0 k, LeO (spec_CountAllDrawn.f k y0) (spec_CountAllDrawn.f (k + 1) y0) := by
 intro y0 k
 unfold spec_CountAllDrawn.f
 repeat' first
   | (with_reducible exact spec_piCount.mono _ _ _)
   | (with_reducible exact LeO.refl _)
   | (with_reducible exact LeO.none _)
   | (with_reducible refine LeO.ite ?_ ?_)
   | (with_reducible refine LeO.bind ?_ (fun _ => ?_))
   | exact spec_piCount.mono _ _ _
   | exact LeO.none _
   | refine LeO.ite ?_ ?_
   | refine LeO.bind ?_ (fun _ => ?_)
set_option maxHeartbeats 8000000 in
set_option maxRecDepth 100000 in
theorem spec_CountAllDrawn.calls (k : Nat) (a0 : Int) (r1 : Int) (r2 : Bool) (w : World) (h : spec_CountAllDrawn.f k a0 = some (r1, r2)) :
  Calls Try.prog 4 #[.int .i64 a0] w fun e w' => e = .returned (.tuple #[.int .i64 r1, .bool r2]) ∧ Drawn0 w w' := by
 have H : ((spec_l1In.f a0 1 9).bind fun t101 => (if t101 = true then ((spec_piCount.f k (⟨#[49]⟩ : ByteArray) (wrap64 (a0 - 1))).bind fun t102 => ((spec_piCount.f k (⟨#[50]⟩ : ByteArray) (wrap64 (a0 - 1))).bind fun t103 => ((spec_piCount.f k (⟨#[53]⟩ : ByteArray) (wrap64 (a0 - 1))).bind fun t104 => (some (wrap64 ((wrap64 ((wrap64 (4 * t102)) + (wrap64 (4 * t103)))) + t104), true))))) else (some (0, false)))) = some (r1, r2) := h
 clear h
 replace H := Option.bind_eq_some_iff.mp H
 obtain ⟨t101, A20, H⟩ := H
 replace H : (if t101 = true then ((spec_piCount.f k (⟨#[49]⟩ : ByteArray) (wrap64 (a0 - 1))).bind fun t102 => ((spec_piCount.f k (⟨#[50]⟩ : ByteArray) (wrap64 (a0 - 1))).bind fun t103 => ((spec_piCount.f k (⟨#[53]⟩ : ByteArray) (wrap64 (a0 - 1))).bind fun t104 => (some (wrap64 ((wrap64 ((wrap64 (4 * t102)) + (wrap64 (4 * t103)))) + t104), true))))) else (some (0, false))) = some (r1, r2) := H
 have A2 := Aside0.mk A20
 clear A20
 by_cases c3 : t101 = true
 ·
  subst c3
  have H1 : ((spec_piCount.f k (⟨#[49]⟩ : ByteArray) (wrap64 (a0 - 1))).bind fun t102 => ((spec_piCount.f k (⟨#[50]⟩ : ByteArray) (wrap64 (a0 - 1))).bind fun t103 => ((spec_piCount.f k (⟨#[53]⟩ : ByteArray) (wrap64 (a0 - 1))).bind fun t104 => (some (wrap64 ((wrap64 ((wrap64 (4 * t102)) + (wrap64 (4 * t103)))) + t104), true))))) = some (r1, r2) := by rw [if_pos rfl] at H; exact H
  clear H
  have H := H1
  clear H1
  replace H := Option.bind_eq_some_iff.mp H
  obtain ⟨t102, A40, H⟩ := H
  replace H : ((spec_piCount.f k (⟨#[50]⟩ : ByteArray) (wrap64 (a0 - 1))).bind fun t103 => ((spec_piCount.f k (⟨#[53]⟩ : ByteArray) (wrap64 (a0 - 1))).bind fun t104 => (some (wrap64 ((wrap64 ((wrap64 (4 * t102)) + (wrap64 (4 * t103)))) + t104), true)))) = some (r1, r2) := H
  have A4 := Aside0.mk A40
  clear A40
  replace H := Option.bind_eq_some_iff.mp H
  obtain ⟨t103, A50, H⟩ := H
  replace H : ((spec_piCount.f k (⟨#[53]⟩ : ByteArray) (wrap64 (a0 - 1))).bind fun t104 => (some (wrap64 ((wrap64 ((wrap64 (4 * t102)) + (wrap64 (4 * t103)))) + t104), true))) = some (r1, r2) := H
  have A5 := Aside0.mk A50
  clear A50
  replace H := Option.bind_eq_some_iff.mp H
  obtain ⟨t104, A60, H⟩ := H
  replace H : (some (wrap64 ((wrap64 ((wrap64 (4 * t102)) + (wrap64 (4 * t103)))) + t104), true)) = some (r1, r2) := H
  have A6 := Aside0.mk A60
  clear A60
  simp only [Option.some.injEq, Prod.mk.injEq] at H
  obtain ⟨rfl, rfl⟩ := H
  go_enter Try.func4, Try.ntmps4
  go_wp2_with (first | ((with_reducible refine gate_callee (f := 6) rfl ?_); refine goesL_ (some 5) rfl rfl Try.func6 (by kernel_rfl) rfl #[.int .i64 a0, .int .i64 1, .int .i64 9] rfl (by (try simp only [List.map_toArray, List.map_cons, List.map_nil]); first | done | rfl | (simp only [List.length_drop, List.length_take]; rfl)) ?_; (with_reducible refine (spec_l1In.calls a0 1 9 true _ A2.out).mono ?_); rintro e w' ⟨rfl, ⟨nd, rfl⟩⟩; refine ⟨_, rfl, ?_⟩) | ((with_reducible refine gate_callee (f := 7) rfl ?_); refine goesL_ (some 9) rfl rfl Try.func7 (by kernel_rfl) rfl #[.string (⟨#[49]⟩ : ByteArray), .int .i64 (wrap64 (a0 - 1))] rfl (by (try simp only [List.map_toArray, List.map_cons, List.map_nil]); first | done | rfl | (simp only [List.length_drop, List.length_take]; rfl)) ?_; (with_reducible refine (spec_piCount.calls k (⟨#[49]⟩ : ByteArray) (wrap64 (a0 - 1)) t102 _ A4.out).mono ?_); rintro e w' ⟨rfl, ⟨nd, rfl⟩⟩; refine ⟨_, rfl, ?_⟩) | ((with_reducible refine gate_callee (f := 7) rfl ?_); refine goesL_ (some 13) rfl rfl Try.func7 (by kernel_rfl) rfl #[.string (⟨#[50]⟩ : ByteArray), .int .i64 (wrap64 (a0 - 1))] rfl (by (try simp only [List.map_toArray, List.map_cons, List.map_nil]); first | done | rfl | (simp only [List.length_drop, List.length_take]; rfl)) ?_; (with_reducible refine (spec_piCount.calls k (⟨#[50]⟩ : ByteArray) (wrap64 (a0 - 1)) t103 _ A5.out).mono ?_); rintro e w' ⟨rfl, ⟨nd, rfl⟩⟩; refine ⟨_, rfl, ?_⟩) | ((with_reducible refine gate_callee (f := 7) rfl ?_); refine goesL_ (some 18) rfl rfl Try.func7 (by kernel_rfl) rfl #[.string (⟨#[53]⟩ : ByteArray), .int .i64 (wrap64 (a0 - 1))] rfl (by (try simp only [List.map_toArray, List.map_cons, List.map_nil]); first | done | rfl | (simp only [List.length_drop, List.length_take]; rfl)) ?_; (with_reducible refine (spec_piCount.calls k (⟨#[53]⟩ : ByteArray) (wrap64 (a0 - 1)) t104 _ A6.out).mono ?_); rintro e w' ⟨rfl, ⟨nd, rfl⟩⟩; refine ⟨_, rfl, ?_⟩))
  go_ret2
  exact ⟨by first | rfl | (simp; done) | (simp [*]; done), by repeat (first | exact Drawn0.refl _ | apply Drawn0.step)⟩
 ·
  replace c3 := Bool.eq_false_iff.mpr c3
  subst c3
  have H1 : (some (0, false)) = some (r1, r2) := by rw [if_neg (show ¬ (false = true) by decide)] at H; exact H
  clear H
  have H := H1
  clear H1
  simp only [Option.some.injEq, Prod.mk.injEq] at H
  obtain ⟨rfl, rfl⟩ := H
  go_enter Try.func4, Try.ntmps4
  go_wp2_with (first | ((with_reducible refine gate_callee (f := 6) rfl ?_); refine goesL_ (some 5) rfl rfl Try.func6 (by kernel_rfl) rfl #[.int .i64 a0, .int .i64 1, .int .i64 9] rfl (by (try simp only [List.map_toArray, List.map_cons, List.map_nil]); first | done | rfl | (simp only [List.length_drop, List.length_take]; rfl)) ?_; (with_reducible refine (spec_l1In.calls a0 1 9 false _ A2.out).mono ?_); rintro e w' ⟨rfl, ⟨nd, rfl⟩⟩; refine ⟨_, rfl, ?_⟩))
  go_ret2
  exact ⟨by first | rfl | (simp; done) | (simp [*]; done), by repeat (first | exact Drawn0.refl _ | apply Drawn0.step)⟩

end Go.Proofs.Ytjjmbinhagaifaa.P

-- printed by xprint.py
namespace Go.Proofs.Ytjjmbinhagaifaa.P
open Go.RowKit Go.Proofs.YtjjmbinhagaifaaW.PrintWords Go.Proofs.YtjjmbinhagaifaaW.PrintLast Go.Proofs.YtjjmbinhagaifaaW.PrintMore
attribute [local go_sem] max2_int min2_int max_two min_two max_three min_three max_four min_four   -- for this text's walks alone
set_option linter.unusedVariables false
set_option linter.unusedSimpArgs false

/-! ### laws_FnExactCountAllDrawn: function 3 -/
def laws_FnExactCountAllDrawn.f (k : Nat) (a0 : Int) : Option (Bool) := (spec_CountAllDrawn.f k a0).bind fun bt101 => ((impl_CountAllDrawn.f k a0).bind fun bt103 => (if bt103.1 = bt101.1 then (if (bt103.2 != bt101.2) = true then (some false) else (some true)) else (some false)))
theorem laws_FnExactCountAllDrawn.mono : ∀ y0 k, LeO (laws_FnExactCountAllDrawn.f k y0) (laws_FnExactCountAllDrawn.f (k + 1) y0) := by
 intro y0 k
 unfold laws_FnExactCountAllDrawn.f
 repeat' first
   | (with_reducible exact impl_CountAllDrawn.mono _ _)
   | (with_reducible exact spec_CountAllDrawn.mono _ _)
   | (with_reducible exact LeO.refl _)
   | (with_reducible exact LeO.none _)
   | (with_reducible refine LeO.ite ?_ ?_)
   | (with_reducible refine LeO.bind ?_ (fun _ => ?_))
   | exact impl_CountAllDrawn.mono _ _
   | exact spec_CountAllDrawn.mono _ _
   | exact LeO.none _
   | refine LeO.ite ?_ ?_
   | refine LeO.bind ?_ (fun _ => ?_)
set_option maxHeartbeats 8000000 in
set_option maxRecDepth 100000 in
theorem laws_FnExactCountAllDrawn.calls (k : Nat) (a0 : Int) (r : Bool) (w : World) (h : laws_FnExactCountAllDrawn.f k a0 = some r) :
  Calls Try.prog 3 #[.int .i64 a0] w fun e w' => e = .returned (.bool r) ∧ Below w.heap.size w w' := by
 have HB := Aside0.mk (Below.refl w.heap.size w)
 have H : ((spec_CountAllDrawn.f k a0).bind fun bt101 => ((impl_CountAllDrawn.f k a0).bind fun bt103 => (if bt103.1 = bt101.1 then (if (bt103.2 != bt101.2) = true then (some false) else (some true)) else (some false)))) = some r := h
 clear h
 replace H := Option.bind_eq_some_iff.mp H
 obtain ⟨⟨t101, t102⟩, A20, H⟩ := H
 replace H : ((impl_CountAllDrawn.f k a0).bind fun bt103 => (if bt103.1 = t101 then (if (bt103.2 != t102) = true then (some false) else (some true)) else (some false))) = some r := H
 have A2 := Aside0.mk A20
 clear A20
 replace H := Option.bind_eq_some_iff.mp H
 obtain ⟨⟨t103, t104⟩, A30, H⟩ := H
 replace H : (if t103 = t101 then (if (t104 != t102) = true then (some false) else (some true)) else (some false)) = some r := H
 have A3 := Aside0.mk A30
 clear A30
 by_cases c4 : t103 = t101
 ·
  rw [if_pos c4] at H
  have c4b0 : (t103 == t101) = true := beq_iff_eq.mpr c4
  have c4b1 : (t103 != t101) = false := bne_eq_false_iff_eq.mpr c4
  clear c4
  by_cases c5 : (t104 != t102) = true
  ·
   rw [if_pos c5] at H
   have c5b0 : (t104 != t102) = true := c5
   (try (have c5b1 : decide (t104 = t102) = false := by simpa using c5))
   (try (have c5b2 : (t104 == t102) = false := by simpa using c5))
   (try (have c5b3 : ¬ (t104 = t102) := by simpa using c5))
   clear c5
   obtain rfl := Option.some.inj H
   go_enter Try.func3, Try.ntmps3
   go_wp2_with (first | ((with_reducible refine gate_callee (f := 4) rfl ?_); refine goesL_ (some 9) rfl rfl Try.func4 (by kernel_rfl) rfl #[.int .i64 a0] rfl (by (try simp only [List.map_toArray, List.map_cons, List.map_nil]); first | done | rfl | (simp only [List.length_drop, List.length_take]; rfl)) ?_; (with_reducible refine (spec_CountAllDrawn.calls k a0 t101 t102 _ A2.out).mono ?_); rintro e w' ⟨rfl, ⟨nd, rfl⟩⟩; refine ⟨_, rfl, ?_⟩) | ((with_reducible refine gate_callee (f := 5) rfl ?_); refine goesL_ (some 14) rfl rfl Try.func5 (by kernel_rfl) rfl #[.int .i64 a0] rfl (by (try simp only [List.map_toArray, List.map_cons, List.map_nil]); first | done | rfl | (simp only [List.length_drop, List.length_take]; rfl)) ?_; (with_reducible refine (impl_CountAllDrawn.calls k a0 t103 t104 _ A3.out).mono ?_); rintro e w6 ⟨rfl, hb⟩; refine ⟨_, rfl, ?_⟩; have n0_ := Aside0.mk (below_step (by repeat (first | (with_reducible first | exact HB.out | apply below_alloc | apply pw_below_drewN | apply below_drew1) | exact HB.out)) hb); clear HB; have HB := n0_; clear n0_; (try clear hb); (try clear hb2); (try clear hk); (try clear hi)))
   go_ret
   exact ⟨by first | rfl | (simp [errW_none, errW_some] <;> rfl) | (simp [*, errW_none, errW_some] <;> rfl), by repeat (first | (with_reducible first | exact HB.out | apply below_alloc | apply pw_below_drewN | apply below_drew1) | exact HB.out)⟩
  ·
   rw [if_neg c5] at H
   have c5b0 : (t104 != t102) = false := by simpa using c5
   (try (have c5b1 : decide (t104 = t102) = true := by simpa using c5))
   (try (have c5b2 : (t104 == t102) = true := by simpa using c5))
   clear c5
   obtain rfl := Option.some.inj H
   go_enter Try.func3, Try.ntmps3
   go_wp2_with (first | ((with_reducible refine gate_callee (f := 4) rfl ?_); refine goesL_ (some 9) rfl rfl Try.func4 (by kernel_rfl) rfl #[.int .i64 a0] rfl (by (try simp only [List.map_toArray, List.map_cons, List.map_nil]); first | done | rfl | (simp only [List.length_drop, List.length_take]; rfl)) ?_; (with_reducible refine (spec_CountAllDrawn.calls k a0 t101 t102 _ A2.out).mono ?_); rintro e w' ⟨rfl, ⟨nd, rfl⟩⟩; refine ⟨_, rfl, ?_⟩) | ((with_reducible refine gate_callee (f := 5) rfl ?_); refine goesL_ (some 14) rfl rfl Try.func5 (by kernel_rfl) rfl #[.int .i64 a0] rfl (by (try simp only [List.map_toArray, List.map_cons, List.map_nil]); first | done | rfl | (simp only [List.length_drop, List.length_take]; rfl)) ?_; (with_reducible refine (impl_CountAllDrawn.calls k a0 t103 t104 _ A3.out).mono ?_); rintro e w7 ⟨rfl, hb⟩; refine ⟨_, rfl, ?_⟩; have n0_ := Aside0.mk (below_step (by repeat (first | (with_reducible first | exact HB.out | apply below_alloc | apply pw_below_drewN | apply below_drew1) | exact HB.out)) hb); clear HB; have HB := n0_; clear n0_; (try clear hb); (try clear hb2); (try clear hk); (try clear hi)))
   go_ret
   exact ⟨by first | rfl | (simp [errW_none, errW_some] <;> rfl) | (simp [*, errW_none, errW_some] <;> rfl), by repeat (first | (with_reducible first | exact HB.out | apply below_alloc | apply pw_below_drewN | apply below_drew1) | exact HB.out)⟩
 ·
  rw [if_neg c4] at H
  have c4b0 : (t103 == t101) = false := beq_eq_false_iff_ne.mpr c4
  have c4b1 : (t103 != t101) = true := bne_iff_ne.mpr c4
  obtain rfl := Option.some.inj H
  go_enter Try.func3, Try.ntmps3
  go_wp2_with (first | ((with_reducible refine gate_callee (f := 4) rfl ?_); refine goesL_ (some 9) rfl rfl Try.func4 (by kernel_rfl) rfl #[.int .i64 a0] rfl (by (try simp only [List.map_toArray, List.map_cons, List.map_nil]); first | done | rfl | (simp only [List.length_drop, List.length_take]; rfl)) ?_; (with_reducible refine (spec_CountAllDrawn.calls k a0 t101 t102 _ A2.out).mono ?_); rintro e w' ⟨rfl, ⟨nd, rfl⟩⟩; refine ⟨_, rfl, ?_⟩) | ((with_reducible refine gate_callee (f := 5) rfl ?_); refine goesL_ (some 14) rfl rfl Try.func5 (by kernel_rfl) rfl #[.int .i64 a0] rfl (by (try simp only [List.map_toArray, List.map_cons, List.map_nil]); first | done | rfl | (simp only [List.length_drop, List.length_take]; rfl)) ?_; (with_reducible refine (impl_CountAllDrawn.calls k a0 t103 t104 _ A3.out).mono ?_); rintro e w8 ⟨rfl, hb⟩; refine ⟨_, rfl, ?_⟩; have n0_ := Aside0.mk (below_step (by repeat (first | (with_reducible first | exact HB.out | apply below_alloc | apply pw_below_drewN | apply below_drew1) | exact HB.out)) hb); clear HB; have HB := n0_; clear n0_; (try clear hb); (try clear hb2); (try clear hk); (try clear hi)))
  go_ret
  exact ⟨by first | rfl | (simp [errW_none, errW_some] <;> rfl) | (simp [*, errW_none, errW_some] <;> rfl), by repeat (first | (with_reducible first | exact HB.out | apply below_alloc | apply pw_below_drewN | apply below_drew1) | exact HB.out)⟩

end Go.Proofs.Ytjjmbinhagaifaa.P

namespace Go.Proofs.Ytjjmbinhagaifaa
open Go.RowKit Go.Proofs.Ytjjmbinhagaifaa.P Go.Proofs.YtjjmbinhagaifaaW.PrintWords Go.Proofs.YtjjmbinhagaifaaW.PrintLast
/-- The pure statement of FnExactCountAllDrawn. -/
def PureFnExactCountAllDrawn : Prop := ∀ (a0 : Int), (Lit.int .i64 a0).wf = true →  ∃ k, laws_FnExactCountAllDrawn.f k a0 = some true
end Go.Proofs.Ytjjmbinhagaifaa

namespace Go.Proofs.Ytjjmbinhagaifaa
open Go.RowKit Go.Proofs.YtjjmbinhagaifaaW.PrintWords
/-! Plain words for the pure statements: answers that stand from some number of rounds on. -/
theorem Ev.succ {α : Type} {g : Nat → Option α} {r : α} (h : Ev (fun k => g (k + 1)) r) : Ev g r := Ev.step (fun _ => rfl) h
theorem Ev.const {α : Type} {a : Option α} {r : α} (h : a = some r) : Ev (fun _ => a) r := ⟨0, fun _ _ => h⟩
theorem Ev.pos {α : Type} {c : Prop} [Decidable c] {g f : Nat → Option α} {r : α} (hc : c) (h : Ev g r) : Ev (fun k => if c then g k else f k) r := by simp only [if_pos hc]; exact h
theorem Ev.neg {α : Type} {c : Prop} [Decidable c] {g f : Nat → Option α} {r : α} (hc : ¬ c) (h : Ev f r) : Ev (fun k => if c then g k else f k) r := by simp only [if_neg hc]; exact h
theorem Ev.yes {α : Type} {c : Prop} [Decidable c] {g f : Nat → Option α} {r : α} (h : Ev g r) (hc : c := by first | omega | rfl | trivial | decide | simp | (simp; omega)) : Ev (fun k => if c then g k else f k) r := Ev.pos hc h
theorem Ev.no {α : Type} {c : Prop} [Decidable c] {g f : Nat → Option α} {r : α} (h : Ev f r) (hc : ¬ c := by first | omega | decide | simp | (simp; omega)) : Ev (fun k => if c then g k else f k) r := Ev.neg hc h
theorem Ev.bindc {α β : Type} {a : Option α} {x : α} {f : Nat → α → Option β} {r : β} (h : a = some x) (k : Ev (fun n => f n x) r) : Ev (fun n => a.bind (f n)) r := by subst h; exact k
theorem wrap_id {n : Int} (h1 : -9223372036854775808 ≤ n) (h2 : n ≤ 9223372036854775807) : wrap64 n = n := IntWalk.wrap64_in n ⟨h1, h2⟩
theorem wf_i64 {n : Int} (h : (Lit.int .i64 n).wf = true) : -9223372036854775808 ≤ n ∧ n ≤ 9223372036854775807 := by
  have e1 : IntKind.i64.min = -9223372036854775808 := rfl
  have e2 : IntKind.i64.max = 9223372036854775807 := rfl
  simp only [Lit.wf, e1, e2, Bool.and_eq_true, decide_eq_true_eq] at h
  exact h
theorem rd_nat (l : List Int) (j : Nat) (h : j < l.length) : rd l (j : Int) = l[j] := by unfold rd; simp [List.getD, h]
end Go.Proofs.Ytjjmbinhagaifaa

namespace Go.Proofs.Ytjjmbinhagaifaa
open Go.RowKit Go.Proofs.YtjjmbinhagaifaaW.PrintWords
set_option linter.unusedSimpArgs false
set_option linter.unusedVariables false
/-! Strings as lists of bytes. -/
/-- A string's bytes. -/
def bl (s : ByteArray) : List UInt8 := s.data.toList
theorem bl_len (s : ByteArray) : s.size = (bl s).length := rfl
theorem bl_inj {s t : ByteArray} (h : bl s = bl t) : s = t := ByteArray.ext (Array.toList_inj.1 h)
theorem bl_toList (s : ByteArray) : s.toList = bl s := Go.ByteArray.toList_eq s
theorem bl_mk (a : Array UInt8) : bl ⟨a⟩ = a.toList := rfl
theorem mk_bl (s : ByteArray) : (⟨(bl s).toArray⟩ : ByteArray) = s := bl_inj (by simp [bl])
theorem bl_extract (s : ByteArray) (i j : Nat) : bl (s.extract i j) = ((bl s).drop i).take (j - i) := by simp [bl, ByteArray.data_extract]
theorem bl_append (s t : ByteArray) : bl (s ++ t) = bl s ++ bl t := by simp [bl, ByteArray.data_append]
theorem bl_nums (l : List Int) : bl (strOfNums l) = l.map fun n => UInt8.ofNat n.toNat := rfl
theorem bl_empty : bl (⟨#[]⟩ : ByteArray) = [] := rfl
theorem bt_nat (s : ByteArray) (i : Nat) (h : i < (bl s).length) : bt s (i : Int) = ((bl s)[i].toNat : Int) := by
  unfold bt
  have h' : ((i : Int)).toNat < s.size := by rw [Int.toNat_natCast]; exact h
  rw [dif_pos h']; rfl
theorem of_toNat (c : UInt8) : UInt8.ofNat ((c.toNat : Int)).toNat = c := by rw [Int.toNat_natCast]; simp
theorem bt_of (s : ByteArray) (i : Nat) (h : i < (bl s).length) : UInt8.ofNat (bt s (i : Int)).toNat = (bl s)[i] := by rw [bt_nat s i h]; exact of_toNat _
theorem byte_eq (c d : UInt8) : ((c.toNat : Int) = (d.toNat : Int)) ↔ c = d := by
  constructor
  · intro h; exact UInt8.toNat_inj.1 (by exact_mod_cast h)
  · intro h; rw [h]
theorem byte_lt (c d : UInt8) : ((c.toNat : Int) < (d.toNat : Int)) ↔ c < d := by rw [UInt8.lt_iff_toNat_lt]; omega
theorem byte_le (c d : UInt8) : ((c.toNat : Int) ≤ (d.toNat : Int)) ↔ c ≤ d := by rw [UInt8.le_iff_toNat_le]; omega
theorem dropWhile_nil {α : Type} (p : α → Bool) : ∀ l : List α, l.dropWhile p = [] ↔ l.all p = true
  | [] => by simp
  | x :: xs => by
    by_cases h : p x = true
    · simp [List.dropWhile_cons, h, dropWhile_nil p xs]
    · simp [List.dropWhile_cons, h]
theorem dropWhile_keeps {α : Type} (p : α → Bool) : ∀ l : List α, (l.dropWhile p).all p = l.all p
  | [] => rfl
  | x :: xs => by
    by_cases h : p x = true
    · simp only [List.dropWhile_cons, h, if_true, List.all_cons, Bool.true_and]; exact dropWhile_keeps p xs
    · simp [List.dropWhile_cons, h]
theorem trimS_nil (l cs : List UInt8) : Lib.trimS l cs = [] ↔ l.all (cs.contains ·) = true := by
  unfold Lib.trimS Lib.trimLeftS Lib.trimRightS
  rw [dropWhile_nil, List.all_reverse, dropWhile_keeps, List.all_reverse]
theorem indexByte_neg (l : List UInt8) (c : UInt8) : Lib.indexByte l c < 0 ↔ ¬ c ∈ l := by
  induction l with
  | nil => simp [Lib.indexByte]
  | cons b l ih =>
    have hge := Lib.indexByte_ge l c
    unfold Lib.indexByte
    by_cases h : b = c
    · subst h; simp
    · have h1 : (b == c) = false := by simpa using h
      rw [h1]
      have h2 : ¬ c = b := fun e => h e.symm
      simp only [Bool.false_eq_true, if_false, List.mem_cons, h2, false_or]
      by_cases e : Lib.indexByte l c = -1
      · simp only [e, beq_self_eq_true, if_true]
        have := ih.1 (by omega)
        simp [this]
      · have e' : (Lib.indexByte l c == -1) = false := by simpa using e
        rw [e']
        simp only [Bool.false_eq_true, if_false]
        have hp : ¬ Lib.indexByte l c < 0 := by omega
        have := mt ih.2 hp
        constructor
        · intro h3; omega
        · intro h3; exact absurd h3 this
/-- The letters. -/
def isLow (c : UInt8) : Bool := decide (97 ≤ c.toNat) && decide (c.toNat ≤ 122)
theorem u8_all (P : UInt8 → Prop) [DecidablePred P] (h : ∀ n, n < 256 → P (UInt8.ofNat n)) (c : UInt8) : P c := by
  have := h c.toNat c.toNat_lt
  rwa [show UInt8.ofNat c.toNat = c from by simp] at this
theorem low_contains (c : UInt8) : ([97, 98, 99, 100, 101, 102, 103, 104, 105, 106, 107, 108, 109, 110, 111, 112, 113, 114, 115, 116, 117, 118, 119, 120, 121, 122] : List UInt8).contains c = isLow c := by
  refine u8_all (fun c => _ = isLow c) ?_ c
  decide +kernel
theorem dig_contains (c : UInt8) : ([48, 49, 50, 51, 52, 53, 54, 55, 56, 57] : List UInt8).contains c = (decide (48 ≤ c.toNat) && decide (c.toNat ≤ 57)) := by
  refine u8_all (fun c => _ = (decide (48 ≤ c.toNat) && decide (c.toNat ≤ 57))) ?_ c
  decide +kernel
end Go.Proofs.Ytjjmbinhagaifaa

namespace Go.Proofs.Ytjjmbinhagaifaa
open Go.RowKit Go.Proofs.Ytjjmbinhagaifaa.P Go.Proofs.YtjjmbinhagaifaaW.PrintWords
set_option linter.unusedSimpArgs false
set_option linter.unusedVariables false
/-! With which points a text can go on. -/
theorem getD_at (l : List UInt8) (i : Nat) (h : i < l.length) : l.getD i 0 = l[i] := by rw [List.getD_eq_getElem?_getD, List.getElem?_eq_getElem h]; rfl
/-- Has a text a sign, told as a number? -/
def hasI (l : List UInt8) (x : Int) : Bool := l.any fun b => ((b.toNat : Int) == x)
theorem hasI_mem (l : List UInt8) (c : UInt8) : hasI l (c.toNat : Int) = true ↔ c ∈ l := by
  unfold hasI
  rw [List.any_eq_true]
  constructor
  · rintro ⟨b, hb, h⟩
    have : b = c := UInt8.toNat_inj.1 (by have : (b.toNat : Int) = (c.toNat : Int) := by simpa using h
                                          omega)
    rwa [this] at hb
  · intro h
    exact ⟨c, h, by simp⟩
theorem piHas_l0 (s : ByteArray) (hs : s.size ≤ 1048576) (x : Int) : ∀ (d i : Nat), i + d = (bl s).length → Ev (fun k => spec_piHas.l0 k s x (i : Int)) (hasI ((bl s).drop i) x)
  | 0, i, hi => by
    have es : s.size = (bl s).length := rfl
    rw [List.drop_of_length_le (by omega)]
    apply Ev.succ; simp only [spec_piHas.l0]
    exact Ev.neg (by omega) (Ev.now _)
  | d + 1, i, hi => by
    have es : s.size = (bl s).length := rfl
    have hlt : i < (bl s).length := by omega
    have ih := piHas_l0 s hs x d (i + 1) (by omega)
    have e1 : wrap64 ((i : Int) + 1) = ((i + 1 : Nat) : Int) := by rw [wrap_id (by omega) (by omega)]; omega
    rw [List.drop_eq_getElem_cons hlt]
    unfold hasI at ih ⊢
    rw [List.any_cons]
    apply Ev.succ; simp only [spec_piHas.l0, e1]
    rw [bt_nat s i hlt]
    refine Ev.pos (by omega) (Ev.pos (by omega) ?_)
    by_cases c : ((bl s)[i].toNat : Int) = x
    · refine Ev.pos c (Ev.const ?_)
      rw [beq_iff_eq.2 c]; rfl
    · refine Ev.neg c ?_
      rw [beq_eq_false_iff_ne.2 c, Bool.false_or]
      exact ih
theorem piHas_ev (s : ByteArray) (hs : s.size ≤ 1048576) (x : Int) : Ev (fun k => spec_piHas.f k s x) (hasI (bl s) x) := by
  have := piHas_l0 s hs x (bl s).length 0 (by omega)
  rw [List.drop_zero] at this
  exact this
/-! Which point lies between. -/
/-- The reference's answer: a point, or 0. -/
def btw (a c : Int) : Int := (spec_piBetween.f a c).getD 0
def okMid (A C : Int) : Bool :=
  match impl_spotOf.f A, impl_spotOf.f C, spec_piBetween.f A C with
  | some p, some q, some b =>
    if Int.tmod (wrap64 (p.1 + q.1)) 2 = 0 ∧ Int.tmod (wrap64 (p.2 + q.2)) 2 = 0 then
      (match impl_digitAt.f 5 (wrap64 (Int.tdiv (wrap64 (p.1 + q.1)) 2)) (wrap64 (Int.tdiv (wrap64 (p.2 + q.2)) 2)) with
      | some t => decide (0 ≤ t) && decide (t < 10) && (bt (⟨#[48, 49, 50, 51, 52, 53, 54, 55, 56, 57]⟩ : ByteArray) t == b) && (decide (49 ≤ b) && decide (b ≤ 57))
      | none => false)
    else b == 0
  | _, _, _ => false
theorem okMid_all : ∀ a c : Fin 9, okMid (49 + (a.val : Int)) (49 + (c.val : Int)) = true := by decide +kernel
/-- May a text go on with a point, as far as what lies between goes? -/
def goB (l : List UInt8) (a c : Int) : Bool := (btw a c == 0) || hasI l (btw a c)
theorem idx_has (s : ByteArray) (b : Int) (h1 : 49 ≤ b) (h2 : b ≤ 57) : strings_IndexByte.f s b = some (Lib.indexByte (bl s) b.toNat.toUInt8) ∧ (Lib.indexByte (bl s) b.toNat.toUInt8 ≥ 0 ↔ hasI (bl s) b = true) := by
  refine ⟨rfl, ?_⟩
  have hb : ((b.toNat.toUInt8).toNat : Int) = b := by
    have : b.toNat < 256 := by omega
    simp; omega
  have := indexByte_neg (bl s) b.toNat.toUInt8
  have h3 := hasI_mem (bl s) b.toNat.toUInt8
  rw [hb] at h3
  rw [h3]
  constructor
  · intro h
    rcases Classical.em (b.toNat.toUInt8 ∈ bl s) with q | q
    · exact q
    · have := this.2 q; omega
  · intro h
    by_cases q : Lib.indexByte (bl s) b.toNat.toUInt8 < 0
    · exact absurd h (this.1 q)
    · omega
theorem canFollow_ev (s : ByteArray) (a c : Int) (hs : s.size ≤ 1048576) (hp : 0 < s.size) (ha : bt s ((s.size - 1 : Nat) : Int) = a) (a1 : 49 ≤ a) (a2 : a ≤ 57) (c1 : 49 ≤ c) (c2 : c ≤ 57) : Ev (fun k => impl_canFollow.f k s c) (goB (bl s) a c) := by
  have hk := okMid_all ⟨(a - 49).toNat, by omega⟩ ⟨(c - 49).toNat, by omega⟩
  simp only at hk
  rw [show (49 + ((a - 49).toNat : Int)) = a by omega, show (49 + ((c - 49).toNat : Int)) = c by omega] at hk
  unfold okMid at hk
  have e1 : wrap64 ((s.size : Int) - 1) = ((s.size - 1 : Nat) : Int) := by rw [wrap_id (by omega) (by omega)]; omega
  have hne : ¬ s.toList = [] := by
    rw [bl_toList]
    intro e
    have := congrArg List.length e
    rw [← bl_len] at this
    have h0 : s.size = 0 := this
    omega
  unfold impl_canFollow.f goB btw
  rw [e1, ha]
  refine Ev.neg hne (Ev.pos (by omega) (Ev.pos (by omega) ?_))
  cases hp1 : impl_spotOf.f a with
  | none => rw [hp1] at hk; cases hk
  | some p =>
    cases hq1 : impl_spotOf.f c with
    | none => rw [hp1, hq1] at hk; cases hk
    | some q =>
      cases hb1 : spec_piBetween.f a c with
      | none => rw [hp1, hq1, hb1] at hk; cases hk
      | some b =>
        rw [hp1, hq1, hb1] at hk
        simp only [Option.getD_some] at hk ⊢
        refine Ev.bindc rfl (Ev.bindc rfl ?_)
        by_cases e : Int.tmod (wrap64 (p.1 + q.1)) 2 = 0 ∧ Int.tmod (wrap64 (p.2 + q.2)) 2 = 0
        · rw [if_pos e] at hk
          refine Ev.pos e.1 ?_
          cases ht : impl_digitAt.f 5 (wrap64 (Int.tdiv (wrap64 (p.1 + q.1)) 2)) (wrap64 (Int.tdiv (wrap64 (p.2 + q.2)) 2)) with
          | none => rw [ht] at hk; cases hk
          | some t =>
            rw [ht] at hk
            simp only [Bool.and_eq_true, decide_eq_true_eq, beq_iff_eq] at hk
            obtain ⟨⟨⟨t1, t2⟩, t3⟩, t4, t5⟩ := hk
            obtain ⟨i1, i2⟩ := idx_has s b t4 t5
            rw [show (b == 0) = false from beq_eq_false_iff_ne.2 (by omega), Bool.false_or]
            rw [show (Int.tmod (wrap64 (p.2 + q.2)) 2 != 0) = false by rw [e.2]; rfl]
            apply Ev.succ; simp only [impl_canFollow.j0]
            refine Ev.neg (by decide) (Ev.bind (Ev.of (impl_digitAt.mono _ _) ht) (Ev.pos t1 (Ev.pos t2 ?_)))
            rw [t3, i1]
            refine Ev.bindc rfl (Ev.const ?_)
            congr 1
            rw [Bool.eq_iff_iff, decide_eq_true_iff]
            exact i2
        · rw [if_neg e] at hk
          rw [hk, Bool.true_or]
          by_cases e1 : Int.tmod (wrap64 (p.1 + q.1)) 2 = 0
          · refine Ev.pos e1 ?_
            rw [show (Int.tmod (wrap64 (p.2 + q.2)) 2 != 0) = true from bne_iff_ne.2 (fun h => e ⟨e1, h⟩)]
            apply Ev.succ; simp only [impl_canFollow.j0]
            exact Ev.pos (by trivial) (Ev.now _)
          · refine Ev.neg e1 ?_
            apply Ev.succ; simp only [impl_canFollow.j0]
            exact Ev.pos (by trivial) (Ev.now _)
theorem piBetween_some (a c : Int) : ∃ b, spec_piBetween.f a c = some b := by
  unfold spec_piBetween.f
  split
  · split <;> exact ⟨_, rfl⟩
  · exact ⟨_, rfl⟩
theorem piGoes_ev (s : ByteArray) (a c : Int) (hs : s.size ≤ 1048576) (hp : 0 < s.size) (ha : bt s ((s.size - 1 : Nat) : Int) = a) : Ev (fun k => spec_piGoes.f k s c) (!hasI (bl s) c && goB (bl s) a c) := by
  have e1 : wrap64 ((s.size : Int) - 1) = ((s.size - 1 : Nat) : Int) := by rw [wrap_id (by omega) (by omega)]; omega
  obtain ⟨b, hb⟩ := piBetween_some a c
  unfold spec_piGoes.f goB btw
  rw [e1, ha, hb]
  refine Ev.bind (piHas_ev s hs c) ?_
  cases hasI (bl s) c with
  | true => exact Ev.pos rfl (Ev.now _)
  | false =>
    refine Ev.neg (by decide) (Ev.pos (by omega) (Ev.pos (by omega) (Ev.bindc rfl ?_)))
    rw [Option.getD_some]
    by_cases e : b = 0
    · refine Ev.pos e (Ev.const ?_)
      rw [e]; rfl
    · refine Ev.neg e (Ev.bind (piHas_ev s hs b) (Ev.const ?_))
      rw [beq_eq_false_iff_ne.2 e]; rfl
end Go.Proofs.Ytjjmbinhagaifaa

namespace Go.Proofs.Ytjjmbinhagaifaa
open Go.RowKit Go.Proofs.Ytjjmbinhagaifaa.P Go.Proofs.YtjjmbinhagaifaaW.PrintWords
set_option linter.unusedSimpArgs false
set_option linter.unusedVariables false
/-! The points with which a pattern can go on. -/
def pts : List Int := [49, 50, 51, 52, 53, 54, 55, 56, 57]
/-- The last sign of a text. -/
def lastI (l : List UInt8) : Int := ((l.getD (l.length - 1) 0).toNat : Int)
def goes (l : List UInt8) (c : Int) : Bool := !hasI l c && goB l (lastI l) c
def nxt (l : List UInt8) : List Int := pts.filter (goes l)
theorem pts_at (i : Nat) (h : i < 9) : rd pts (i : Int) = 49 + i ∧ pts.drop i = (49 + (i : Int)) :: pts.drop (i + 1) := by
  have : ∀ e : Fin 9, rd pts (e.val : Int) = 49 + e.val ∧ pts.drop e.val = (49 + (e.val : Int)) :: pts.drop (e.val + 1) := by decide
  exact this ⟨i, h⟩
theorem last_bt (s : ByteArray) (hp : 0 < s.size) : bt s ((s.size - 1 : Nat) : Int) = lastI (bl s) := by
  have es : s.size = (bl s).length := rfl
  unfold lastI
  rw [bt_nat s (s.size - 1) (by omega), getD_at _ _ (by omega)]
  rfl
theorem enc_pt (i : Nat) (h : i < 9) : bl (Utf8.encode (wrap32 (49 + (i : Int)))) = [UInt8.ofNat (49 + (i : Int)).toNat] := by
  have : ∀ e : Fin 9, bl (Utf8.encode (wrap32 (49 + (e.val : Int)))) = [UInt8.ofNat (49 + (e.val : Int)).toNat] := by decide +kernel
  exact this ⟨i, h⟩
section
variable (s : ByteArray) (hs : s.size ≤ 1048576) (hp : 0 < s.size) (hl : 49 ≤ lastI (bl s) ∧ lastI (bl s) ≤ 57)
include hs hp hl
theorem next_l0 : ∀ (d i : Nat) (acc : List Int), i + d = 9 → acc.length ≤ i → Ev (fun k => impl_nextPoints.l0 k s acc pts (pts.length : Int) (i : Int)) (strOfNums (acc ++ (pts.drop i).filter (goes (bl s))))
  | 0, i, acc, hi, ha => by
    obtain rfl : i = 9 := by omega
    apply Ev.succ; simp only [impl_nextPoints.l0]
    refine Ev.neg (by decide) (Ev.const ?_)
    rw [show pts.drop 9 = [] from rfl]; simp
  | d + 1, i, acc, hi, ha => by
    obtain ⟨q1, q2⟩ := pts_at i (by omega)
    have hlp : (pts.length : Int) = 9 := rfl
    have e1 : wrap64 ((i : Int) + 1) = ((i + 1 : Nat) : Int) := by rw [wrap_id (by omega) (by omega)]; omega
    obtain ⟨i1, i2⟩ := idx_has s (49 + (i : Int)) (by omega) (by omega)
    have cf := canFollow_ev s _ (49 + (i : Int)) hs hp (last_bt s hp) hl.1 hl.2 (by omega) (by omega)
    have ih := fun acc' h => next_l0 d (i + 1) acc' (by omega) h
    rw [hlp] at ih ⊢
    rw [q2, List.filter_cons]
    unfold goes at ih ⊢
    apply Ev.succ; simp only [impl_nextPoints.l0, e1, hlp, q1, i1]
    refine Ev.pos (by omega) (Ev.pos (by omega) (Ev.pos (by omega) (Ev.bindc rfl ?_)))
    by_cases c : Lib.indexByte (bl s) (49 + (i : Int)).toNat.toUInt8 < 0
    · have hh : hasI (bl s) (49 + (i : Int)) = false := by
        cases hh : hasI (bl s) (49 + (i : Int)) with
        | false => rfl
        | true => have := i2.2 hh; omega
      refine Ev.pos c (Ev.bind cf ?_)
      rw [hh, Bool.not_false, Bool.true_and]
      cases goB (bl s) (lastI (bl s)) (49 + (i : Int)) with
      | true =>
        refine Ev.pos rfl (Ev.pos (by omega) ?_)
        rw [if_pos rfl]
        have := ih (acc ++ [49 + (i : Int)]) (by simp; omega)
        rwa [List.append_assoc, List.singleton_append] at this
      | false =>
        rw [if_neg (by decide)]
        exact Ev.neg (by decide) (ih acc (by omega))
    · have hh : hasI (bl s) (49 + (i : Int)) = true := i2.1 (by omega)
      rw [hh, Bool.not_true, Bool.false_and, if_neg (by decide)]
      exact Ev.neg c (ih acc (by omega))
theorem nextPoints_ev : Ev (fun k => impl_nextPoints.f k s) (strOfNums (nxt (bl s))) := by
  unfold impl_nextPoints.f
  exact Ev.bindc rfl (next_l0 s hs hp hl 9 0 [] (by omega) (by simp))
end
end Go.Proofs.Ytjjmbinhagaifaa

namespace Go.Proofs.Ytjjmbinhagaifaa
open Go.RowKit Go.Proofs.Ytjjmbinhagaifaa.P Go.Proofs.YtjjmbinhagaifaaW.PrintWords
set_option linter.unusedSimpArgs false
set_option linter.unusedVariables false
/-! In how many ways a pattern goes on. -/
def toB (c : Int) : UInt8 := UInt8.ofNat c.toNat
def cnt : Nat → List UInt8 → Nat
  | 0, _ => 1
  | m + 1, l => ((nxt l).map fun c => cnt m (l ++ [toB c])).sum
def isP (c : Int) : Prop := 49 ≤ c ∧ c ≤ 57
theorem pts_isP : ∀ c ∈ pts, isP c := by unfold pts isP; intro c hc; simp at hc; omega
theorem nxt_isP (l : List UInt8) : ∀ c ∈ nxt l, isP c := fun c hc => pts_isP c (List.mem_filter.1 hc).1
theorem toB_nat {c : Int} (h : isP c) : ((toB c).toNat : Int) = c := by
  obtain ⟨h1, h2⟩ := h
  unfold toB
  simp; omega
theorem bl_ext (s : ByteArray) (c : UInt8) : bl (s ++ ⟨#[c]⟩) = bl s ++ [c] := by rw [bl_append]; rfl
theorem last_ext (l : List UInt8) (c : UInt8) : lastI (l ++ [c]) = (c.toNat : Int) := by
  unfold lastI
  rw [List.getD_eq_getElem?_getD]
  simp
theorem ext_size (s : ByteArray) (c : UInt8) : (s ++ ⟨#[c]⟩ : ByteArray).size = s.size + 1 := by rw [ByteArray.size_append]; rfl
/-- A text to which points may be put. -/
def okS (s : ByteArray) : Prop := 0 < s.size ∧ 49 ≤ lastI (bl s) ∧ lastI (bl s) ≤ 57
theorem okS_ext (s : ByteArray) {c : Int} (h : isP c) : okS (s ++ ⟨#[toB c]⟩) := by
  refine ⟨by rw [ext_size]; omega, ?_⟩
  rw [bl_ext, last_ext, toB_nat h]
  exact h
theorem enc_toB (i : Nat) (h : i < 9) (s : ByteArray) : s ++ Utf8.encode (wrap32 (49 + (i : Int))) = s ++ ⟨#[toB (49 + (i : Int))]⟩ := bl_inj (by rw [bl_append, enc_pt i h, bl_ext]; rfl)
theorem sum_le (f : Int → Nat) (B : Nat) : ∀ l : List Int, (∀ c ∈ l, f c ≤ B) → (l.map f).sum ≤ l.length * B
  | [], _ => by simp
  | c :: l, h => by
    have h1 := h c List.mem_cons_self
    have h2 := sum_le f B l (fun x hx => h x (List.mem_cons_of_mem _ hx))
    rw [List.map_cons, List.sum_cons, List.length_cons, Nat.succ_mul]
    omega
theorem cnt_le : ∀ (m : Nat) (l : List UInt8), cnt m l ≤ 9 ^ m
  | 0, _ => by unfold cnt; simp
  | m + 1, l => by
    unfold cnt
    have h := sum_le (fun c => cnt m (l ++ [toB c])) (9 ^ m) (nxt l) (fun c _ => cnt_le m _)
    have hl : (nxt l).length ≤ 9 := List.length_filter_le _ _
    have hm : (nxt l).length * 9 ^ m ≤ 9 * 9 ^ m := Nat.mul_le_mul_right _ hl
    rw [Nat.pow_succ]
    omega
theorem nums_toB (l : List Int) : (strOfNums l).data.toList = l.map toB := bl_nums l
theorem asc_toB (l : List Int) (h : ∀ c ∈ l, isP c) : ((strOfNums l).data.toList.all fun c => decide (c.toNat < 128)) = true := by
  rw [nums_toB, List.all_eq_true]
  intro b hb
  obtain ⟨c, hc, rfl⟩ := List.mem_map.1 hb
  have h1 := toB_nat (h c hc)
  have h2 := h c hc
  unfold isP at h2
  simp only [decide_eq_true_eq]; omega
theorem many_loop (s : ByteArray) (long : Int) (m : Nat) (ih : ∀ (c : Int) (σ : Nat), isP c → σ + cnt m (bl s ++ [toB c]) ≤ 1000000000000 → Ev (fun k => drawnF (fun (n : Int) (_ : ByteArray) => wrap64 (n + 1)) false k (s ++ ⟨#[toB c]⟩) long (σ : Int)) (false, ((σ + cnt m (bl s ++ [toB c]) : Nat) : Int))) : ∀ (cs : List Int) (σ : Nat), (∀ c ∈ cs, isP c) → σ + (cs.map fun c => cnt m (bl s ++ [toB c])).sum ≤ 1000000000000 →
    Ev (fun k => loopD (fun p s' => drawnF (fun (n : Int) (_ : ByteArray) => wrap64 (n + 1)) false k p long s') s (cs.map toB) (σ : Int)) (false, ((σ + (cs.map fun c => cnt m (bl s ++ [toB c])).sum : Nat) : Int))
  | [], σ, hc, hb => Ev.const (by simp [loopD])
  | c :: cs, σ, hc, hb => by
    simp only [List.map_cons, List.sum_cons] at hb ⊢
    have go := many_loop s long m ih cs (σ + cnt m (bl s ++ [toB c])) (fun x hx => hc x (List.mem_cons_of_mem _ hx)) (by omega)
    unfold loopD
    refine Ev.bind (ih c σ (hc c List.mem_cons_self) (by omega)) ?_
    refine Ev.neg (by simp) ?_
    rw [← Nat.add_assoc]
    exact go
theorem many_ev : ∀ (m : Nat) (s : ByteArray) (long : Int) (σ : Nat), okS s → (s.size : Int) + m = long → long ≤ 900 → σ + cnt m (bl s) ≤ 1000000000000 → Ev (fun k => drawnF (fun (n : Int) (_ : ByteArray) => wrap64 (n + 1)) false k s long (σ : Int)) (false, ((σ + cnt m (bl s) : Nat) : Int))
  | 0, s, long, σ, hs, hl, h9, hb => by
    unfold cnt at hb ⊢
    apply Ev.succ; simp only [drawnF]
    refine Ev.pos (by omega) (Ev.const ?_)
    rw [wrap_id (by omega) (by omega)]
    rfl
  | m + 1, s, long, σ, hs, hl, h9, hb => by
    have hp := nextPoints_ev s (by omega) hs.1 hs.2
    have go := many_loop s long m (fun c σ' hc hb' => by
      have := many_ev m (s ++ ⟨#[toB c]⟩) long σ' (okS_ext s hc) (by rw [ext_size]; omega) h9 (by rw [bl_ext]; exact hb')
      rwa [bl_ext] at this) (nxt (bl s)) σ (nxt_isP _) hb
    apply Ev.succ; simp only [drawnF]
    refine Ev.neg (by omega) (Ev.pos (by omega) (Ev.bind hp (Ev.pos (asc_toB _ (nxt_isP _)) ?_)))
    rw [nums_toB]
    exact go
theorem countDrawn_ev (s : ByteArray) (m : Nat) (long : Int) (hs : okS s) (hl : (s.size : Int) + m = long) (h9 : long ≤ 900) (hb : cnt m (bl s) ≤ 1000000000000) : Ev (fun k => impl_countDrawn.f k s long) ((cnt m (bl s) : Nat) : Int) := by
  have h := many_ev m s long 0 hs hl h9 (by omega)
  obtain ⟨K, hK⟩ := h
  refine ⟨K, fun k hk => ?_⟩
  show impl_countDrawn.f k s long = _
  unfold impl_countDrawn.f
  have := hK k hk
  simp only [Nat.zero_add] at this
  rw [show ((0 : Nat) : Int) = 0 from rfl] at this
  rw [this]
  rfl
/-! The reference's count. -/
theorem piCount_l0 (s : ByteArray) (hs : okS s) (h9 : s.size ≤ 900) (m : Nat) (hm : m ≤ 900) (ih : ∀ c : Int, isP c → cnt m (bl s ++ [toB c]) ≤ 1000000000000 → Ev (fun k => spec_piCount.f k (s ++ ⟨#[toB c]⟩) (m : Int)) ((cnt m (bl s ++ [toB c]) : Nat) : Int)) : ∀ (d i : Nat) (acc : Nat), i + d = 9 → acc + (((pts.drop i).filter (goes (bl s))).map fun c => cnt m (bl s ++ [toB c])).sum ≤ 1000000000000 →
    Ev (fun k => spec_piCount.l0 k s ((m + 1 : Nat) : Int) (acc : Int) (49 + (i : Int))) (((acc + (((pts.drop i).filter (goes (bl s))).map fun c => cnt m (bl s ++ [toB c])).sum : Nat)) : Int)
  | 0, i, acc, hi, hb => by
    obtain rfl : i = 9 := by omega
    apply Ev.succ; simp only [spec_piCount.l0]
    refine Ev.neg (by decide) (Ev.const ?_)
    rw [show pts.drop 9 = [] from rfl]; simp
  | d + 1, i, acc, hi, hb => by
    obtain ⟨q1, q2⟩ := pts_at i (by omega)
    have e1 : (49 + (i : Int) + 1) % 256 = 49 + ((i + 1 : Nat) : Int) := by omega
    have e2 : wrap64 (((m + 1 : Nat) : Int) - 1) = (m : Int) := by rw [wrap_id (by omega) (by omega)]; omega
    have pg := piGoes_ev s _ (49 + (i : Int)) (by omega) hs.1 (last_bt s hs.1)
    rw [q2, List.filter_cons] at hb ⊢
    apply Ev.succ; simp only [spec_piCount.l0, e1, e2]
    refine Ev.pos (by omega) (Ev.bind pg ?_)
    show Ev (fun k => if goes (bl s) (49 + (i : Int)) = true then _ else _) _
    cases hg : goes (bl s) (49 + (i : Int)) with
    | true =>
      rw [hg, if_pos rfl, List.map_cons, List.sum_cons] at hb
      rw [if_pos rfl, List.map_cons, List.sum_cons]
      have hz : s.size + (Utf8.encode (wrap32 (49 + (i : Int)))).size ≤ 9223372036854775807 := by
        rw [bl_len (Utf8.encode _), enc_pt i (by omega), List.length_singleton]; omega
      have go := piCount_l0 s hs h9 m hm ih d (i + 1) (acc + cnt m (bl s ++ [toB (49 + (i : Int))])) (by omega) (by omega)
      refine Ev.pos rfl (Ev.pos hz ?_)
      rw [enc_toB i (by omega)]
      refine Ev.bind (ih (49 + (i : Int)) ⟨by omega, by omega⟩ (by omega)) ?_
      rw [show wrap64 ((acc : Int) + ((cnt m (bl s ++ [toB (49 + (i : Int))]) : Nat) : Int)) = ((acc + cnt m (bl s ++ [toB (49 + (i : Int))]) : Nat) : Int) by
        generalize cnt m (bl s ++ [toB (49 + (i : Int))]) = z at hb
        rw [wrap_id (by omega) (by omega)]; omega, ← Nat.add_assoc]
      exact go
    | false =>
      rw [hg, if_neg (by decide)] at hb
      rw [if_neg (by decide)]
      exact Ev.neg (by decide) (piCount_l0 s hs h9 m hm ih d (i + 1) acc (by omega) hb)
theorem piCount_ev : ∀ (m : Nat) (s : ByteArray), okS s → s.size + m ≤ 900 → cnt m (bl s) ≤ 1000000000000 → Ev (fun k => spec_piCount.f k s (m : Int)) ((cnt m (bl s) : Nat) : Int)
  | 0, s, hs, h9, hb => by
    unfold cnt
    apply Ev.succ; simp only [spec_piCount.f]
    exact Ev.pos (by omega) (Ev.now _)
  | m + 1, s, hs, h9, hb => by
    have go := piCount_l0 s hs (by omega) m (by omega) (fun c hc hb' => by
      have := piCount_ev m (s ++ ⟨#[toB c]⟩) (okS_ext s hc) (by rw [ext_size]; omega) (by rw [bl_ext]; exact hb')
      rwa [bl_ext] at this) 9 0 0 (by omega) (by rw [Nat.zero_add]; exact hb)
    apply Ev.succ; simp only [spec_piCount.f]
    refine Ev.neg (by omega) ?_
    rw [Nat.zero_add] at go
    exact go
theorem cnt_fit (m : Nat) (hm : m ≤ 9) (l : List UInt8) : cnt m l ≤ 1000000000000 := by
  have h1 := cnt_le m l
  have h2 : 9 ^ m ≤ 9 ^ 9 := Nat.pow_le_pow_right (by omega) hm
  have : 9 ^ 9 = 387420489 := rfl
  omega
end Go.Proofs.Ytjjmbinhagaifaa

namespace Go.Proofs.Ytjjmbinhagaifaa
open Go.RowKit Go.Proofs.Ytjjmbinhagaifaa.P Go.Proofs.YtjjmbinhagaifaaW.PrintWords
set_option linter.unusedSimpArgs false
set_option linter.unusedVariables false
theorem in_eq (n a b : Int) : impl_in.f n a b = some (decide (a ≤ n) && decide (n ≤ b)) := by
  unfold impl_in.f
  by_cases h : a ≤ n
  · rw [if_pos h]; simp [h]
  · rw [if_neg h]; simp [h]
theorem l1In_eq (n a b : Int) : spec_l1In.f n a b = some (decide (a ≤ n) && decide (n ≤ b)) := by
  unfold spec_l1In.f
  by_cases h : a ≤ n
  · rw [if_pos h]; simp [h]
  · rw [if_neg h]; simp [h]
end Go.Proofs.Ytjjmbinhagaifaa

/- FnExactCountAllDrawn: both sides tell the same number, for corners are alike, and so are sides: over the functions that the walk computes. -/
namespace Go.Proofs.Ytjjmbinhagaifaa
open Go.RowKit Go.Proofs.Ytjjmbinhagaifaa.P Go.Proofs.YtjjmbinhagaifaaW.PrintWords
set_option linter.unusedSimpArgs false
set_option linter.unusedVariables false
namespace CountAllDrawn
/-- A quarter of a turn. -/
def rI (c : Int) : Int := if c = 49 then 51 else if c = 50 then 54 else if c = 51 then 57 else if c = 52 then 50 else if c = 54 then 56 else if c = 55 then 49 else if c = 56 then 52 else if c = 57 then 55 else c
def rB (b : UInt8) : UInt8 := toB (rI (b.toNat : Int))
theorem rI_isP {c : Int} (h : isP c) : isP (rI c) := by
  obtain ⟨h1, h2⟩ := h
  unfold isP rI
  repeat' split
  all_goals omega
theorem rI_out {c : Int} (h : ¬ isP c) : rI c = c := by
  unfold isP at h
  unfold rI
  repeat' split
  all_goals omega
theorem rI_fin : ∀ a b : Fin 9, rI (49 + (a.val : Int)) = rI (49 + (b.val : Int)) → a = b := by decide +kernel
theorem rI_inj {a b : Int} (h : rI a = rI b) : a = b := by
  by_cases ha : isP a
  · by_cases hb : isP b
    · obtain ⟨a1, a2⟩ := ha
      obtain ⟨b1, b2⟩ := hb
      have := rI_fin ⟨(a - 49).toNat, by omega⟩ ⟨(b - 49).toNat, by omega⟩
      simp only at this
      rw [show (49 + ((a - 49).toNat : Int)) = a by omega, show (49 + ((b - 49).toNat : Int)) = b by omega] at this
      have := congrArg Fin.val (this h)
      simp only at this
      omega
    · have h1 := rI_isP ha
      rw [h, rI_out hb] at h1
      exact absurd h1 hb
  · by_cases hb : isP b
    · have h1 := rI_isP hb
      rw [← h, rI_out ha] at h1
      exact absurd h1 ha
    · rwa [rI_out ha, rI_out hb] at h
theorem btw_turn : ∀ a c : Fin 9, btw (rI (49 + (a.val : Int))) (rI (49 + (c.val : Int))) = rI (btw (49 + (a.val : Int)) (49 + (c.val : Int))) := by decide +kernel
theorem btw_rI {a c : Int} (ha : isP a) (hc : isP c) : btw (rI a) (rI c) = rI (btw a c) := by
  obtain ⟨a1, a2⟩ := ha
  obtain ⟨c1, c2⟩ := hc
  have := btw_turn ⟨(a - 49).toNat, by omega⟩ ⟨(c - 49).toNat, by omega⟩
  simp only at this
  rwa [show (49 + ((a - 49).toNat : Int)) = a by omega, show (49 + ((c - 49).toNat : Int)) = c by omega] at this
theorem rB_nat (b : UInt8) (h : isP (b.toNat : Int)) : ((rB b).toNat : Int) = rI (b.toNat : Int) := toB_nat (rI_isP h)
def allP (l : List UInt8) : Prop := ∀ b ∈ l, isP (b.toNat : Int)
theorem beq_rI (a x : Int) : (rI a == rI x) = (a == x) := by
  rw [Bool.eq_iff_iff, beq_iff_eq, beq_iff_eq]
  exact ⟨rI_inj, fun h => by rw [h]⟩
theorem hasI_turn : ∀ (l : List UInt8), allP l → ∀ x : Int, hasI (l.map rB) (rI x) = hasI l x
  | [], _, x => rfl
  | b :: l, hl, x => by
    have ih := hasI_turn l (fun y hy => hl y (List.mem_cons_of_mem _ hy)) x
    unfold hasI at ih ⊢
    rw [List.map_cons, List.any_cons, List.any_cons, ih, rB_nat b (hl b List.mem_cons_self), beq_rI]
theorem last_turn (l : List UInt8) (hn : 0 < l.length) (hl : allP l) : lastI (l.map rB) = rI (lastI l) ∧ isP (lastI l) := by
  unfold lastI
  rw [List.length_map, getD_at (l.map rB) (l.length - 1) (by rw [List.length_map]; omega), getD_at l (l.length - 1) (by omega), List.getElem_map]
  have hp := hl _ (List.getElem_mem (show l.length - 1 < l.length by omega))
  exact ⟨rB_nat _ hp, hp⟩
theorem goes_turn (l : List UInt8) (hn : 0 < l.length) (hl : allP l) (c : Int) (hc : isP c) : goes (l.map rB) (rI c) = goes l c := by
  obtain ⟨h1, h2⟩ := last_turn l hn hl
  unfold goes goB
  rw [hasI_turn l hl c, h1, btw_rI h2 hc, hasI_turn l hl]
  congr 2
  have := beq_rI (btw (lastI l) c) 0
  rwa [show rI 0 = 0 from rfl] at this
theorem pts_turn : pts.Perm (pts.map rI) := by decide
theorem nxt_turn (l : List UInt8) (hn : 0 < l.length) (hl : allP l) : (nxt (l.map rB)).Perm ((nxt l).map rI) := by
  unfold nxt
  have h1 := pts_turn.filter (goes (l.map rB))
  rw [List.filter_map] at h1
  have h2 : pts.filter (goes (l.map rB) ∘ rI) = pts.filter (goes l) := List.filter_congr fun c hc => goes_turn l hn hl c (pts_isP c hc)
  rw [h2] at h1
  exact h1
theorem sum_perm {l1 l2 : List Nat} (h : l1.Perm l2) : l1.sum = l2.sum := by
  induction h with
  | nil => rfl
  | cons x _ ih => rw [List.sum_cons, List.sum_cons, ih]
  | swap x y l => simp only [List.sum_cons]; omega
  | trans _ _ ih1 ih2 => rw [ih1, ih2]
theorem allP_ext (l : List UInt8) (hl : allP l) {c : Int} (hc : isP c) : allP (l ++ [toB c]) := by
  intro b hb
  rcases List.mem_append.1 hb with h | h
  · exact hl b h
  · rw [List.mem_singleton.1 h, toB_nat hc]; exact hc
theorem cnt_turn : ∀ (m : Nat) (l : List UInt8), 0 < l.length → allP l → cnt m (l.map rB) = cnt m l
  | 0, l, hn, hl => rfl
  | m + 1, l, hn, hl => by
    unfold cnt
    rw [sum_perm ((nxt_turn l hn hl).map _), List.map_map]
    congr 1
    refine List.map_congr_left fun c hc => ?_
    have hp := nxt_isP l c hc
    have ih := cnt_turn m (l ++ [toB c]) (by simp) (allP_ext l hl hp)
    rw [← ih, List.map_append]
    show cnt m (l.map rB ++ [toB (rI c)]) = _
    congr 2
    rw [List.map_cons, List.map_nil]
    unfold rB
    rw [toB_nat hp]
theorem allP_one (b : UInt8) (h : isP (b.toNat : Int)) : allP [b] := fun x hx => by rw [List.mem_singleton.1 hx]; exact h
theorem next_empty : impl_nextPoints.f 20 (⟨#[]⟩ : ByteArray) = some (strOfNums pts) := by decide +kernel
theorem all_ev (m : Nat) (hm : m ≤ 8) : Ev (fun k => impl_countDrawn.f k (⟨#[]⟩ : ByteArray) ((m : Int) + 1)) (((pts.map fun c => cnt m [toB c]).sum : Nat) : Int) := by
  have hfit : (pts.map fun c => cnt m [toB c]).sum ≤ 1000000000000 := by
    have h := sum_le (fun c => cnt m [toB c]) (9 ^ m) pts (fun c _ => cnt_le m _)
    have h2 : 9 ^ m ≤ 9 ^ 8 := Nat.pow_le_pow_right (by omega) hm
    have h3 : 9 ^ 8 = 43046721 := rfl
    have h4 : pts.length = 9 := rfl
    rw [h4] at h
    omega
  have lp := many_loop (⟨#[]⟩ : ByteArray) ((m : Int) + 1) m (fun c σ hc hb => by
    have := many_ev m ((⟨#[]⟩ : ByteArray) ++ ⟨#[toB c]⟩) ((m : Int) + 1) σ (okS_ext _ hc) (by rw [ext_size]; show ((0 + 1 : Nat) : Int) + m = _; omega) (by omega) (by rw [bl_ext]; exact hb)
    rwa [bl_ext] at this) pts 0 pts_isP (by rw [Nat.zero_add]; exact hfit)
  rw [← nums_toB] at lp
  have dr : Ev (fun k => drawnF (fun (n : Int) (_ : ByteArray) => wrap64 (n + 1)) false k (⟨#[]⟩ : ByteArray) ((m : Int) + 1) 0) (false, (((pts.map fun c => cnt m [toB c]).sum : Nat) : Int)) := by
    apply Ev.succ; simp only [drawnF]
    refine Ev.neg (by show ¬ ((0 : Int) = (m : Int) + 1); omega) (Ev.pos (by show 0 ≤ 1000; omega) (Ev.bind (Ev.of (impl_nextPoints.mono _) next_empty) (Ev.pos (asc_toB _ pts_isP) ?_)))
    rw [Nat.zero_add] at lp
    exact lp
  obtain ⟨K, hK⟩ := dr
  refine ⟨K, fun k hk => ?_⟩
  show impl_countDrawn.f k _ _ = _
  unfold impl_countDrawn.f
  have := hK k hk
  rw [show drawnF (fun (n : Int) (_ : ByteArray) => wrap64 (n + 1)) false k (⟨#[]⟩ : ByteArray) ((m : Int) + 1) 0 = _ from this]
  rfl
theorem alike (m : Nat) : (pts.map fun c => cnt m [toB c]).sum = 4 * cnt m [49] + 4 * cnt m [50] + cnt m [53] := by
  have t := fun (b : UInt8) (h : isP (b.toNat : Int)) => cnt_turn m [b] (by simp) (allP_one b h)
  have p : ∀ b : UInt8, 49 ≤ b.toNat → b.toNat ≤ 57 → isP (b.toNat : Int) := fun b h1 h2 => ⟨by omega, by omega⟩
  have e1 : cnt m [51] = cnt m [49] := t 49 (p 49 (by decide) (by decide))
  have e2 : cnt m [57] = cnt m [51] := t 51 (p 51 (by decide) (by decide))
  have e3 : cnt m [55] = cnt m [57] := t 57 (p 57 (by decide) (by decide))
  have e4 : cnt m [54] = cnt m [50] := t 50 (p 50 (by decide) (by decide))
  have e5 : cnt m [56] = cnt m [54] := t 54 (p 54 (by decide) (by decide))
  have e6 : cnt m [52] = cnt m [56] := t 56 (p 56 (by decide) (by decide))
  show cnt m [49] + (cnt m [50] + (cnt m [51] + (cnt m [52] + (cnt m [53] + (cnt m [54] + (cnt m [55] + (cnt m [56] + (cnt m [57] + 0)))))))) = _
  omega
theorem one_ok (b : UInt8) (h1 : 49 ≤ b.toNat) (h2 : b.toNat ≤ 57) : okS (⟨#[b]⟩ : ByteArray) := by
  refine ⟨by show 0 < 1; omega, ?_⟩
  show 49 ≤ (b.toNat : Int) ∧ (b.toNat : Int) ≤ 57
  omega
theorem both (long : Int) : ∃ r : Int × Bool, Ev (fun k => spec_CountAllDrawn.f k long) r ∧ Ev (fun k => impl_CountAllDrawn.f k long) r := by
  have hpl : impl_patternLong.f long = some (decide (1 ≤ long) && decide (long ≤ 9)) := by unfold impl_patternLong.f; rw [in_eq]; rfl
  unfold spec_CountAllDrawn.f impl_CountAllDrawn.f
  cases h2 : (decide (1 ≤ long) && decide (long ≤ 9)) with
  | false => exact ⟨(0, false), Ev.bindc (x := false) (by rw [l1In_eq, h2]) (Ev.no (Ev.now _)), Ev.bindc (x := false) (by rw [hpl, h2]) (Ev.no (Ev.now _))⟩
  | true =>
    have h2' := h2
    simp only [Bool.and_eq_true, decide_eq_true_eq] at h2'
    obtain ⟨m, hm⟩ : ∃ m : Nat, m = (long - 1).toNat := ⟨_, rfl⟩
    have hl : long = (m : Int) + 1 := by omega
    have e1 : wrap64 (long - 1) = (m : Int) := by rw [wrap_id (by omega) (by omega)]; omega
    have im := all_ev m (by omega)
    rw [alike, ← hl] at im
    have f1 := cnt_fit m (by omega) [49]
    have f2 := cnt_fit m (by omega) [50]
    have f3 := cnt_fit m (by omega) [53]
    have s1 := piCount_ev m (⟨#[49]⟩ : ByteArray) (one_ok 49 (by decide) (by decide)) (by show 1 + m ≤ 900; omega) f1
    have s2 := piCount_ev m (⟨#[50]⟩ : ByteArray) (one_ok 50 (by decide) (by decide)) (by show 1 + m ≤ 900; omega) f2
    have s3 := piCount_ev m (⟨#[53]⟩ : ByteArray) (one_ok 53 (by decide) (by decide)) (by show 1 + m ≤ 900; omega) f3
    rw [← e1] at s1 s2 s3
    refine ⟨(((4 * cnt m [49] + 4 * cnt m [50] + cnt m [53] : Nat) : Int), true), Ev.bindc (x := true) (by rw [l1In_eq, h2]) (Ev.yes (Ev.bind s1 (Ev.bind s2 (Ev.bind s3 (Ev.const ?_))))), Ev.bindc (x := true) (by rw [hpl, h2]) (Ev.yes (Ev.bind im (Ev.now _)))⟩
    congr 2
    show wrap64 (wrap64 (wrap64 (4 * ((cnt m [49] : Nat) : Int)) + wrap64 (4 * ((cnt m [50] : Nat) : Int))) + ((cnt m [53] : Nat) : Int)) = _
    generalize cnt m [49] = x at *
    generalize cnt m [50] = y at *
    generalize cnt m [53] = z at *
    rw [wrap_id (n := 4 * (x : Int)) (by omega) (by omega), wrap_id (n := 4 * (y : Int)) (by omega) (by omega), wrap_id (n := 4 * (x : Int) + 4 * (y : Int)) (by omega) (by omega), wrap_id (by omega) (by omega)]
    omega
end CountAllDrawn
open CountAllDrawn in
theorem pure_FnExactCountAllDrawn : PureFnExactCountAllDrawn := by
  intro long
  intros
  refine Ev.rounds (g := fun k => laws_FnExactCountAllDrawn.f k long) ?_
  unfold laws_FnExactCountAllDrawn.f
  obtain ⟨r, hs, hi⟩ := both long
  exact Ev.bind hs (Ev.bind hi (Ev.pos rfl (Ev.neg (by simp) (Ev.now _))))
end Go.Proofs.Ytjjmbinhagaifaa

namespace Go.Proofs.Ytjjmbinhagaifaa
open Go.RowKit Go.Proofs.YtjjmbinhagaifaaW.PrintWords Go.ChangeShapes Go.WideShapes

theorem C_scalar {α : Type} {enc : α → Value} {h1 : ∀ x, (enc x).oneCell' = true} {w : World} {A : Option Addr} {l : List α} (hn : l.length ≤ 9223372036854775807)
    (hcell : 0 < l.length → ∃ ad, A = some ad ∧ ∀ j x, l[j]? = some x → w.cell? (ad.add j) = some (enc x)) : (Kd.scalar enc h1).C w A l.length l := by
  refine ⟨rfl, hn, fun hp => ?_⟩
  obtain ⟨ad, hA, hc⟩ := hcell hp
  refine ⟨ad, hA, fun j x hx => ⟨[enc x], rfl, rfl, fun i u hu => ?_⟩⟩
  match i, hu with
  | 0, hu =>
    have : enc x = u := by simpa using hu
    subst this
    show w.cell? (ad.add (j * 1 + 0)) = _
    rw [Nat.mul_one, Nat.add_zero]
    exact hc j x hx
  | i + 1, hu => simp at hu

section
variable {H : Type} {enc : TypeId × Value → H} {P : Program} {w : World} {base : Nat} {spare : Nat → Bool} {held : Bool}

/-- A cell that reads at a slice of whole numbers. -/
theorem read_ints {t e : TypeId} {k : IntKind} {fuel : Nat} {v : Value} {y : DataW H × List MemPlace} (ht : P.underlying t = some (.slice e)) (he : P.underlying e = some (.int k)) (hc : P.cellsOf e = 1)
    (hf : DataW.trod enc P w base spare held fuel t [v] = some y) :
    ∃ (A : Option Addr) (c : Nat) (l : List Int), v = .slice A l.length c ∧ l.length ≤ c ∧ (∀ x ∈ l, (Lit.int k x).wf = true) ∧ (Kd.int k).C w A l.length l := by
  rcases open_ints ht he hc hf with ⟨hcs, _⟩ | ⟨a, len, cap, zs, hcs, _, hl, hm, hz, _, hcell, hwf⟩
  · obtain rfl : v = .slice none 0 0 := by simpa using hcs
    exact ⟨none, 0, [], rfl, Nat.le_refl _, fun x hx => by simp at hx, rfl, by simp, fun h => absurd h (by simp)⟩
  · obtain rfl : v = .slice (some a) len cap := by simpa using hcs
    have hlz : len ≤ zs.length := by rw [hz]; split <;> omega
    have hlen : (zs.take len).length = len := by rw [List.length_take]; omega
    refine ⟨some a, cap, zs.take len, by rw [hlen], by rw [hlen]; exact hl, fun x hx => hwf x (List.mem_of_mem_take hx), ?_⟩
    refine C_scalar (by rw [hlen]; unfold maxLen at hm; omega) (fun hp => ⟨a, rfl, fun j x hj => ?_⟩)
    have hj' : j < len := by have := (List.getElem?_eq_some_iff.1 hj).1; rw [hlen] at this; exact this
    rw [hcell j (by omega)]
    rw [List.getElem?_take_of_lt hj'] at hj
    rw [List.getD_eq_getElem?_getD, hj]; rfl

/-- A cell that reads at a slice of strings. -/
theorem read_strs {t e : TypeId} {fuel : Nat} {v : Value} {y : DataW H × List MemPlace} (ht : P.underlying t = some (.slice e)) (he : P.underlying e = some .string) (hc : P.cellsOf e = 1)
    (hf : DataW.trod enc P w base spare held fuel t [v] = some y) :
    ∃ (A : Option Addr) (c : Nat) (l : List ByteArray), v = .slice A l.length c ∧ l.length ≤ c ∧ (∀ s ∈ l, s.size ≤ 9223372036854775807) ∧ Kd.string.C w A l.length l := by
  rcases open_strings ht he hc hf with ⟨hcs, _⟩ | ⟨a, len, cap, zs, hcs, _, hl, hm, hz, _, hcell, hwf⟩
  · obtain rfl : v = .slice none 0 0 := by simpa using hcs
    exact ⟨none, 0, [], rfl, Nat.le_refl _, fun x hx => by simp at hx, rfl, by simp, fun h => absurd h (by simp)⟩
  · obtain rfl : v = .slice (some a) len cap := by simpa using hcs
    have hlz : len ≤ zs.length := by rw [hz]; split <;> omega
    have hlen : (zs.take len).length = len := by rw [List.length_take]; omega
    refine ⟨some a, cap, zs.take len, by rw [hlen], by rw [hlen]; exact hl, fun x hx => by have := hwf x (List.mem_of_mem_take hx); unfold maxLen at this; omega, ?_⟩
    refine C_scalar (by rw [hlen]; unfold maxLen at hm; omega) (fun hp => ⟨a, rfl, fun j x hj => ?_⟩)
    have hj' : j < len := by have := (List.getElem?_eq_some_iff.1 hj).1; rw [hlen] at this; exact this
    rw [hcell j (by omega)]
    rw [List.getElem?_take_of_lt hj'] at hj
    rw [List.getD_eq_getElem?_getD, hj]; rfl

theorem read_int {t : TypeId} {k : IntKind} {fuel : Nat} {v : Value} {y : DataW H × List MemPlace} (ht : P.underlying t = some (.int k))
    (hf : DataW.trod enc P w base spare held fuel t [v] = some y) : ∃ n : Int, v = .int k n ∧ (Lit.int k n).wf = true := by
  obtain ⟨n, e1, _, h⟩ := DataW.trod_int ht hf
  exact ⟨n, by simpa using e1, h⟩
end

/-- The cells of a datum that holds numbers alone, an array's elements being numbers or structs of numbers. -/
def litsOf : DataW Unit → List Value
  | .lit (.int k n) => [.int k n]
  | .agg l => l.flatMap fun
    | .lit (.int k n) => [.int k n]
    | .agg l2 => l2.flatMap fun
      | .lit (.int k n) => [.int k n]
      | _ => []
    | _ => []
  | _ => []
end Go.Proofs.Ytjjmbinhagaifaa

/- FnExactCountAllDrawnSaid: the law 'FnExactCountAllDrawn' answers true for every input, and leaves its arguments as they were. The row, over the walk of its calls and the pure statement. -/
namespace Go.Proofs.Ytjjmbinhagaifaa.fnExactCountAllDrawn
open Go.ChangeShapes Go.WideShapes Go.ChangeAt Go.RowKit Go.Proofs.Ytjjmbinhagaifaa.P Go.Proofs.YtjjmbinhagaifaaW.PrintWords
open Go.ChangeMaps (open_string shut_string)
set_option linter.unusedVariables false
theorem own : ownKnob Try.prog.godebug = none := by kernel_rfl
set_option maxRecDepth 100000 in
theorem lifted (os : Os) (started : os.Started) (H : Type) (enc : TypeId × Value → H) :
    ReturnsInHanded {} Try.checked os 3 .any (Rows.fnExactCountAllDrawnSpec.pre6 enc Try.prog Try.f3 Rows.fnExactCountAllDrawnRow.domain false) (Rows.fnExactCountAllDrawnSpec.post enc Try.prog Try.f3 false true false false) := by
  refine returnsInHanded_of_change_sized (C := Try.checked) own started (by kernel_rfl) Try.func3
    (ChangeSpec.witness6 (enc := enc) (C := Try.checked) false ⟨#[], #[.int .i64 0], []⟩ 8 (by kernel_rfl) (by kernel_rfl) (by kernel_rfl) (by kernel_rfl)) ?_
  intro W base args ds gs before hval0 hW hcnd hsz0 _
  have hval : ∀ (j : Nat) t v, Try.f3.params[j]? = some t → args[j]? = some v → Value.okWide Try.prog W .any base t v := hval0
  have hW' := hW
  obtain ⟨p, q, hA0, hV, rfl, hfz, hnd⟩ := hW
  have hA : DataW.TrodAll enc Try.prog W 0 (fun _ => true) true Try.f3.params.toList args.toList ds p := hA0
  rw [Try.params3] at hA hval
  obtain ⟨v0, vs0, d0, ds0, p0, q0, hargs, rfl, rfl, h0, r0⟩ := trodAll_cons hA
  obtain ⟨rfl, rfl, rfl⟩ := trodAll_nil r0
  obtain rfl : args = #[v0] := by cases args; simp_all
  obtain ⟨rfl, rfl⟩ := trodVars_none hV
  obtain ⟨a0, rfl, rfl, rfl, w0⟩ := open_int Try.underlying3 (hval 0 3 v0 rfl rfl) h0
  clear hA0 hval0
  obtain ⟨k, hk⟩ := pure_FnExactCountAllDrawn a0 w0
  refine (laws_FnExactCountAllDrawn.calls k a0 true W  hk).mono fun e W' ⟨he, bel0⟩ => ?_
  have bel : Below W.heap.size W W' := bel0
  subst he
  exact ⟨_, rfl, _, _, _, [], _, [], hW', trodAll_mk1 (shut_bool Try.underlying4 _), (trodAll_cons_mk (shut_int Try.underlying3 w0) trodAll_mk0), rfl, bel.frame _, fun h => by cases h⟩
theorem over : Rows.fnExactCountAllDrawnRow.holds Try.pinned (OpenSpec.ofChange Rows.fnExactCountAllDrawnSpec) :=
  OpenClaim.holds_of_wide 3 Try.f3 rfl rfl rfl rfl rfl rfl rfl ⟨rfl, rfl, rfl, rfl, rfl⟩ rfl rfl rfl rfl rfl (by kernel_rfl) Try.func3 (by kernel_rfl)
    (of_decide_eq_true (by kernel_rfl)) (by unfold Func.isWrapper; first | (rw [if_pos (by decide +kernel)]; kernel_rfl) | (rw [if_neg (by decide +kernel)]; exact ⟨rfl, rfl⟩))
    (fun os started H enc _ => lifted os started H enc)
theorem proved : Rows.FnExactCountAllDrawnSaid := over
#print axioms proved
end Go.Proofs.Ytjjmbinhagaifaa.fnExactCountAllDrawn
namespace Go.Proofs.Ytjjmbinhagaifaa
theorem fnExactCountAllDrawn_holds : Rows.FnExactCountAllDrawnSaid := fnExactCountAllDrawn.proved
end Go.Proofs.Ytjjmbinhagaifaa

