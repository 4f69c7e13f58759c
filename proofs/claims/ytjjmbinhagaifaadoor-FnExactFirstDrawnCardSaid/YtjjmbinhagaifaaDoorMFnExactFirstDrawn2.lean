/- Part 2 of 2 of the proof of: FnExactFirstDrawnCardSaid: the law 'FnExactFirstDrawn' answers true for every input, and leaves its arguments as they were. The row and its tied card, over the walk of its calls and the pure statement. -/
import Derived.Test.YtjjmbinhagaifaaDoorMFnExactFirstDrawn1
import Derived.Test.YtjjmbinhagaifaaDoorWWords
import Derived.Test.YtjjmbinhagaifaaDoorWMore
import Derived.Laws.Strings
import Derived.Lib.SlTrimSet
import Derived.Lib.Bytealg
import Derived.Lib.SlicesCompact
import Derived.WalkKit
import Derived.ProofKit
import Derived.OpenShut
import Derived.ShutString
import Derived.ChangeOld
import Derived.Below
import Derived.SizedLaws
import Derived.ChangeSlices
import Derived.SliceStrings
import Derived.Lib.SmallJoins
import Derived.LaidLaws
import Derived.LaidHandle
import Derived.LaidMore
import Derived.Test.YtjjmbinhagaifaaDoorRows
import Derived.Test.YtjjmbinhagaifaaDoorCards
import Derived.Test.YtjjmbinhagaifaaDoorTie
import Derived.Handed
import Derived.SevenTiedAt
import Derived.Stop.Joined
-- printed by xprint.py
namespace Go.Proofs.YtjjmbinhagaifaaDoor.P
open Go.RowKit Go.Proofs.YtjjmbinhagaifaaDoorW.PrintWords Go.Proofs.YtjjmbinhagaifaaDoorW.PrintLast Go.Proofs.YtjjmbinhagaifaaDoorW.PrintMore
attribute [local go_sem] max2_int min2_int max_two min_two max_three min_three max_four min_four   -- for this text's walks alone
set_option linter.unusedVariables false
set_option linter.unusedSimpArgs false

/-! ### spec_piFirst: function 26 -/
mutual
def spec_piFirst.l0 : Nat → ByteArray → Int → Int → Option (ByteArray × Bool)
 | 0, _, _, _ => none
 | k + 1, x0, x1, x6 => if x6 ≤ 57 then ((spec_piGoes.f k x0 x6).bind fun t101 => (if t101 = true then (if x0.size + (Utf8.encode (wrap32 (x6))).size ≤ 9223372036854775807 then ((spec_piFirst.f k (x0 ++ (Utf8.encode (wrap32 (x6)))) (wrap64 (x1 - 1))).bind fun bt102 => (if bt102.2 = true then (some (bt102.1, true)) else (spec_piFirst.l0 k x0 x1 ((x6 + 1) % 256)))) else (none)) else (spec_piFirst.l0 k x0 x1 ((x6 + 1) % 256)))) else (some ((⟨#[]⟩ : ByteArray), false))
def spec_piFirst.f : Nat → ByteArray → Int → Option (ByteArray × Bool)
 | 0, _, _ => none
 | k + 1, a0, a1 => if a1 = 0 then (some (a0, true)) else (spec_piFirst.l0 k a0 a1 49)
end
theorem spec_piFirst.mono_l : ∀ k, (∀ y0 y1, LeO (spec_piFirst.f k y0 y1) (spec_piFirst.f (k + 1) y0 y1)) ∧ (∀ y0 y1 y2, LeO (spec_piFirst.l0 k y0 y1 y2) (spec_piFirst.l0 (k + 1) y0 y1 y2))
 | 0 => ⟨by intros; intro r h; simp [spec_piFirst.f] at h, by intros; intro r h; simp [spec_piFirst.l0] at h⟩
 | k + 1 => by
  obtain ⟨ih0, ih1⟩ := spec_piFirst.mono_l k
  refine ⟨?_, ?_⟩
  ·
   intro y0 y1
   unfold spec_piFirst.f
   repeat' first
   | (with_reducible exact ih0 _ _)
   | (with_reducible exact ih1 _ _ _)
   | (with_reducible exact spec_piGoes.mono _ _ _)
   | (with_reducible exact LeO.refl _)
   | (with_reducible exact LeO.none _)
   | (with_reducible refine LeO.ite ?_ ?_)
   | (with_reducible refine LeO.bind ?_ (fun _ => ?_))
   | exact ih0 _ _
   | exact ih1 _ _ _
   | exact spec_piGoes.mono _ _ _
   | exact LeO.none _
   | refine LeO.ite ?_ ?_
   | refine LeO.bind ?_ (fun _ => ?_)
  ·
   intro y0 y1 y2
   unfold spec_piFirst.l0
   repeat' first
   | (with_reducible exact ih0 _ _)
   | (with_reducible exact ih1 _ _ _)
   | (with_reducible exact spec_piGoes.mono _ _ _)
   | (with_reducible exact LeO.refl _)
   | (with_reducible exact LeO.none _)
   | (with_reducible refine LeO.ite ?_ ?_)
   | (with_reducible refine LeO.bind ?_ (fun _ => ?_))
   | exact ih0 _ _
   | exact ih1 _ _ _
   | exact spec_piGoes.mono _ _ _
   | exact LeO.none _
   | refine LeO.ite ?_ ?_
   | refine LeO.bind ?_ (fun _ => ?_)
theorem spec_piFirst.mono : ∀ y0 y1 k, LeO (spec_piFirst.f k y0 y1) (spec_piFirst.f (k + 1) y0 y1) := by
 intro y0 y1 k
 obtain ⟨ih0, ih1⟩ := spec_piFirst.mono_l k
 exact ih0 y0 y1
set_option maxHeartbeats 8000000 in
set_option maxRecDepth 100000 in
theorem spec_piFirst.calls (k : Nat) : ∀ (a0 : ByteArray) (a1 : Int) (r1 : ByteArray) (r2 : Bool) (w : World) (h : spec_piFirst.f k a0 a1 = some (r1, r2)),
  Calls Tryd.prog 26 #[.string a0, .int .i64 a1] w fun e w' => e = .returned (.tuple #[.string r1, .bool r2]) ∧ Drawn0 w w' := by
 induction k using Nat.strongRecOn with
 | _ k ih =>
 intro a0 a1 r1 r2 w h
 cases k with
 | zero => exact absurd h (by simp [spec_piFirst.f])
 | succ k =>
 simp only [spec_piFirst.f] at h
 have H : (if a1 = 0 then (some (a0, true)) else (spec_piFirst.l0 k a0 a1 49)) = some (r1, r2) := h
 clear h
 by_cases c3 : a1 = 0
 ·
  rw [if_pos c3] at H
  have c3b0 : (a1 == 0) = true := beq_iff_eq.mpr c3
  have c3b1 : (a1 != 0) = false := bne_eq_false_iff_eq.mpr c3
  clear c3
  simp only [Option.some.injEq, Prod.mk.injEq] at H
  obtain ⟨rfl, rfl⟩ := H
  go_enter Tryd.func26, Tryd.ntmps26
  go_wp2
  go_ret2
  exact ⟨by first | rfl | (simp; done) | (simp [*]; done), by repeat (first | exact Drawn0.refl _ | apply Drawn0.step)⟩
 ·
  rw [if_neg c3] at H
  have c3b0 : (a1 == 0) = false := beq_eq_false_iff_ne.mpr c3
  have c3b1 : (a1 != 0) = true := bne_iff_ne.mpr c3
  have H' := Aside0.mk H
  clear H
  go_enter Tryd.func26, Tryd.ntmps26
  go_wp2
  go_loopg [6] k (fun kq v6 w' => ∃ (x6_1 : Int), v6 = .int .u8 x6_1 ∧ Aside0 (spec_piFirst.l0 kq a0 a1 x6_1 = some (r1, r2)) ∧ Aside0 (kq ≤ k) ∧ Drawn0 w w')
  case atStart => exact ⟨(49), (by first | rfl | (simp; done) | (simp [*]; done)), H', ⟨Nat.le_refl _⟩, by repeat (first | exact Drawn0.refl _ | apply Drawn0.step)⟩
  case round =>
   clear H'
   try clear c2
   try clear p2
   try clear c3
   try clear c3b0
   try clear c3b1
   obtain ⟨x6_1, rfl, HA, HK1, ⟨m1, rfl⟩⟩ := hrel
   cases gk with
   | zero => exact absurd HA.out (by simp [spec_piFirst.l0])
   | succ k1 =>
    have H := HA.out
    clear HA
    simp only [spec_piFirst.l0] at H
    by_cases c4 : x6_1 ≤ 57
    ·
     rw [if_pos c4] at H
     have c4b0 : decide (x6_1 ≤ 57) = true := decide_eq_true c4
     clear c4
     replace H := Option.bind_eq_some_iff.mp H
     obtain ⟨t101, A50, H⟩ := H
     replace H : (if t101 = true then (if a0.size + (Utf8.encode (wrap32 (x6_1))).size ≤ 9223372036854775807 then ((spec_piFirst.f k1 (a0 ++ (Utf8.encode (wrap32 (x6_1)))) (wrap64 (a1 - 1))).bind fun bt102 => (if bt102.2 = true then (some (bt102.1, true)) else (spec_piFirst.l0 k1 a0 a1 ((x6_1 + 1) % 256)))) else (none)) else (spec_piFirst.l0 k1 a0 a1 ((x6_1 + 1) % 256))) = some (r1, r2) := H
     have A5 := Aside0.mk A50
     clear A50
     by_cases c6 : t101 = true
     ·
      subst c6
      have H1 : (if a0.size + (Utf8.encode (wrap32 (x6_1))).size ≤ 9223372036854775807 then ((spec_piFirst.f k1 (a0 ++ (Utf8.encode (wrap32 (x6_1)))) (wrap64 (a1 - 1))).bind fun bt102 => (if bt102.2 = true then (some (bt102.1, true)) else (spec_piFirst.l0 k1 a0 a1 ((x6_1 + 1) % 256)))) else (none)) = some (r1, r2) := by rw [if_pos rfl] at H; exact H
      clear H
      have H := H1
      clear H1
      by_cases c7 : a0.size + (Utf8.encode (wrap32 (x6_1))).size ≤ 9223372036854775807
      ·
       rw [if_pos c7] at H
       have c7b0 := eq_true c7
       have c7b1 : decide (a0.size + (Utf8.encode (wrap32 (x6_1))).size ≤ 9223372036854775807) = true := decide_eq_true c7
       try have c7b2 : (9223372036854775807 < a0.size + (Utf8.encode (wrap32 (x6_1))).size) = False := eq_false (Nat.not_lt.2 c7)
       replace H := Option.bind_eq_some_iff.mp H
       obtain ⟨⟨t102, t103⟩, A80, H⟩ := H
       replace H : (if t103 = true then (some (t102, true)) else (spec_piFirst.l0 k1 a0 a1 ((x6_1 + 1) % 256))) = some (r1, r2) := H
       have A8 := Aside0.mk A80
       clear A80
       by_cases c9 : t103 = true
       ·
        subst c9
        have H1 : (some (t102, true)) = some (r1, r2) := by rw [if_pos rfl] at H; exact H
        clear H
        have H := H1
        clear H1
        simp only [Option.some.injEq, Prod.mk.injEq] at H
        obtain ⟨rfl, rfl⟩ := H
        go_wp2_with (first | ((with_reducible refine gate_callee (f := 33) rfl ?_); refine goesL_ (some 18) rfl rfl Tryd.func33 (by kernel_rfl) rfl #[.string a0, .int .u8 x6_1] rfl (by (try simp only [List.map_toArray, List.map_cons, List.map_nil]); first | done | rfl | (simp only [List.length_drop, List.length_take]; rfl)) ?_; (with_reducible refine (spec_piGoes.calls k1 a0 x6_1 true _ A5.out).mono ?_); rintro e w' ⟨rfl, ⟨nd, rfl⟩⟩; refine ⟨_, rfl, ?_⟩; have hcv10 : ∀ W : World, (convert 21 9 (.int .i32 (wrap32 (x6_1)))).run Tryd.prog W = .ok (.string (Utf8.encode (wrap32 (x6_1)))) W := fun W => run_convert_int_string W 21 9 .i32 (wrap32 (x6_1)) (by rw [Tryd.underlying21]; rfl) Tryd.underlying9) | ((with_reducible refine gate_callee (f := 26) rfl ?_); refine goesL_ (some 27) rfl rfl Tryd.func26 (by kernel_rfl) rfl #[.string (a0 ++ (Utf8.encode (wrap32 (x6_1)))), .int .i64 (wrap64 (a1 - 1))] rfl (by (try simp only [List.map_toArray, List.map_cons, List.map_nil]); first | done | rfl | (simp only [List.length_drop, List.length_take]; rfl)) ?_; (with_reducible refine (ih k1 (by have := HK1.out; omega) (a0 ++ (Utf8.encode (wrap32 (x6_1)))) (wrap64 (a1 - 1)) t102 true _ A8.out).mono ?_); rintro e w' ⟨rfl, ⟨nd, rfl⟩⟩; refine ⟨_, rfl, ?_⟩))
        go_ret2
        exact ⟨by first | rfl | (simp; done) | (simp [*]; done), by repeat (first | exact Drawn0.refl _ | apply Drawn0.step)⟩
       ·
        replace c9 := Bool.eq_false_iff.mpr c9
        subst c9
        have H1 : (spec_piFirst.l0 k1 a0 a1 ((x6_1 + 1) % 256)) = some (r1, r2) := by rw [if_neg (show ¬ (false = true) by decide)] at H; exact H
        clear H
        have H := H1
        clear H1
        have H' := Aside0.mk H
        clear H
        go_wp2_with (first | ((with_reducible refine gate_callee (f := 33) rfl ?_); refine goesL_ (some 18) rfl rfl Tryd.func33 (by kernel_rfl) rfl #[.string a0, .int .u8 x6_1] rfl (by (try simp only [List.map_toArray, List.map_cons, List.map_nil]); first | done | rfl | (simp only [List.length_drop, List.length_take]; rfl)) ?_; (with_reducible refine (spec_piGoes.calls k1 a0 x6_1 true _ A5.out).mono ?_); rintro e w' ⟨rfl, ⟨nd, rfl⟩⟩; refine ⟨_, rfl, ?_⟩; have hcv11 : ∀ W : World, (convert 21 9 (.int .i32 (wrap32 (x6_1)))).run Tryd.prog W = .ok (.string (Utf8.encode (wrap32 (x6_1)))) W := fun W => run_convert_int_string W 21 9 .i32 (wrap32 (x6_1)) (by rw [Tryd.underlying21]; rfl) Tryd.underlying9) | ((with_reducible refine gate_callee (f := 26) rfl ?_); refine goesL_ (some 27) rfl rfl Tryd.func26 (by kernel_rfl) rfl #[.string (a0 ++ (Utf8.encode (wrap32 (x6_1)))), .int .i64 (wrap64 (a1 - 1))] rfl (by (try simp only [List.map_toArray, List.map_cons, List.map_nil]); first | done | rfl | (simp only [List.length_drop, List.length_take]; rfl)) ?_; (with_reducible refine (ih k1 (by have := HK1.out; omega) (a0 ++ (Utf8.encode (wrap32 (x6_1)))) (wrap64 (a1 - 1)) t102 false _ A8.out).mono ?_); rintro e w' ⟨rfl, ⟨nd, rfl⟩⟩; refine ⟨_, rfl, ?_⟩))
        go_roundg k1
        case measure => have := HK1.out; omega
        case rel => exact ⟨((x6_1 + 1) % 256), (by first | rfl | (simp; done) | (simp [*]; done)), H', ⟨by have := HK1.out; omega⟩, by repeat (first | exact Drawn0.refl _ | apply Drawn0.step)⟩
      ·
       rw [if_neg c7] at H
       exact absurd H (by simp)
     ·
      replace c6 := Bool.eq_false_iff.mpr c6
      subst c6
      have H1 : (spec_piFirst.l0 k1 a0 a1 ((x6_1 + 1) % 256)) = some (r1, r2) := by rw [if_neg (show ¬ (false = true) by decide)] at H; exact H
      clear H
      have H := H1
      clear H1
      have H' := Aside0.mk H
      clear H
      go_wp2_with (first | ((with_reducible refine gate_callee (f := 33) rfl ?_); refine goesL_ (some 18) rfl rfl Tryd.func33 (by kernel_rfl) rfl #[.string a0, .int .u8 x6_1] rfl (by (try simp only [List.map_toArray, List.map_cons, List.map_nil]); first | done | rfl | (simp only [List.length_drop, List.length_take]; rfl)) ?_; (with_reducible refine (spec_piGoes.calls k1 a0 x6_1 false _ A5.out).mono ?_); rintro e w' ⟨rfl, ⟨nd, rfl⟩⟩; refine ⟨_, rfl, ?_⟩))
      go_roundg k1
      case measure => have := HK1.out; omega
      case rel => exact ⟨((x6_1 + 1) % 256), (by first | rfl | (simp; done) | (simp [*]; done)), H', ⟨by have := HK1.out; omega⟩, by repeat (first | exact Drawn0.refl _ | apply Drawn0.step)⟩
    ·
     rw [if_neg c4] at H
     have c4b0 : decide (x6_1 ≤ 57) = false := decide_eq_false c4
     clear c4
     simp only [Option.some.injEq, Prod.mk.injEq] at H
     obtain ⟨rfl, rfl⟩ := H
     go_wp2
     go_ret2
     exact ⟨by first | rfl | (simp; done) | (simp [*]; done), by repeat (first | exact Drawn0.refl _ | apply Drawn0.step)⟩

end Go.Proofs.YtjjmbinhagaifaaDoor.P

-- printed by xprint.py
namespace Go.Proofs.YtjjmbinhagaifaaDoor.P
open Go.RowKit Go.Proofs.YtjjmbinhagaifaaDoorW.PrintWords Go.Proofs.YtjjmbinhagaifaaDoorW.PrintLast Go.Proofs.YtjjmbinhagaifaaDoorW.PrintMore
attribute [local go_sem] max2_int min2_int max_two min_two max_three min_three max_four min_four   -- for this text's walks alone
set_option linter.unusedVariables false
set_option linter.unusedSimpArgs false

/-! ### spec_l1In: function 38 -/
def spec_l1In.f (a0 : Int) (a1 : Int) (a2 : Int) : Option (Bool) := if a0 ≥ a1 then (some (decide (a0 ≤ a2))) else (some false)
set_option maxHeartbeats 8000000 in
set_option maxRecDepth 100000 in
theorem spec_l1In.calls (a0 : Int) (a1 : Int) (a2 : Int) (r : Bool) (w : World) (h : spec_l1In.f a0 a1 a2 = some r) :
  Calls Tryd.prog 38 #[.int .i64 a0, .int .i64 a1, .int .i64 a2] w fun e w' => e = .returned (.bool r) ∧ Drawn0 w w' := by
 have H : (if a0 ≥ a1 then (some (decide (a0 ≤ a2))) else (some false)) = some r := h
 clear h
 by_cases c4 : a0 ≥ a1
 ·
  rw [if_pos c4] at H
  have c4b0 : decide (a1 ≤ a0) = true := decide_eq_true c4
  clear c4
  obtain rfl := Option.some.inj H
  go_enter Tryd.func38, Tryd.ntmps38
  go_wp2
  go_ret
  exact ⟨by first | rfl | (simp; done) | (simp [*]; done), by repeat (first | exact Drawn0.refl _ | apply Drawn0.step)⟩
 ·
  rw [if_neg c4] at H
  have c4b0 : decide (a1 ≤ a0) = false := decide_eq_false c4
  clear c4
  obtain rfl := Option.some.inj H
  go_enter Tryd.func38, Tryd.ntmps38
  go_wp2
  go_ret
  exact ⟨by first | rfl | (simp; done) | (simp [*]; done), by repeat (first | exact Drawn0.refl _ | apply Drawn0.step)⟩

end Go.Proofs.YtjjmbinhagaifaaDoor.P

-- printed by xprint.py
namespace Go.Proofs.YtjjmbinhagaifaaDoor.P
open Go.RowKit Go.Proofs.YtjjmbinhagaifaaDoorW.PrintWords Go.Proofs.YtjjmbinhagaifaaDoorW.PrintLast Go.Proofs.YtjjmbinhagaifaaDoorW.PrintMore
attribute [local go_sem] max2_int min2_int max_two min_two max_three min_three max_four min_four   -- for this text's walks alone
set_option linter.unusedVariables false
set_option linter.unusedSimpArgs false

/-! ### spec_piPattern: function 29 -/
def spec_piPattern.l0 : Nat → ByteArray → Int → Option (Bool)
 | 0, _, _ => none
 | k + 1, x0, x3 => if x3 < (x0.size : Int) then (if 0 ≤ x3 then (if (bt x0 x3) < 49 then (some false) else (if (bt x0 x3) > 57 then (some false) else (if x3 ≤ (x0.size : Int) then ((spec_piHas.f k (x0.extract 0 (x3 : Int).toNat) (bt x0 x3)).bind fun t102 => (if t102 = true then (some false) else (spec_piPattern.l0 k x0 (wrap64 (x3 + 1))))) else (none)))) else (none)) else (some true)
def spec_piPattern.f (k : Nat) (a0 : ByteArray) : Option (Bool) := (spec_l1In.f (a0.size : Int) 1 9).bind fun t101 => (if t101 = true then (spec_piPattern.l0 k a0 0) else (some false))
theorem spec_piPattern.mono_l : ∀ k, (∀ y0 y1, LeO (spec_piPattern.l0 k y0 y1) (spec_piPattern.l0 (k + 1) y0 y1))
 | 0 => by intros; intro r h; simp [spec_piPattern.l0] at h
 | k + 1 => by
  have ih0 := spec_piPattern.mono_l k
  ·
   intro y0 y1
   unfold spec_piPattern.l0
   repeat' first
   | (with_reducible exact ih0 _ _)
   | (with_reducible exact spec_piHas.mono _ _ _)
   | (with_reducible exact LeO.refl _)
   | (with_reducible exact LeO.none _)
   | (with_reducible refine LeO.ite ?_ ?_)
   | (with_reducible refine LeO.bind ?_ (fun _ => ?_))
   | exact ih0 _ _
   | exact spec_piHas.mono _ _ _
   | exact LeO.none _
   | refine LeO.ite ?_ ?_
   | refine LeO.bind ?_ (fun _ => ?_)
theorem spec_piPattern.mono : ∀ y0 k, LeO (spec_piPattern.f k y0) (spec_piPattern.f (k + 1) y0) := by
 intro y0 k
 have ih0 := spec_piPattern.mono_l k
 unfold spec_piPattern.f
 repeat' first
   | (with_reducible exact ih0 _ _)
   | (with_reducible exact spec_piHas.mono _ _ _)
   | (with_reducible exact LeO.refl _)
   | (with_reducible exact LeO.none _)
   | (with_reducible refine LeO.ite ?_ ?_)
   | (with_reducible refine LeO.bind ?_ (fun _ => ?_))
   | exact ih0 _ _
   | exact spec_piHas.mono _ _ _
   | exact LeO.none _
   | refine LeO.ite ?_ ?_
   | refine LeO.bind ?_ (fun _ => ?_)
set_option maxHeartbeats 8000000 in
set_option maxRecDepth 100000 in
theorem spec_piPattern.calls (k : Nat) (a0 : ByteArray) (r : Bool) (w : World) (h : spec_piPattern.f k a0 = some r) :
  Calls Tryd.prog 29 #[.string a0] w fun e w' => e = .returned (.bool r) ∧ Drawn0 w w' := by
 have H : ((spec_l1In.f (a0.size : Int) 1 9).bind fun t101 => (if t101 = true then (spec_piPattern.l0 k a0 0) else (some false))) = some r := h
 clear h
 replace H := Option.bind_eq_some_iff.mp H
 obtain ⟨t101, A20, H⟩ := H
 replace H : (if t101 = true then (spec_piPattern.l0 k a0 0) else (some false)) = some r := H
 have A2 := Aside0.mk A20
 clear A20
 by_cases c3 : t101 = true
 ·
  subst c3
  have H1 : (spec_piPattern.l0 k a0 0) = some r := by rw [if_pos rfl] at H; exact H
  clear H
  have H := H1
  clear H1
  have H' := Aside0.mk H
  clear H
  go_enter Tryd.func29, Tryd.ntmps29
  go_wp2_with (first | (go_at_call 38; (with_reducible refine (spec_l1In.calls (a0.size : Int) 1 9 true _ A2.out).mono ?_); rintro e w' ⟨rfl, ⟨nd, rfl⟩⟩; (try first | exact ⟨rfl, _, World.drewN_drewN _ _ _⟩ | exact ⟨rfl, _, Eq.trans (World.drewN_drewN _ _ _) (congrArg (World.drewN _) (Nat.add_assoc _ _ _))⟩)))
  repeat (go_quiet (first | (go_at_call 38; (with_reducible refine (spec_l1In.calls (a0.size : Int) 1 9 true _ A2.out).mono ?_); rintro e w' ⟨rfl, ⟨nd, rfl⟩⟩; (try first | exact ⟨rfl, _, World.drewN_drewN _ _ _⟩ | exact ⟨rfl, _, Eq.trans (World.drewN_drewN _ _ _) (congrArg (World.drewN _) (Nat.add_assoc _ _ _))⟩))); try go_wp2_with (first | (go_at_call 38; (with_reducible refine (spec_l1In.calls (a0.size : Int) 1 9 true _ A2.out).mono ?_); rintro e w' ⟨rfl, ⟨nd, rfl⟩⟩; (try first | exact ⟨rfl, _, World.drewN_drewN _ _ _⟩ | exact ⟨rfl, _, Eq.trans (World.drewN_drewN _ _ _) (congrArg (World.drewN _) (Nat.add_assoc _ _ _))⟩))))
  go_loopg [3] k (fun kq v3 w' => ∃ (x3_1 : Int), v3 = .int .i64 x3_1 ∧ Aside0 (spec_piPattern.l0 kq a0 x3_1 = some r) ∧ Aside0 (kq ≤ k) ∧ Drawn0 w w')
  case atStart => exact ⟨(0), (by first | rfl | (simp; done) | (simp [*]; done)), H', ⟨Nat.le_refl _⟩, by repeat (first | exact Drawn0.refl _ | apply Drawn0.step)⟩
  case round =>
   clear H'
   try clear c2
   try clear p2
   try clear c3
   obtain ⟨x3_1, rfl, HA, HK1, ⟨m1, rfl⟩⟩ := hrel
   cases gk with
   | zero => exact absurd HA.out (by simp [spec_piPattern.l0])
   | succ k1 =>
    have H := HA.out
    clear HA
    simp only [spec_piPattern.l0] at H
    by_cases c4 : x3_1 < (a0.size : Int)
    ·
     rw [if_pos c4] at H
     have c4b0 : decide (x3_1 < (a0.size : Int)) = true := decide_eq_true c4
     clear c4
     by_cases c5 : 0 ≤ x3_1
     ·
      rw [if_pos c5] at H
      have c5b0 : decide (0 ≤ x3_1) = true := decide_eq_true c5
      clear c5
      by_cases c7 : (bt a0 x3_1) < 49
      ·
       rw [if_pos c7] at H
       have c7b0 : decide ((bt a0 x3_1) < 49) = true := decide_eq_true c7
       clear c7
       obtain rfl := Option.some.inj H
       have p6 : 0 ≤ (x3_1 : Int) := of_decide_eq_true (by first | (with_reducible assumption) | assumption)
       have q6 : x3_1 < (a0.size : Int) := of_decide_eq_true (by first | (with_reducible assumption) | assumption)
       have hx6 := bt_at a0 x3_1
       replace p6 := eq_true p6
       replace q6 := eq_true q6
       go_wp2
       repeat (go_quiet (fail); try go_wp2)
       go_ret
       exact ⟨by first | rfl | (simp; done) | (simp [*]; done), by repeat (first | exact Drawn0.refl _ | apply Drawn0.step)⟩
      ·
       rw [if_neg c7] at H
       have c7b0 : decide ((bt a0 x3_1) < 49) = false := decide_eq_false c7
       clear c7
       by_cases c9 : (bt a0 x3_1) > 57
       ·
        rw [if_pos c9] at H
        have c9b0 : decide (57 < (bt a0 x3_1)) = true := decide_eq_true c9
        clear c9
        obtain rfl := Option.some.inj H
        have p6 : 0 ≤ (x3_1 : Int) := of_decide_eq_true (by first | (with_reducible assumption) | assumption)
        have q6 : x3_1 < (a0.size : Int) := of_decide_eq_true (by first | (with_reducible assumption) | assumption)
        have hx6 := bt_at a0 x3_1
        replace p6 := eq_true p6
        replace q6 := eq_true q6
        have p8 : 0 ≤ (x3_1 : Int) := of_decide_eq_true (by first | (with_reducible assumption) | assumption)
        have q8 : x3_1 < (a0.size : Int) := of_decide_eq_true (by first | (with_reducible assumption) | assumption)
        have hx8 := bt_at a0 x3_1
        replace p8 := eq_true p8
        replace q8 := eq_true q8
        go_wp2
        repeat (go_quiet (fail); try go_wp2)
        go_ret
        exact ⟨by first | rfl | (simp; done) | (simp [*]; done), by repeat (first | exact Drawn0.refl _ | apply Drawn0.step)⟩
       ·
        rw [if_neg c9] at H
        have c9b0 : decide (57 < (bt a0 x3_1)) = false := decide_eq_false c9
        clear c9
        have c10b0 := eq_true (of_decide_eq_true (by first | (with_reducible assumption) | assumption) : 0 ≤ x3_1)
        by_cases c11 : x3_1 ≤ (a0.size : Int)
        ·
         rw [if_pos c11] at H
         have c11b0 := eq_true c11
         have c11b1 : decide (x3_1 ≤ (a0.size : Int)) = true := decide_eq_true c11
         clear c11
         replace H := Option.bind_eq_some_iff.mp H
         obtain ⟨t102, A130, H⟩ := H
         replace H : (if t102 = true then (some false) else (spec_piPattern.l0 k1 a0 (wrap64 (x3_1 + 1)))) = some r := H
         have A13 := Aside0.mk A130
         clear A130
         by_cases c14 : t102 = true
         ·
          subst c14
          have H1 : (some false) = some r := by rw [if_pos rfl] at H; exact H
          clear H
          have H := H1
          clear H1
          obtain rfl := Option.some.inj H
          have p6 : 0 ≤ (x3_1 : Int) := of_decide_eq_true (by first | (with_reducible assumption) | assumption)
          have q6 : x3_1 < (a0.size : Int) := of_decide_eq_true (by first | (with_reducible assumption) | assumption)
          have hx6 := bt_at a0 x3_1
          replace p6 := eq_true p6
          replace q6 := eq_true q6
          have p8 : 0 ≤ (x3_1 : Int) := of_decide_eq_true (by first | (with_reducible assumption) | assumption)
          have q8 : x3_1 < (a0.size : Int) := of_decide_eq_true (by first | (with_reducible assumption) | assumption)
          have hx8 := bt_at a0 x3_1
          replace p8 := eq_true p8
          replace q8 := eq_true q8
          have p12 : 0 ≤ (x3_1 : Int) := of_decide_eq_true (by first | (with_reducible assumption) | assumption)
          have q12 : x3_1 < (a0.size : Int) := of_decide_eq_true (by first | (with_reducible assumption) | assumption)
          have hx12 := bt_at a0 x3_1
          replace p12 := eq_true p12
          replace q12 := eq_true q12
          go_wp2_with (first | (go_at_call 44; (with_reducible refine (spec_piHas.calls k1 (a0.extract 0 (x3_1 : Int).toNat) (bt a0 x3_1) true _ A13.out).mono ?_); rintro e w' ⟨rfl, ⟨nd, rfl⟩⟩; (try first | exact ⟨rfl, _, World.drewN_drewN _ _ _⟩ | exact ⟨rfl, _, Eq.trans (World.drewN_drewN _ _ _) (congrArg (World.drewN _) (Nat.add_assoc _ _ _))⟩)))
          repeat (go_quiet (first | (go_at_call 44; (with_reducible refine (spec_piHas.calls k1 (a0.extract 0 (x3_1 : Int).toNat) (bt a0 x3_1) true _ A13.out).mono ?_); rintro e w' ⟨rfl, ⟨nd, rfl⟩⟩; (try first | exact ⟨rfl, _, World.drewN_drewN _ _ _⟩ | exact ⟨rfl, _, Eq.trans (World.drewN_drewN _ _ _) (congrArg (World.drewN _) (Nat.add_assoc _ _ _))⟩))); try go_wp2_with (first | (go_at_call 44; (with_reducible refine (spec_piHas.calls k1 (a0.extract 0 (x3_1 : Int).toNat) (bt a0 x3_1) true _ A13.out).mono ?_); rintro e w' ⟨rfl, ⟨nd, rfl⟩⟩; (try first | exact ⟨rfl, _, World.drewN_drewN _ _ _⟩ | exact ⟨rfl, _, Eq.trans (World.drewN_drewN _ _ _) (congrArg (World.drewN _) (Nat.add_assoc _ _ _))⟩))))
          go_ret
          exact ⟨by first | rfl | (simp; done) | (simp [*]; done), by repeat (first | exact Drawn0.refl _ | apply Drawn0.step)⟩
         ·
          replace c14 := Bool.eq_false_iff.mpr c14
          subst c14
          have H1 : (spec_piPattern.l0 k1 a0 (wrap64 (x3_1 + 1))) = some r := by rw [if_neg (show ¬ (false = true) by decide)] at H; exact H
          clear H
          have H := H1
          clear H1
          have H' := Aside0.mk H
          clear H
          have p6 : 0 ≤ (x3_1 : Int) := of_decide_eq_true (by first | (with_reducible assumption) | assumption)
          have q6 : x3_1 < (a0.size : Int) := of_decide_eq_true (by first | (with_reducible assumption) | assumption)
          have hx6 := bt_at a0 x3_1
          replace p6 := eq_true p6
          replace q6 := eq_true q6
          have p8 : 0 ≤ (x3_1 : Int) := of_decide_eq_true (by first | (with_reducible assumption) | assumption)
          have q8 : x3_1 < (a0.size : Int) := of_decide_eq_true (by first | (with_reducible assumption) | assumption)
          have hx8 := bt_at a0 x3_1
          replace p8 := eq_true p8
          replace q8 := eq_true q8
          have p12 : 0 ≤ (x3_1 : Int) := of_decide_eq_true (by first | (with_reducible assumption) | assumption)
          have q12 : x3_1 < (a0.size : Int) := of_decide_eq_true (by first | (with_reducible assumption) | assumption)
          have hx12 := bt_at a0 x3_1
          replace p12 := eq_true p12
          replace q12 := eq_true q12
          go_wp2_with (first | (go_at_call 44; (with_reducible refine (spec_piHas.calls k1 (a0.extract 0 (x3_1 : Int).toNat) (bt a0 x3_1) false _ A13.out).mono ?_); rintro e w' ⟨rfl, ⟨nd, rfl⟩⟩; (try first | exact ⟨rfl, _, World.drewN_drewN _ _ _⟩ | exact ⟨rfl, _, Eq.trans (World.drewN_drewN _ _ _) (congrArg (World.drewN _) (Nat.add_assoc _ _ _))⟩)))
          repeat (go_quiet (first | (go_at_call 44; (with_reducible refine (spec_piHas.calls k1 (a0.extract 0 (x3_1 : Int).toNat) (bt a0 x3_1) false _ A13.out).mono ?_); rintro e w' ⟨rfl, ⟨nd, rfl⟩⟩; (try first | exact ⟨rfl, _, World.drewN_drewN _ _ _⟩ | exact ⟨rfl, _, Eq.trans (World.drewN_drewN _ _ _) (congrArg (World.drewN _) (Nat.add_assoc _ _ _))⟩))); try go_wp2_with (first | (go_at_call 44; (with_reducible refine (spec_piHas.calls k1 (a0.extract 0 (x3_1 : Int).toNat) (bt a0 x3_1) false _ A13.out).mono ?_); rintro e w' ⟨rfl, ⟨nd, rfl⟩⟩; (try first | exact ⟨rfl, _, World.drewN_drewN _ _ _⟩ | exact ⟨rfl, _, Eq.trans (World.drewN_drewN _ _ _) (congrArg (World.drewN _) (Nat.add_assoc _ _ _))⟩))))
          go_roundg k1
          case measure => have := HK1.out; omega
          case rel => exact ⟨(wrap64 (x3_1 + 1)), (by first | rfl | (simp; done) | (simp [*]; done)), H', ⟨by have := HK1.out; omega⟩, by repeat (first | exact Drawn0.refl _ | apply Drawn0.step)⟩
        ·
         rw [if_neg c11] at H
         exact absurd H (by simp)
     ·
      rw [if_neg c5] at H
      exact absurd H (by simp)
    ·
     rw [if_neg c4] at H
     have c4b0 : decide (x3_1 < (a0.size : Int)) = false := decide_eq_false c4
     clear c4
     obtain rfl := Option.some.inj H
     go_wp2
     repeat (go_quiet (fail); try go_wp2)
     go_ret
     exact ⟨by first | rfl | (simp; done) | (simp [*]; done), by repeat (first | exact Drawn0.refl _ | apply Drawn0.step)⟩
 ·
  replace c3 := Bool.eq_false_iff.mpr c3
  subst c3
  have H1 : (some false) = some r := by rw [if_neg (show ¬ (false = true) by decide)] at H; exact H
  clear H
  have H := H1
  clear H1
  obtain rfl := Option.some.inj H
  go_enter Tryd.func29, Tryd.ntmps29
  go_wp2_with (first | (go_at_call 38; (with_reducible refine (spec_l1In.calls (a0.size : Int) 1 9 false _ A2.out).mono ?_); rintro e w' ⟨rfl, ⟨nd, rfl⟩⟩; (try first | exact ⟨rfl, _, World.drewN_drewN _ _ _⟩ | exact ⟨rfl, _, Eq.trans (World.drewN_drewN _ _ _) (congrArg (World.drewN _) (Nat.add_assoc _ _ _))⟩)))
  repeat (go_quiet (first | (go_at_call 38; (with_reducible refine (spec_l1In.calls (a0.size : Int) 1 9 false _ A2.out).mono ?_); rintro e w' ⟨rfl, ⟨nd, rfl⟩⟩; (try first | exact ⟨rfl, _, World.drewN_drewN _ _ _⟩ | exact ⟨rfl, _, Eq.trans (World.drewN_drewN _ _ _) (congrArg (World.drewN _) (Nat.add_assoc _ _ _))⟩))); try go_wp2_with (first | (go_at_call 38; (with_reducible refine (spec_l1In.calls (a0.size : Int) 1 9 false _ A2.out).mono ?_); rintro e w' ⟨rfl, ⟨nd, rfl⟩⟩; (try first | exact ⟨rfl, _, World.drewN_drewN _ _ _⟩ | exact ⟨rfl, _, Eq.trans (World.drewN_drewN _ _ _) (congrArg (World.drewN _) (Nat.add_assoc _ _ _))⟩))))
  go_ret
  exact ⟨by first | rfl | (simp; done) | (simp [*]; done), by repeat (first | exact Drawn0.refl _ | apply Drawn0.step)⟩

end Go.Proofs.YtjjmbinhagaifaaDoor.P

-- printed by xprint.py
namespace Go.Proofs.YtjjmbinhagaifaaDoor.P
open Go.RowKit Go.Proofs.YtjjmbinhagaifaaDoorW.PrintWords Go.Proofs.YtjjmbinhagaifaaDoorW.PrintLast Go.Proofs.YtjjmbinhagaifaaDoorW.PrintMore
attribute [local go_sem] max2_int min2_int max_two min_two max_three min_three max_four min_four   -- for this text's walks alone
set_option linter.unusedVariables false
set_option linter.unusedSimpArgs false

/-! ### spec_piStart: function 21 -/
def spec_piStart.f (k : Nat) (a0 : ByteArray) (a1 : Int) : Option (Bool) := if (a0.size : Int) = 1 then ((spec_piPattern.f k a0).bind fun t101 => (if t101 = true then ((spec_l1In.f a1 1 9).bind fun t102 => (some t102)) else (some false))) else (some false)
theorem spec_piStart.mono : ∀ y0 y1 k, LeO (spec_piStart.f k y0 y1) (spec_piStart.f (k + 1) y0 y1) := by
 intro y0 y1 k
 unfold spec_piStart.f
 repeat' first
   | (with_reducible exact spec_piPattern.mono _ _)
   | (with_reducible exact LeO.refl _)
   | (with_reducible exact LeO.none _)
   | (with_reducible refine LeO.ite ?_ ?_)
   | (with_reducible refine LeO.bind ?_ (fun _ => ?_))
   | exact spec_piPattern.mono _ _
   | exact LeO.none _
   | refine LeO.ite ?_ ?_
   | refine LeO.bind ?_ (fun _ => ?_)
set_option maxHeartbeats 8000000 in
set_option maxRecDepth 100000 in
theorem spec_piStart.calls (k : Nat) (a0 : ByteArray) (a1 : Int) (r : Bool) (w : World) (h : spec_piStart.f k a0 a1 = some r) :
  Calls Tryd.prog 21 #[.string a0, .int .i64 a1] w fun e w' => e = .returned (.bool r) ∧ Drawn0 w w' := by
 have H : (if (a0.size : Int) = 1 then ((spec_piPattern.f k a0).bind fun t101 => (if t101 = true then ((spec_l1In.f a1 1 9).bind fun t102 => (some t102)) else (some false))) else (some false)) = some r := h
 clear h
 by_cases c3 : (a0.size : Int) = 1
 ·
  rw [if_pos c3] at H
  have c3b0 : ((a0.size : Int) == 1) = true := beq_iff_eq.mpr c3
  have c3b1 : ((a0.size : Int) != 1) = false := bne_eq_false_iff_eq.mpr c3
  clear c3
  replace H := Option.bind_eq_some_iff.mp H
  obtain ⟨t101, A40, H⟩ := H
  replace H : (if t101 = true then ((spec_l1In.f a1 1 9).bind fun t102 => (some t102)) else (some false)) = some r := H
  have A4 := Aside0.mk A40
  clear A40
  by_cases c5 : t101 = true
  ·
   subst c5
   have H1 : ((spec_l1In.f a1 1 9).bind fun t102 => (some t102)) = some r := by rw [if_pos rfl] at H; exact H
   clear H
   have H := H1
   clear H1
   replace H := Option.bind_eq_some_iff.mp H
   obtain ⟨t102, A60, H⟩ := H
   replace H : (some t102) = some r := H
   have A6 := Aside0.mk A60
   clear A60
   obtain rfl := Option.some.inj H
   go_enter Tryd.func21, Tryd.ntmps21
   go_wp2_with (first | (go_at_call 29; (with_reducible refine (spec_piPattern.calls k a0 true _ A4.out).mono ?_); rintro e w' ⟨rfl, ⟨nd, rfl⟩⟩) | (go_at_call 38; (with_reducible refine (spec_l1In.calls a1 1 9 t102 _ A6.out).mono ?_); rintro e w' ⟨rfl, ⟨nd, rfl⟩⟩))
   go_ret
   exact ⟨by first | rfl | (simp; done) | (simp [*]; done), by repeat (first | exact Drawn0.refl _ | apply Drawn0.step)⟩
  ·
   replace c5 := Bool.eq_false_iff.mpr c5
   subst c5
   have H1 : (some false) = some r := by rw [if_neg (show ¬ (false = true) by decide)] at H; exact H
   clear H
   have H := H1
   clear H1
   obtain rfl := Option.some.inj H
   go_enter Tryd.func21, Tryd.ntmps21
   go_wp2_with (first | (go_at_call 29; (with_reducible refine (spec_piPattern.calls k a0 false _ A4.out).mono ?_); rintro e w' ⟨rfl, ⟨nd, rfl⟩⟩))
   go_ret
   exact ⟨by first | rfl | (simp; done) | (simp [*]; done), by repeat (first | exact Drawn0.refl _ | apply Drawn0.step)⟩
 ·
  rw [if_neg c3] at H
  have c3b0 : ((a0.size : Int) == 1) = false := beq_eq_false_iff_ne.mpr c3
  have c3b1 : ((a0.size : Int) != 1) = true := bne_iff_ne.mpr c3
  obtain rfl := Option.some.inj H
  go_enter Tryd.func21, Tryd.ntmps21
  go_wp2
  go_ret
  exact ⟨by first | rfl | (simp; done) | (simp [*]; done), by repeat (first | exact Drawn0.refl _ | apply Drawn0.step)⟩

end Go.Proofs.YtjjmbinhagaifaaDoor.P

-- printed by xprint.py
namespace Go.Proofs.YtjjmbinhagaifaaDoor.P
open Go.RowKit Go.Proofs.YtjjmbinhagaifaaDoorW.PrintWords Go.Proofs.YtjjmbinhagaifaaDoorW.PrintLast Go.Proofs.YtjjmbinhagaifaaDoorW.PrintMore
attribute [local go_sem] max2_int min2_int max_two min_two max_three min_three max_four min_four   -- for this text's walks alone
set_option linter.unusedVariables false
set_option linter.unusedSimpArgs false

/-! ### spec_FirstDrawn: function 11 -/
def spec_FirstDrawn.f (k : Nat) (a0 : ByteArray) (a1 : Int) : Option (ByteArray × Bool) := (spec_piStart.f k a0 a1).bind fun t101 => (if t101 = true then ((spec_piFirst.f k a0 (wrap64 (a1 - 1))).bind fun bt102 => (some (bt102.1, bt102.2))) else (some ((⟨#[]⟩ : ByteArray), false)))
theorem spec_FirstDrawn.mono : ∀ y0 y1 k, LeO (spec_FirstDrawn.f k y0 y1) (spec_FirstDrawn.f (k + 1) y0 y1) := by
 intro y0 y1 k
 unfold spec_FirstDrawn.f
 repeat' first
   | (with_reducible exact spec_piFirst.mono _ _ _)
   | (with_reducible exact spec_piStart.mono _ _ _)
   | (with_reducible exact LeO.refl _)
   | (with_reducible exact LeO.none _)
   | (with_reducible refine LeO.ite ?_ ?_)
   | (with_reducible refine LeO.bind ?_ (fun _ => ?_))
   | exact spec_piFirst.mono _ _ _
   | exact spec_piStart.mono _ _ _
   | exact LeO.none _
   | refine LeO.ite ?_ ?_
   | refine LeO.bind ?_ (fun _ => ?_)
set_option maxHeartbeats 8000000 in
set_option maxRecDepth 100000 in
theorem spec_FirstDrawn.calls (k : Nat) (a0 : ByteArray) (a1 : Int) (r1 : ByteArray) (r2 : Bool) (w : World) (h : spec_FirstDrawn.f k a0 a1 = some (r1, r2)) :
  Calls Tryd.prog 11 #[.string a0, .int .i64 a1] w fun e w' => e = .returned (.tuple #[.string r1, .bool r2]) ∧ Drawn0 w w' := by
 have H : ((spec_piStart.f k a0 a1).bind fun t101 => (if t101 = true then ((spec_piFirst.f k a0 (wrap64 (a1 - 1))).bind fun bt102 => (some (bt102.1, bt102.2))) else (some ((⟨#[]⟩ : ByteArray), false)))) = some (r1, r2) := h
 clear h
 replace H := Option.bind_eq_some_iff.mp H
 obtain ⟨t101, A30, H⟩ := H
 replace H : (if t101 = true then ((spec_piFirst.f k a0 (wrap64 (a1 - 1))).bind fun bt102 => (some (bt102.1, bt102.2))) else (some ((⟨#[]⟩ : ByteArray), false))) = some (r1, r2) := H
 have A3 := Aside0.mk A30
 clear A30
 by_cases c4 : t101 = true
 ·
  subst c4
  have H1 : ((spec_piFirst.f k a0 (wrap64 (a1 - 1))).bind fun bt102 => (some (bt102.1, bt102.2))) = some (r1, r2) := by rw [if_pos rfl] at H; exact H
  clear H
  have H := H1
  clear H1
  replace H := Option.bind_eq_some_iff.mp H
  obtain ⟨⟨t102, t103⟩, A50, H⟩ := H
  replace H : (some (t102, t103)) = some (r1, r2) := H
  have A5 := Aside0.mk A50
  clear A50
  simp only [Option.some.injEq, Prod.mk.injEq] at H
  obtain ⟨rfl, rfl⟩ := H
  go_enter Tryd.func11, Tryd.ntmps11
  go_wp2_with (first | ((with_reducible refine gate_callee (f := 21) rfl ?_); refine goesL_ (some 8) rfl rfl Tryd.func21 (by kernel_rfl) rfl #[.string a0, .int .i64 a1] rfl (by (try simp only [List.map_toArray, List.map_cons, List.map_nil]); first | done | rfl | (simp only [List.length_drop, List.length_take]; rfl)) ?_; (with_reducible refine (spec_piStart.calls k a0 a1 true _ A3.out).mono ?_); rintro e w' ⟨rfl, ⟨nd, rfl⟩⟩; refine ⟨_, rfl, ?_⟩) | ((with_reducible refine gate_callee (f := 26) rfl ?_); refine goesL_ (some 13) rfl rfl Tryd.func26 (by kernel_rfl) rfl #[.string a0, .int .i64 (wrap64 (a1 - 1))] rfl (by (try simp only [List.map_toArray, List.map_cons, List.map_nil]); first | done | rfl | (simp only [List.length_drop, List.length_take]; rfl)) ?_; (with_reducible refine (spec_piFirst.calls k a0 (wrap64 (a1 - 1)) t102 t103 _ A5.out).mono ?_); rintro e w' ⟨rfl, ⟨nd, rfl⟩⟩; refine ⟨_, rfl, ?_⟩))
  go_ret2
  exact ⟨by first | rfl | (simp; done) | (simp [*]; done), by repeat (first | exact Drawn0.refl _ | apply Drawn0.step)⟩
 ·
  replace c4 := Bool.eq_false_iff.mpr c4
  subst c4
  have H1 : (some ((⟨#[]⟩ : ByteArray), false)) = some (r1, r2) := by rw [if_neg (show ¬ (false = true) by decide)] at H; exact H
  clear H
  have H := H1
  clear H1
  simp only [Option.some.injEq, Prod.mk.injEq] at H
  obtain ⟨rfl, rfl⟩ := H
  go_enter Tryd.func11, Tryd.ntmps11
  go_wp2_with (first | ((with_reducible refine gate_callee (f := 21) rfl ?_); refine goesL_ (some 8) rfl rfl Tryd.func21 (by kernel_rfl) rfl #[.string a0, .int .i64 a1] rfl (by (try simp only [List.map_toArray, List.map_cons, List.map_nil]); first | done | rfl | (simp only [List.length_drop, List.length_take]; rfl)) ?_; (with_reducible refine (spec_piStart.calls k a0 a1 false _ A3.out).mono ?_); rintro e w' ⟨rfl, ⟨nd, rfl⟩⟩; refine ⟨_, rfl, ?_⟩))
  go_ret2
  exact ⟨by first | rfl | (simp; done) | (simp [*]; done), by repeat (first | exact Drawn0.refl _ | apply Drawn0.step)⟩

end Go.Proofs.YtjjmbinhagaifaaDoor.P

-- printed by xprint.py
namespace Go.Proofs.YtjjmbinhagaifaaDoor.P
open Go.RowKit Go.Proofs.YtjjmbinhagaifaaDoorW.PrintWords Go.Proofs.YtjjmbinhagaifaaDoorW.PrintLast Go.Proofs.YtjjmbinhagaifaaDoorW.PrintMore
attribute [local go_sem] max2_int min2_int max_two min_two max_three min_three max_four min_four   -- for this text's walks alone
set_option linter.unusedVariables false
set_option linter.unusedSimpArgs false

/-! ### laws_FnExactFirstDrawn: function 4 -/
def laws_FnExactFirstDrawn.f (k : Nat) (a0 : ByteArray) (a1 : Int) : Option (Bool) := if (a0.size : Int) > 1048576 then (some true) else ((spec_FirstDrawn.f k a0 a1).bind fun bt101 => ((impl_FirstDrawn.f k a0 a1).bind fun bt103 => (if bt103.1.toList = bt101.1.toList then (if (bt103.2 != bt101.2) = true then (some false) else (some true)) else (some false))))
theorem laws_FnExactFirstDrawn.mono : ∀ y0 y1 k, LeO (laws_FnExactFirstDrawn.f k y0 y1) (laws_FnExactFirstDrawn.f (k + 1) y0 y1) := by
 intro y0 y1 k
 unfold laws_FnExactFirstDrawn.f
 repeat' first
   | (with_reducible exact impl_FirstDrawn.mono _ _ _)
   | (with_reducible exact spec_FirstDrawn.mono _ _ _)
   | (with_reducible exact LeO.refl _)
   | (with_reducible exact LeO.none _)
   | (with_reducible refine LeO.ite ?_ ?_)
   | (with_reducible refine LeO.bind ?_ (fun _ => ?_))
   | exact impl_FirstDrawn.mono _ _ _
   | exact spec_FirstDrawn.mono _ _ _
   | exact LeO.none _
   | refine LeO.ite ?_ ?_
   | refine LeO.bind ?_ (fun _ => ?_)
set_option maxHeartbeats 8000000 in
set_option maxRecDepth 100000 in
theorem laws_FnExactFirstDrawn.calls (k : Nat) (a0 : ByteArray) (a1 : Int) (r : Bool) (w : World) (h : laws_FnExactFirstDrawn.f k a0 a1 = some r) :
  Calls Tryd.prog 4 #[.string a0, .int .i64 a1] w fun e w' => e = .returned (.bool r) ∧ Below w.heap.size w w' := by
 have HB := Aside0.mk (Below.refl w.heap.size w)
 have H : (if (a0.size : Int) > 1048576 then (some true) else ((spec_FirstDrawn.f k a0 a1).bind fun bt101 => ((impl_FirstDrawn.f k a0 a1).bind fun bt103 => (if bt103.1.toList = bt101.1.toList then (if (bt103.2 != bt101.2) = true then (some false) else (some true)) else (some false))))) = some r := h
 clear h
 by_cases c3 : (a0.size : Int) > 1048576
 ·
  rw [if_pos c3] at H
  have c3b0 : decide (1048576 < (a0.size : Int)) = true := decide_eq_true c3
  have c3b1 : decide (1048576 < a0.size) = true := decide_eq_true (by omega)
  clear c3
  obtain rfl := Option.some.inj H
  go_enter Tryd.func4, Tryd.ntmps4
  go_wp2
  go_ret
  exact ⟨by first | rfl | (simp [errW_none, errW_some] <;> rfl) | (simp [*, errW_none, errW_some] <;> rfl), by repeat (first | (with_reducible first | exact HB.out | apply below_alloc | apply pw_below_drewN | apply below_drew1) | exact HB.out)⟩
 ·
  rw [if_neg c3] at H
  have c3b0 : decide (1048576 < (a0.size : Int)) = false := decide_eq_false c3
  have c3b1 : decide (1048576 < a0.size) = false := decide_eq_false (by omega)
  clear c3
  replace H := Option.bind_eq_some_iff.mp H
  obtain ⟨⟨t101, t102⟩, A40, H⟩ := H
  replace H : ((impl_FirstDrawn.f k a0 a1).bind fun bt103 => (if bt103.1.toList = t101.toList then (if (bt103.2 != t102) = true then (some false) else (some true)) else (some false))) = some r := H
  have A4 := Aside0.mk A40
  clear A40
  replace H := Option.bind_eq_some_iff.mp H
  obtain ⟨⟨t103, t104⟩, A50, H⟩ := H
  replace H : (if t103.toList = t101.toList then (if (t104 != t102) = true then (some false) else (some true)) else (some false)) = some r := H
  have A5 := Aside0.mk A50
  clear A50
  by_cases c6 : t103.toList = t101.toList
  ·
   rw [if_pos c6] at H
   have c6b0 : (t103.toList == t101.toList) = true := beq_iff_eq.mpr c6
   have c6b1 : (t103.toList != t101.toList) = false := bne_eq_false_iff_eq.mpr c6
   clear c6
   by_cases c7 : (t104 != t102) = true
   ·
    rw [if_pos c7] at H
    have c7b0 : (t104 != t102) = true := c7
    (try (have c7b1 : decide (t104 = t102) = false := by simpa using c7))
    (try (have c7b2 : (t104 == t102) = false := by simpa using c7))
    (try (have c7b3 : ¬ (t104 = t102) := by simpa using c7))
    clear c7
    obtain rfl := Option.some.inj H
    go_enter Tryd.func4, Tryd.ntmps4
    go_wp2_with (first | ((with_reducible refine gate_callee (f := 11) rfl ?_); refine goesL_ (some 15) rfl rfl Tryd.func11 (by kernel_rfl) rfl #[.string a0, .int .i64 a1] rfl (by (try simp only [List.map_toArray, List.map_cons, List.map_nil]); first | done | rfl | (simp only [List.length_drop, List.length_take]; rfl)) ?_; (with_reducible refine (spec_FirstDrawn.calls k a0 a1 t101 t102 _ A4.out).mono ?_); rintro e w' ⟨rfl, ⟨nd, rfl⟩⟩; refine ⟨_, rfl, ?_⟩) | ((with_reducible refine gate_callee (f := 12) rfl ?_); refine goesL_ (some 21) rfl rfl Tryd.func12 (by kernel_rfl) rfl #[.string a0, .int .i64 a1] rfl (by (try simp only [List.map_toArray, List.map_cons, List.map_nil]); first | done | rfl | (simp only [List.length_drop, List.length_take]; rfl)) ?_; (with_reducible refine (impl_FirstDrawn.calls k a0 a1 t103 t104 _ A5.out).mono ?_); rintro e w8 ⟨rfl, hb⟩; refine ⟨_, rfl, ?_⟩; have n0_ := Aside0.mk (below_step (by repeat (first | (with_reducible first | exact HB.out | apply below_alloc | apply pw_below_drewN | apply below_drew1) | exact HB.out)) hb); clear HB; have HB := n0_; clear n0_; (try clear hb); (try clear hb2); (try clear hk); (try clear hi)))
    go_ret
    exact ⟨by first | rfl | (simp [errW_none, errW_some] <;> rfl) | (simp [*, errW_none, errW_some] <;> rfl), by repeat (first | (with_reducible first | exact HB.out | apply below_alloc | apply pw_below_drewN | apply below_drew1) | exact HB.out)⟩
   ·
    rw [if_neg c7] at H
    have c7b0 : (t104 != t102) = false := by simpa using c7
    (try (have c7b1 : decide (t104 = t102) = true := by simpa using c7))
    (try (have c7b2 : (t104 == t102) = true := by simpa using c7))
    clear c7
    obtain rfl := Option.some.inj H
    go_enter Tryd.func4, Tryd.ntmps4
    go_wp2_with (first | ((with_reducible refine gate_callee (f := 11) rfl ?_); refine goesL_ (some 15) rfl rfl Tryd.func11 (by kernel_rfl) rfl #[.string a0, .int .i64 a1] rfl (by (try simp only [List.map_toArray, List.map_cons, List.map_nil]); first | done | rfl | (simp only [List.length_drop, List.length_take]; rfl)) ?_; (with_reducible refine (spec_FirstDrawn.calls k a0 a1 t101 t102 _ A4.out).mono ?_); rintro e w' ⟨rfl, ⟨nd, rfl⟩⟩; refine ⟨_, rfl, ?_⟩) | ((with_reducible refine gate_callee (f := 12) rfl ?_); refine goesL_ (some 21) rfl rfl Tryd.func12 (by kernel_rfl) rfl #[.string a0, .int .i64 a1] rfl (by (try simp only [List.map_toArray, List.map_cons, List.map_nil]); first | done | rfl | (simp only [List.length_drop, List.length_take]; rfl)) ?_; (with_reducible refine (impl_FirstDrawn.calls k a0 a1 t103 t104 _ A5.out).mono ?_); rintro e w9 ⟨rfl, hb⟩; refine ⟨_, rfl, ?_⟩; have n0_ := Aside0.mk (below_step (by repeat (first | (with_reducible first | exact HB.out | apply below_alloc | apply pw_below_drewN | apply below_drew1) | exact HB.out)) hb); clear HB; have HB := n0_; clear n0_; (try clear hb); (try clear hb2); (try clear hk); (try clear hi)))
    go_ret
    exact ⟨by first | rfl | (simp [errW_none, errW_some] <;> rfl) | (simp [*, errW_none, errW_some] <;> rfl), by repeat (first | (with_reducible first | exact HB.out | apply below_alloc | apply pw_below_drewN | apply below_drew1) | exact HB.out)⟩
  ·
   rw [if_neg c6] at H
   have c6b0 : (t103.toList == t101.toList) = false := beq_eq_false_iff_ne.mpr c6
   have c6b1 : (t103.toList != t101.toList) = true := bne_iff_ne.mpr c6
   obtain rfl := Option.some.inj H
   go_enter Tryd.func4, Tryd.ntmps4
   go_wp2_with (first | ((with_reducible refine gate_callee (f := 11) rfl ?_); refine goesL_ (some 15) rfl rfl Tryd.func11 (by kernel_rfl) rfl #[.string a0, .int .i64 a1] rfl (by (try simp only [List.map_toArray, List.map_cons, List.map_nil]); first | done | rfl | (simp only [List.length_drop, List.length_take]; rfl)) ?_; (with_reducible refine (spec_FirstDrawn.calls k a0 a1 t101 t102 _ A4.out).mono ?_); rintro e w' ⟨rfl, ⟨nd, rfl⟩⟩; refine ⟨_, rfl, ?_⟩) | ((with_reducible refine gate_callee (f := 12) rfl ?_); refine goesL_ (some 21) rfl rfl Tryd.func12 (by kernel_rfl) rfl #[.string a0, .int .i64 a1] rfl (by (try simp only [List.map_toArray, List.map_cons, List.map_nil]); first | done | rfl | (simp only [List.length_drop, List.length_take]; rfl)) ?_; (with_reducible refine (impl_FirstDrawn.calls k a0 a1 t103 t104 _ A5.out).mono ?_); rintro e w10 ⟨rfl, hb⟩; refine ⟨_, rfl, ?_⟩; have n0_ := Aside0.mk (below_step (by repeat (first | (with_reducible first | exact HB.out | apply below_alloc | apply pw_below_drewN | apply below_drew1) | exact HB.out)) hb); clear HB; have HB := n0_; clear n0_; (try clear hb); (try clear hb2); (try clear hk); (try clear hi)))
   go_ret
   exact ⟨by first | rfl | (simp [errW_none, errW_some] <;> rfl) | (simp [*, errW_none, errW_some] <;> rfl), by repeat (first | (with_reducible first | exact HB.out | apply below_alloc | apply pw_below_drewN | apply below_drew1) | exact HB.out)⟩

end Go.Proofs.YtjjmbinhagaifaaDoor.P

namespace Go.Proofs.YtjjmbinhagaifaaDoor
open Go.RowKit Go.Proofs.YtjjmbinhagaifaaDoor.P Go.Proofs.YtjjmbinhagaifaaDoorW.PrintWords Go.Proofs.YtjjmbinhagaifaaDoorW.PrintLast
/-- The pure statement of FnExactFirstDrawn. -/
def PureFnExactFirstDrawn : Prop := ∀ (a0 : ByteArray) (a1 : Int), a0.size ≤ 9223372036854775807 → (Lit.int .i64 a1).wf = true →  ∃ k, laws_FnExactFirstDrawn.f k a0 a1 = some true
end Go.Proofs.YtjjmbinhagaifaaDoor

namespace Go.Proofs.YtjjmbinhagaifaaDoor
open Go.RowKit Go.Proofs.YtjjmbinhagaifaaDoorW.PrintWords
/-! Plain words for the pure statements: answers that stand from some number of rounds on. -/
theorem Ev.succ {α : Type} {g : Nat → Option α} {r : α} (h : Ev (fun k => g (k + 1)) r) : Ev g r := Ev.step (fun _ => rfl) h
theorem Ev.const {α : Type} {a : Option α} {r : α} (h : a = some r) : Ev (fun _ => a) r := ⟨0, fun _ _ => h⟩
theorem Ev.pos {α : Type} {c : Prop} [Decidable c] {g f : Nat → Option α} {r : α} (hc : c) (h : Ev g r) : Ev (fun k => if c then g k else f k) r := by simp only [if_pos hc]; exact h
theorem Ev.neg {α : Type} {c : Prop} [Decidable c] {g f : Nat → Option α} {r : α} (hc : ¬ c) (h : Ev f r) : Ev (fun k => if c then g k else f k) r := by simp only [if_neg hc]; exact h
theorem Ev.yes {α : Type} {c : Prop} [Decidable c] {g f : Nat → Option α} {r : α} (h : Ev g r) (hc : c := by first | omega | rfl | trivial | decide | simp | (simp; omega)) : Ev (fun k => if c then g k else f k) r := Ev.pos hc h
theorem Ev.no {α : Type} {c : Prop} [Decidable c] {g f : Nat → Option α} {r : α} (h : Ev f r) (hc : ¬ c := by first | omega | decide | simp | (simp; omega)) : Ev (fun k => if c then g k else f k) r := Ev.neg hc h
theorem Ev.bindc {α β : Type} {a : Option α} {x : α} {f : Nat → α → Option β} {r : β} (h : a = some x) (k : Ev (fun n => f n x) r) : Ev (fun n => a.bind (f n)) r := by subst h; exact k
theorem wrap_id {n : Int} (h1 : -9223372036854775808 ≤ n) (h2 : n ≤ 9223372036854775807) : wrap64 n = n := IntWalk.wrap64_in n ⟨h1, h2⟩
theorem wf_i64 {n : Int} (h : (Lit.int .i64 n).wf = true) : -9223372036854775808 ≤ n ∧ n ≤ 9223372036854775807 := by
  have e1 : IntKind.i64.min = -9223372036854775808 := rfl
  have e2 : IntKind.i64.max = 9223372036854775807 := rfl
  simp only [Lit.wf, e1, e2, Bool.and_eq_true, decide_eq_true_eq] at h
  exact h
theorem rd_nat (l : List Int) (j : Nat) (h : j < l.length) : rd l (j : Int) = l[j] := by unfold rd; simp [List.getD, h]
end Go.Proofs.YtjjmbinhagaifaaDoor

namespace Go.Proofs.YtjjmbinhagaifaaDoor
open Go.RowKit Go.Proofs.YtjjmbinhagaifaaDoorW.PrintWords
set_option linter.unusedSimpArgs false
set_option linter.unusedVariables false
/-! Strings as lists of bytes. -/
/-- A string's bytes. -/
def bl (s : ByteArray) : List UInt8 := s.data.toList
theorem bl_len (s : ByteArray) : s.size = (bl s).length := rfl
theorem bl_inj {s t : ByteArray} (h : bl s = bl t) : s = t := ByteArray.ext (Array.toList_inj.1 h)
theorem bl_toList (s : ByteArray) : s.toList = bl s := Go.ByteArray.toList_eq s
theorem bl_mk (a : Array UInt8) : bl ⟨a⟩ = a.toList := rfl
theorem mk_bl (s : ByteArray) : (⟨(bl s).toArray⟩ : ByteArray) = s := bl_inj (by simp [bl])
theorem bl_extract (s : ByteArray) (i j : Nat) : bl (s.extract i j) = ((bl s).drop i).take (j - i) := by simp [bl, ByteArray.data_extract]
theorem bl_append (s t : ByteArray) : bl (s ++ t) = bl s ++ bl t := by simp [bl, ByteArray.data_append]
theorem bl_nums (l : List Int) : bl (strOfNums l) = l.map fun n => UInt8.ofNat n.toNat := rfl
theorem bl_empty : bl (⟨#[]⟩ : ByteArray) = [] := rfl
theorem bt_nat (s : ByteArray) (i : Nat) (h : i < (bl s).length) : bt s (i : Int) = ((bl s)[i].toNat : Int) := by
  unfold bt
  have h' : ((i : Int)).toNat < s.size := by rw [Int.toNat_natCast]; exact h
  rw [dif_pos h']; rfl
theorem of_toNat (c : UInt8) : UInt8.ofNat ((c.toNat : Int)).toNat = c := by rw [Int.toNat_natCast]; simp
theorem bt_of (s : ByteArray) (i : Nat) (h : i < (bl s).length) : UInt8.ofNat (bt s (i : Int)).toNat = (bl s)[i] := by rw [bt_nat s i h]; exact of_toNat _
theorem byte_eq (c d : UInt8) : ((c.toNat : Int) = (d.toNat : Int)) ↔ c = d := by
  constructor
  · intro h; exact UInt8.toNat_inj.1 (by exact_mod_cast h)
  · intro h; rw [h]
theorem byte_lt (c d : UInt8) : ((c.toNat : Int) < (d.toNat : Int)) ↔ c < d := by rw [UInt8.lt_iff_toNat_lt]; omega
theorem byte_le (c d : UInt8) : ((c.toNat : Int) ≤ (d.toNat : Int)) ↔ c ≤ d := by rw [UInt8.le_iff_toNat_le]; omega
theorem dropWhile_nil {α : Type} (p : α → Bool) : ∀ l : List α, l.dropWhile p = [] ↔ l.all p = true
  | [] => by simp
  | x :: xs => by
    by_cases h : p x = true
    · simp [List.dropWhile_cons, h, dropWhile_nil p xs]
    · simp [List.dropWhile_cons, h]
theorem dropWhile_keeps {α : Type} (p : α → Bool) : ∀ l : List α, (l.dropWhile p).all p = l.all p
  | [] => rfl
  | x :: xs => by
    by_cases h : p x = true
    · simp only [List.dropWhile_cons, h, if_true, List.all_cons, Bool.true_and]; exact dropWhile_keeps p xs
    · simp [List.dropWhile_cons, h]
theorem trimS_nil (l cs : List UInt8) : Lib.trimS l cs = [] ↔ l.all (cs.contains ·) = true := by
  unfold Lib.trimS Lib.trimLeftS Lib.trimRightS
  rw [dropWhile_nil, List.all_reverse, dropWhile_keeps, List.all_reverse]
theorem indexByte_neg (l : List UInt8) (c : UInt8) : Lib.indexByte l c < 0 ↔ ¬ c ∈ l := by
  induction l with
  | nil => simp [Lib.indexByte]
  | cons b l ih =>
    have hge := Lib.indexByte_ge l c
    unfold Lib.indexByte
    by_cases h : b = c
    · subst h; simp
    · have h1 : (b == c) = false := by simpa using h
      rw [h1]
      have h2 : ¬ c = b := fun e => h e.symm
      simp only [Bool.false_eq_true, if_false, List.mem_cons, h2, false_or]
      by_cases e : Lib.indexByte l c = -1
      · simp only [e, beq_self_eq_true, if_true]
        have := ih.1 (by omega)
        simp [this]
      · have e' : (Lib.indexByte l c == -1) = false := by simpa using e
        rw [e']
        simp only [Bool.false_eq_true, if_false]
        have hp : ¬ Lib.indexByte l c < 0 := by omega
        have := mt ih.2 hp
        constructor
        · intro h3; omega
        · intro h3; exact absurd h3 this
/-- The letters. -/
def isLow (c : UInt8) : Bool := decide (97 ≤ c.toNat) && decide (c.toNat ≤ 122)
theorem u8_all (P : UInt8 → Prop) [DecidablePred P] (h : ∀ n, n < 256 → P (UInt8.ofNat n)) (c : UInt8) : P c := by
  have := h c.toNat c.toNat_lt
  rwa [show UInt8.ofNat c.toNat = c from by simp] at this
theorem low_contains (c : UInt8) : ([97, 98, 99, 100, 101, 102, 103, 104, 105, 106, 107, 108, 109, 110, 111, 112, 113, 114, 115, 116, 117, 118, 119, 120, 121, 122] : List UInt8).contains c = isLow c := by
  refine u8_all (fun c => _ = isLow c) ?_ c
  decide +kernel
theorem dig_contains (c : UInt8) : ([48, 49, 50, 51, 52, 53, 54, 55, 56, 57] : List UInt8).contains c = (decide (48 ≤ c.toNat) && decide (c.toNat ≤ 57)) := by
  refine u8_all (fun c => _ = (decide (48 ≤ c.toNat) && decide (c.toNat ≤ 57))) ?_ c
  decide +kernel
end Go.Proofs.YtjjmbinhagaifaaDoor

namespace Go.Proofs.YtjjmbinhagaifaaDoor
open Go.RowKit Go.Proofs.YtjjmbinhagaifaaDoor.P Go.Proofs.YtjjmbinhagaifaaDoorW.PrintWords
set_option linter.unusedSimpArgs false
set_option linter.unusedVariables false
/-! The letters of a text: sorted by insertion, each once. -/
theorem rd_mid (A R : List Int) (v : Int) (j : Nat) (hj : j = A.length) : rd (A ++ v :: R) (j : Int) = v := by
  subst hj
  unfold rd
  rw [Int.toNat_natCast, List.getD_eq_getElem?_getD, List.getElem?_append_right (Nat.le_refl _)]
  simp
theorem less_eq (a b : Int) : cmp_Less_byte.f a b = some (decide (a < b)) := by
  unfold cmp_Less_byte.f cmp_isNaN_byte.f
  simp
theorem set_swap (A R : List Int) (u v : Int) : ((A ++ u :: v :: R).set (A.length + 1) u).set A.length v = A ++ v :: u :: R := by
  rw [List.set_append_right _ _ (by omega), show A.length + 1 - A.length = 1 by omega, List.set_append_right _ _ (by omega), Nat.sub_self]
  rfl
theorem ins_l1 (i n : Nat) (hn : n ≤ 1000000) (q : List Int) (v : Int) : ∀ (m : Nat) (A B : List Int), A.length = m → (A ++ B).length = i → i + 1 + q.length = n → (A ++ B).Pairwise (· ≤ ·) → (∀ b ∈ B, v ≤ b) →
    ∃ t, t.Perm (A ++ v :: B) ∧ t.Pairwise (· ≤ ·) ∧ ∀ R, Ev (fun k => slices_insertionSortOrdered_byte.l0 k (t ++ q) 0 (n : Int) ((i + 1 : Nat) : Int)) R → Ev (fun k => slices_insertionSortOrdered_byte.l1 k (A ++ v :: (B ++ q)) 0 (n : Int) (i : Int) (m : Int)) R
  | 0, A, B, hA, hi, hq, hp, hv => by
    obtain rfl := List.length_eq_zero_iff.1 hA
    refine ⟨v :: B, List.Perm.refl _, List.pairwise_cons.2 ⟨hv, hp⟩, fun R hR => ?_⟩
    apply Ev.succ; simp only [slices_insertionSortOrdered_byte.l1]
    refine Ev.neg (by omega) ?_
    rw [show wrap64 ((i : Int) + 1) = ((i + 1 : Nat) : Int) by rw [wrap_id (by omega) (by omega)]; omega]
    exact hR
  | m + 1, A, B, hA, hi, hq, hp, hv => by
    rcases List.eq_nil_or_concat A with rfl | ⟨A', u, rfl⟩
    · simp at hA
    rw [List.concat_eq_append] at *
    have hA' : A'.length = m := by simpa using hA
    have hlen : (A' ++ [u] ++ v :: (B ++ q)).length = n := by simp at hi ⊢; omega
    have hm : m + 1 < n := by simp at hi; omega
    have e1 : wrap64 (((m + 1 : Nat) : Int) - 1) = (m : Int) := by rw [wrap_id (by omega) (by omega)]; omega
    have r1 : rd (A' ++ [u] ++ v :: (B ++ q)) ((m + 1 : Nat) : Int) = v := rd_mid _ _ _ _ (by simp; omega)
    have r2 : rd (A' ++ [u] ++ v :: (B ++ q)) (m : Int) = u := by
      rw [List.append_assoc]; exact rd_mid _ _ _ _ hA'.symm
    by_cases c : v < u
    · have hp' : (A' ++ u :: B).Pairwise (· ≤ ·) := by simpa using hp
      obtain ⟨t, t1, t2, t3⟩ := ins_l1 i n hn q v m A' (u :: B) hA' (by simpa using hi) hq hp' (by
        intro b hb
        rcases List.mem_cons.1 hb with rfl | hb
        · exact Int.le_of_lt c
        · exact hv b hb)
      refine ⟨t, t1.trans ?_, t2, fun R hR => ?_⟩
      · rw [List.append_assoc]
        exact List.Perm.append_left A' (List.Perm.swap _ _ _)
      · have go := t3 R hR
        apply Ev.succ; simp only [slices_insertionSortOrdered_byte.l1, e1, r1, r2, hlen, less_eq]
        refine Ev.pos (by omega) (Ev.pos (by omega) (Ev.pos (by omega) (Ev.pos (by omega) (Ev.pos (by omega) (Ev.bindc rfl (Ev.pos (by simpa using c) ?_))))))
        rw [Int.toNat_natCast, Int.toNat_natCast, show A' ++ [u] ++ v :: (B ++ q) = A' ++ u :: v :: (B ++ q) by simp, ← hA', set_swap]
        rw [hA']
        exact go
    · have hA2 := List.pairwise_append.1 hp
      have hAu := List.pairwise_append.1 hA2.1
      refine ⟨A' ++ [u] ++ v :: B, List.Perm.refl _, ?_, fun R hR => ?_⟩
      · refine List.pairwise_append.2 ⟨hA2.1, List.pairwise_cons.2 ⟨hv, hA2.2.1⟩, fun a ha b hb => ?_⟩
        have hau : a ≤ u := by
          rcases List.mem_append.1 ha with h | h
          · exact hAu.2.2 a h u (by simp)
          · rw [List.mem_singleton.1 h]; exact Int.le_refl _
        rcases List.mem_cons.1 hb with rfl | hb
        · omega
        · have := hv b hb; omega
      · apply Ev.succ; simp only [slices_insertionSortOrdered_byte.l1, e1, r1, r2, hlen, less_eq]
        refine Ev.pos (by omega) (Ev.pos (by omega) (Ev.pos (by omega) (Ev.pos (by omega) (Ev.pos (by omega) (Ev.bindc rfl (Ev.neg (by simpa using c) ?_))))))
        rw [show wrap64 ((i : Int) + 1) = ((i + 1 : Nat) : Int) by rw [wrap_id (by omega) (by omega)]; omega]
        simpa using hR
theorem ins_l0 (n : Nat) (hn : n ≤ 1000000) : ∀ (d i : Nat) (S q : List Int), S.length = i → q.length = d → i + d = n → S.Pairwise (· ≤ ·) → ∃ t, t.Perm (S ++ q) ∧ t.Pairwise (· ≤ ·) ∧ Ev (fun k => slices_insertionSortOrdered_byte.l0 k (S ++ q) 0 (n : Int) (i : Int)) t
  | 0, i, S, q, hS, hq, hi, hp => by
    obtain rfl := List.length_eq_zero_iff.1 hq
    refine ⟨S, by simp, hp, ?_⟩
    apply Ev.succ; simp only [slices_insertionSortOrdered_byte.l0]
    exact Ev.neg (by omega) (Ev.const (by simp))
  | d + 1, i, S, q, hS, hq, hi, hp => by
    obtain ⟨v, q', rfl⟩ : ∃ v q', q = v :: q' := by cases q with
      | nil => simp at hq
      | cons v q' => exact ⟨v, q', rfl⟩
    have hq' : q'.length = d := by simpa using hq
    obtain ⟨t, t1, t2, t3⟩ := ins_l1 i n hn q' v i S [] hS (by simpa using hS) (by omega) (by simpa using hp) (by simp)
    have hl : t.length = i + 1 := by rw [t1.length_eq]; simp [hS]
    obtain ⟨r, r1, r2, r3⟩ := ins_l0 n hn d (i + 1) t q' hl hq' (by omega) t2
    refine ⟨r, r1.trans ?_, r2, ?_⟩
    · have := List.Perm.append_right q' t1
      simpa using this
    · apply Ev.succ; simp only [slices_insertionSortOrdered_byte.l0]
      refine Ev.pos (by omega) ?_
      have := t3 r r3
      simpa using this
theorem sort_ev (l : List Int) (hl : l.length ≤ 12) : ∃ t, t.Perm l ∧ t.Pairwise (· ≤ ·) ∧ Ev (fun k => slices_Sort_byte_byte.f k l) t := by
  have key : ∃ t, t.Perm l ∧ t.Pairwise (· ≤ ·) ∧ Ev (fun k => slices_insertionSortOrdered_byte.f k l 0 (l.length : Int)) t := by
    unfold slices_insertionSortOrdered_byte.f
    rw [show wrap64 ((0 : Int) + 1) = ((1 : Nat) : Int) by rw [wrap_id (by omega) (by omega)]; rfl]
    cases l with
    | nil =>
      refine ⟨[], List.Perm.refl _, List.Pairwise.nil, ?_⟩
      apply Ev.succ; simp only [slices_insertionSortOrdered_byte.l0]
      exact Ev.neg (by simp) (Ev.now _)
    | cons x l =>
      have hl' : (x :: l).length = l.length + 1 := rfl
      exact ins_l0 (x :: l).length (by omega) l.length 1 [x] l rfl rfl (by omega) (List.pairwise_singleton _ _)
  obtain ⟨t, t1, t2, t3⟩ := key
  refine ⟨t, t1, t2, ?_⟩
  unfold slices_Sort_byte_byte.f
  have hw : IntKind.u64.wrap (l.length : Int) = (l.length : Int) := by
    show (l.length : Int) % 18446744073709551616 = _
    omega
  refine Ev.bindc (x := (Lib.bitLen l.length : Int)) (by unfold bits_Len.f; rw [hw, if_pos ⟨by omega, by omega⟩, Int.toNat_natCast]) (Ev.bind ?_ (Ev.now _))
  unfold slices_pdqsortOrdered_byte.f
  refine Ev.pos ?_ t3
  rw [wrap_id (by omega) (by omega)]; omega
/-! Each once. -/
theorem keeps_iff (t : List Int) (j : Nat) (hj : j < t.length) : Lib.keeps t.toArray j = true ↔ j = 0 ∨ ∃ h : 0 < j, t[j] ≠ t[j - 1] := by
  unfold Lib.keeps
  rw [decide_eq_true_iff, getElem!_pos t.toArray j (by simpa using hj), getElem!_pos t.toArray (j - 1) (by simp; omega)]
  simp only [List.getElem_toArray]
  constructor
  · rintro (h | h)
    · exact .inl h
    · by_cases h0 : j = 0
      · exact .inl h0
      · exact .inr ⟨by omega, h⟩
  · rintro (h | ⟨_, h⟩)
    · exact .inl h
    · exact .inr h
theorem strict_of (t : List Int) (hs : t.Pairwise (· ≤ ·)) (hk : ∀ j, j < t.length → Lib.keeps t.toArray j = true) : t.Pairwise (· < ·) := by
  rw [List.pairwise_iff_getElem] at hs ⊢
  intro i j hi hj hij
  have h1 := (keeps_iff t j hj).1 (hk j hj)
  rcases h1 with h1 | ⟨h0, h1⟩
  · omega
  · have h2 := hs (j - 1) j (by omega) hj (by omega)
    have h3 : t[i] ≤ t[j - 1] := by
      by_cases e : i = j - 1
      · subst e; exact Int.le_refl _
      · exact hs i (j - 1) hi (by omega) (by omega)
    omega
theorem keeps_of (t : List Int) (hs : t.Pairwise (· < ·)) : ∀ j, j < t.length → Lib.keeps t.toArray j = true := by
  rw [List.pairwise_iff_getElem] at hs
  intro j hj
  rw [keeps_iff t j hj]
  by_cases h0 : j = 0
  · exact .inl h0
  · exact .inr ⟨by omega, fun e => by have := hs (j - 1) j (by omega) hj (by omega); omega⟩
theorem compact_all (t : List Int) (hs : t.Pairwise (· < ·)) : Lib.compactUpTo t.toArray t.length = t := by
  rw [Lib.compactUpTo_all _ _ (keeps_of t hs)]
  apply List.ext_getElem
  · simp
  · intro i h1 h2
    rw [List.getElem_map, List.getElem_range, getElem!_pos t.toArray i (by simpa using h2)]
    simp
theorem keeps_all_of (t : List Int) (h : (Lib.compactUpTo t.toArray t.length).length = t.length) : ∀ j, j < t.length → Lib.keeps t.toArray j = true := by
  unfold Lib.compactUpTo at h
  rw [List.length_map] at h
  intro j hj
  have := List.filter_eq_self.1 (List.filter_sublist.eq_of_length (by rw [h, List.length_range]))
  exact this j (List.mem_range.2 hj)
/-- lettersOf answers; as many letters as bytes just where none comes twice; and the text itself just where it ascends. -/
theorem letters_ev (s : ByteArray) (hs : s.size ≤ 12) : ∃ r, Ev (fun k => impl_lettersOf.f k s) r ∧ (r.size = s.size ↔ (bl s).Nodup) ∧ (bl r = bl s ↔ (bl s).Pairwise (· < ·)) := by
  have hlb : (bytesOf s).length = s.size := by unfold bytesOf; rw [List.length_map]; rfl
  have hbo : bytesOf s = (bl s).map fun b => (b.toNat : Int) := rfl
  obtain ⟨t, t1, t2, t3⟩ := sort_ev (bytesOf s) (by omega)
  have hlen : t.length = s.size := by rw [t1.length_eq, hlb]
  have hall : ∀ x ∈ t, 0 ≤ x ∧ x < 256 := by
    intro x hx
    have := t1.mem_iff.1 hx
    rw [hbo, List.mem_map] at this
    obtain ⟨b, _, rfl⟩ := this
    have := b.toNat_lt
    omega
  have hnd : t.Nodup ↔ (bl s).Nodup := by
    rw [t1.nodup_iff, hbo]
    unfold List.Nodup
    rw [List.pairwise_map]
    exact ⟨fun h => h.imp (fun h e => h (by rw [e])), fun h => h.imp (fun h e => h (UInt8.toNat_inj.1 (by omega)))⟩
  have back : ∀ l : List UInt8, (l.map fun b => (b.toNat : Int)).map (fun x => UInt8.ofNat x.toNat) = l := by
    intro l
    rw [List.map_map]
    have : ((fun x : Int => UInt8.ofNat x.toNat) ∘ fun b : UInt8 => (b.toNat : Int)) = id := by
      funext b; exact of_toNat b
    rw [this, List.map_id]
  refine ⟨⟨((Lib.compactUpTo t.toArray t.length).map fun x => UInt8.ofNat x.toNat).toArray⟩, ?_, ?_, ?_⟩
  · unfold impl_lettersOf.f
    refine Ev.bind t3 (Ev.const ?_)
    rw [if_pos ⟨hlen, by omega, by rw [List.all_eq_true]; intro x hx; simpa using hall x hx⟩]
  · rw [bl_len, bl_mk]
    simp only [List.length_map]
    rw [← hnd]
    constructor
    · intro h
      have := strict_of t t2 (keeps_all_of t (by rw [hlen]; rw [hlen] at h; exact h))
      exact this.imp (fun h e => by omega)
    · intro h
      have hst : t.Pairwise (· < ·) := by
        have := t2.and h
        exact this.imp (fun ⟨h1, h2⟩ => by omega)
      rw [compact_all t hst, hlen]
  · rw [bl_mk]
    simp only []
    constructor
    · intro h
      have hl := congrArg List.length h
      rw [List.length_map, ← bl_len] at hl
      have hst := strict_of t t2 (keeps_all_of t (by rw [hlen]; rw [hlen] at hl; exact hl))
      rw [compact_all t hst] at h
      rw [← h]
      rw [List.pairwise_map]
      refine List.Pairwise.imp_of_mem ?_ hst
      intro a b ha hb hab
      have h1 := hall a ha
      have h2 := hall b hb
      rw [UInt8.lt_iff_toNat_lt]
      simp; omega
    · intro h
      have hb : (bytesOf s).Pairwise (· < ·) := by
        rw [hbo, List.pairwise_map]
        exact h.imp (fun h => by rw [UInt8.lt_iff_toNat_lt] at h; omega)
      have he : t = bytesOf s := t1.eq_of_pairwise (le := (· ≤ ·)) (fun a b _ _ h1 h2 => by omega) t2 (hb.imp (fun h => by omega))
      rw [he, compact_all _ hb, hbo, back]
end Go.Proofs.YtjjmbinhagaifaaDoor

-- printed by xprint.py
namespace Go.Proofs.YtjjmbinhagaifaaDoor.P
open Go.RowKit Go.Proofs.YtjjmbinhagaifaaDoorW.PrintWords Go.Proofs.YtjjmbinhagaifaaDoorW.PrintLast Go.Proofs.YtjjmbinhagaifaaDoorW.PrintMore
attribute [local go_sem] max2_int min2_int max_two min_two max_three min_three max_four min_four   -- for this text's walks alone
set_option linter.unusedVariables false
set_option linter.unusedSimpArgs false

/-! ### impl_isDigits: function 39 -/
def impl_isDigits.f (a0 : ByteArray) (a1 : Int) (a2 : Int) : Option (Bool) := (impl_in.f (a0.size : Int) a1 a2).bind fun t101 => (if t101 = true then ((impl_over.f a0 (⟨#[48, 49, 50, 51, 52, 53, 54, 55, 56, 57]⟩ : ByteArray)).bind fun t102 => (some t102)) else (some false))
set_option maxHeartbeats 8000000 in
set_option maxRecDepth 100000 in
theorem impl_isDigits.calls (a0 : ByteArray) (a1 : Int) (a2 : Int) (r : Bool) (w : World) (h : impl_isDigits.f a0 a1 a2 = some r) :
  Calls Tryd.prog 39 #[.string a0, .int .i64 a1, .int .i64 a2] w fun e w' => e = .returned (.bool r) ∧ Below w.heap.size w w' := by
 have HB := Aside0.mk (Below.refl w.heap.size w)
 have H : ((impl_in.f (a0.size : Int) a1 a2).bind fun t101 => (if t101 = true then ((impl_over.f a0 (⟨#[48, 49, 50, 51, 52, 53, 54, 55, 56, 57]⟩ : ByteArray)).bind fun t102 => (some t102)) else (some false))) = some r := h
 clear h
 replace H := Option.bind_eq_some_iff.mp H
 obtain ⟨t101, A40, H⟩ := H
 replace H : (if t101 = true then ((impl_over.f a0 (⟨#[48, 49, 50, 51, 52, 53, 54, 55, 56, 57]⟩ : ByteArray)).bind fun t102 => (some t102)) else (some false)) = some r := H
 have A4 := Aside0.mk A40
 clear A40
 by_cases c5 : t101 = true
 ·
  subst c5
  have H1 : ((impl_over.f a0 (⟨#[48, 49, 50, 51, 52, 53, 54, 55, 56, 57]⟩ : ByteArray)).bind fun t102 => (some t102)) = some r := by rw [if_pos rfl] at H; exact H
  clear H
  have H := H1
  clear H1
  replace H := Option.bind_eq_some_iff.mp H
  obtain ⟨t102, A60, H⟩ := H
  replace H : (some t102) = some r := H
  have A6 := Aside0.mk A60
  clear A60
  obtain rfl := Option.some.inj H
  go_enter Tryd.func39, Tryd.ntmps39
  go_wp2_with (first | ((with_reducible refine gate_callee (f := 42) rfl ?_); refine goesL_ (some 11) rfl rfl Tryd.func42 (by kernel_rfl) rfl #[.int .i64 (a0.size : Int), .int .i64 a1, .int .i64 a2] rfl (by (try simp only [List.map_toArray, List.map_cons, List.map_nil]); first | done | rfl | (simp only [List.length_drop, List.length_take]; rfl)) ?_; (with_reducible refine (impl_in.calls (a0.size : Int) a1 a2 true _ A4.out).mono ?_); rintro e w' ⟨rfl, ⟨nd, rfl⟩⟩; refine ⟨_, rfl, ?_⟩) | (go_at_call 45; (with_reducible refine (impl_over.calls a0 (⟨#[48, 49, 50, 51, 52, 53, 54, 55, 56, 57]⟩ : ByteArray) t102 _ A6.out).mono ?_); rintro e w7 ⟨rfl, hb⟩; have n0_ := Aside0.mk (below_step (by repeat (first | (with_reducible first | exact HB.out | apply below_alloc | apply pw_below_drewN | apply below_drew1) | exact HB.out)) hb); clear HB; have HB := n0_; clear n0_; (try clear hb); (try clear hb2); (try clear hk); (try clear hi)))
  go_ret
  exact ⟨by first | rfl | (simp [errW_none, errW_some] <;> rfl) | (simp [*, errW_none, errW_some] <;> rfl), by repeat (first | (with_reducible first | exact HB.out | apply below_alloc | apply pw_below_drewN | apply below_drew1) | exact HB.out)⟩
 ·
  replace c5 := Bool.eq_false_iff.mpr c5
  subst c5
  have H1 : (some false) = some r := by rw [if_neg (show ¬ (false = true) by decide)] at H; exact H
  clear H
  have H := H1
  clear H1
  obtain rfl := Option.some.inj H
  go_enter Tryd.func39, Tryd.ntmps39
  go_wp2_with (first | ((with_reducible refine gate_callee (f := 42) rfl ?_); refine goesL_ (some 11) rfl rfl Tryd.func42 (by kernel_rfl) rfl #[.int .i64 (a0.size : Int), .int .i64 a1, .int .i64 a2] rfl (by (try simp only [List.map_toArray, List.map_cons, List.map_nil]); first | done | rfl | (simp only [List.length_drop, List.length_take]; rfl)) ?_; (with_reducible refine (impl_in.calls (a0.size : Int) a1 a2 false _ A4.out).mono ?_); rintro e w' ⟨rfl, ⟨nd, rfl⟩⟩; refine ⟨_, rfl, ?_⟩))
  go_ret
  exact ⟨by first | rfl | (simp [errW_none, errW_some] <;> rfl) | (simp [*, errW_none, errW_some] <;> rfl), by repeat (first | (with_reducible first | exact HB.out | apply below_alloc | apply pw_below_drewN | apply below_drew1) | exact HB.out)⟩

end Go.Proofs.YtjjmbinhagaifaaDoor.P

namespace Go.Proofs.YtjjmbinhagaifaaDoor
open Go.RowKit Go.Proofs.YtjjmbinhagaifaaDoor.P Go.Proofs.YtjjmbinhagaifaaDoorW.PrintWords
set_option linter.unusedSimpArgs false
set_option linter.unusedVariables false
theorem in_eq (n a b : Int) : impl_in.f n a b = some (decide (a ≤ n) && decide (n ≤ b)) := by
  unfold impl_in.f
  by_cases h : a ≤ n
  · rw [if_pos h]; simp [h]
  · rw [if_neg h]; simp [h]
theorem l1In_eq (n a b : Int) : spec_l1In.f n a b = some (decide (a ≤ n) && decide (n ≤ b)) := by
  unfold spec_l1In.f
  by_cases h : a ≤ n
  · rw [if_pos h]; simp [h]
  · rw [if_neg h]; simp [h]
end Go.Proofs.YtjjmbinhagaifaaDoor

namespace Go.Proofs.YtjjmbinhagaifaaDoor
open Go.RowKit Go.Proofs.YtjjmbinhagaifaaDoor.P Go.Proofs.YtjjmbinhagaifaaDoorW.PrintWords
set_option linter.unusedSimpArgs false
set_option linter.unusedVariables false
theorem over_eq (s cs : ByteArray) (h1 : s.size ≤ 9223372036854775807) (h2 : cs.size < 4294967281) (h3 : (bl cs).all (fun b => decide (b.toNat < 128)) = true) : impl_over.f s cs = some ((bl s).all ((bl cs).contains ·)) := by
  unfold impl_over.f strings_Trim.f
  rw [if_pos ⟨h1, h2, h3⟩]
  simp only [Option.bind_some]
  congr 1
  rw [bl_toList, bl_mk, List.toList_toArray]
  have := trimS_nil (bl s) (bl cs)
  unfold bl at this ⊢
  rw [Bool.eq_iff_iff, beq_iff_eq]
  exact this
/-- Is it a digit's sign? -/
def isDig (c : UInt8) : Bool := decide (48 ≤ c.toNat) && decide (c.toNat ≤ 57)
theorem overDig_eq (s : ByteArray) (h1 : s.size ≤ 9223372036854775807) : impl_over.f s (⟨#[48, 49, 50, 51, 52, 53, 54, 55, 56, 57]⟩ : ByteArray) = some ((bl s).all isDig) := by
  rw [over_eq s _ h1 (by decide) (by decide)]
  congr 1
  congr 1
  funext c
  exact dig_contains c
/-- Digits, of a length. -/
def digsB (l : List UInt8) (a b : Nat) : Bool := decide (a ≤ l.length) && decide (l.length ≤ b) && l.all isDig
theorem isDigits_eq (s : ByteArray) (a b : Nat) (h1 : s.size ≤ 9223372036854775807) : impl_isDigits.f s a b = some (digsB (bl s) a b) := by
  unfold impl_isDigits.f digsB
  rw [in_eq]
  have e : (decide ((a : Int) ≤ (s.size : Int)) && decide ((s.size : Int) ≤ (b : Int))) = (decide (a ≤ (bl s).length) && decide ((bl s).length ≤ b)) := by
    rw [bl_len]; congr 1 <;> (rw [decide_eq_decide]; omega)
  rw [e]
  simp only [Option.bind_some]
  cases (decide (a ≤ (bl s).length) && decide ((bl s).length ≤ b)) with
  | false => rfl
  | true => rw [if_pos rfl, overDig_eq s h1]; rfl
theorem isDig_at {l : List UInt8} (h : l.all isDig = true) (i : Nat) (hi : i < l.length) : 48 ≤ l[i].toNat ∧ l[i].toNat ≤ 57 := by
  have := List.all_eq_true.1 h _ (List.getElem_mem hi)
  unfold isDig at this
  simpa only [Bool.and_eq_true, decide_eq_true_eq] using this
end Go.Proofs.YtjjmbinhagaifaaDoor

-- printed by xprint.py
namespace Go.Proofs.YtjjmbinhagaifaaDoor.P
open Go.RowKit Go.Proofs.YtjjmbinhagaifaaDoorW.PrintWords Go.Proofs.YtjjmbinhagaifaaDoorW.PrintLast Go.Proofs.YtjjmbinhagaifaaDoorW.PrintMore
attribute [local go_sem] max2_int min2_int max_two min_two max_three min_three max_four min_four   -- for this text's walks alone
set_option linter.unusedVariables false
set_option linter.unusedSimpArgs false

/-! ### impl_isDrawn: function 32 -/
def impl_isDrawn.l0 : Nat → ByteArray → Int → Int → Option (Bool)
 | 0, _, _, _ => none
 | k + 1, x0, x5, x6 => if x6 < x5 then (if 0 ≤ x6 then (if x6 ≤ (x0.size : Int) then (if x6 < (x0.size : Int) then ((impl_canFollow.f k (x0.extract 0 (x6 : Int).toNat) (bt x0 x6)).bind fun t101 => (if t101 = true then (impl_isDrawn.l0 k x0 x5 (wrap64 (x6 + 1))) else (some false))) else (none)) else (none)) else (none)) else (some true)
def impl_isDrawn.f (k : Nat) (a0 : ByteArray) : Option (Bool) := impl_isDrawn.l0 k a0 (a0.size : Int) 0
theorem impl_isDrawn.mono_l : ∀ k, (∀ y0 y1 y2, LeO (impl_isDrawn.l0 k y0 y1 y2) (impl_isDrawn.l0 (k + 1) y0 y1 y2))
 | 0 => by intros; intro r h; simp [impl_isDrawn.l0] at h
 | k + 1 => by
  have ih0 := impl_isDrawn.mono_l k
  ·
   intro y0 y1 y2
   unfold impl_isDrawn.l0
   repeat' first
   | (with_reducible exact ih0 _ _ _)
   | (with_reducible exact impl_canFollow.mono _ _ _)
   | (with_reducible exact LeO.refl _)
   | (with_reducible exact LeO.none _)
   | (with_reducible refine LeO.ite ?_ ?_)
   | (with_reducible refine LeO.bind ?_ (fun _ => ?_))
   | exact ih0 _ _ _
   | exact impl_canFollow.mono _ _ _
   | exact LeO.none _
   | refine LeO.ite ?_ ?_
   | refine LeO.bind ?_ (fun _ => ?_)
theorem impl_isDrawn.mono : ∀ y0 k, LeO (impl_isDrawn.f k y0) (impl_isDrawn.f (k + 1) y0) := by
 intro y0 k
 have ih0 := impl_isDrawn.mono_l k
 unfold impl_isDrawn.f
 repeat' first
   | (with_reducible exact ih0 _ _ _)
   | (with_reducible exact impl_canFollow.mono _ _ _)
   | (with_reducible exact LeO.refl _)
   | (with_reducible exact LeO.none _)
   | (with_reducible refine LeO.ite ?_ ?_)
   | (with_reducible refine LeO.bind ?_ (fun _ => ?_))
   | exact ih0 _ _ _
   | exact impl_canFollow.mono _ _ _
   | exact LeO.none _
   | refine LeO.ite ?_ ?_
   | refine LeO.bind ?_ (fun _ => ?_)
def impl_isDrawn.T4 : Bool × List (List Nat × List Nat) := (true, [([], []), ([], []), ([0, 1], [0, 1]), ([], []), ([], []), ([3, 4], [3, 4]), ([2, 5], [2, 5]), ([6], [6])])
def impl_isDrawn.B4 : List Nat := [0, 0, 3, 0, 0, 24, 63, 127]
theorem impl_isDrawn.tab4 : rtab .any (opsOf Tryd.f32 4) = impl_isDrawn.T4 := by kernel_rfl
theorem impl_isDrawn.bits4 : waitsOk impl_isDrawn.T4.2 impl_isDrawn.B4 = true := by kernel_rfl
set_option maxHeartbeats 8000000 in
set_option maxRecDepth 100000 in
theorem impl_isDrawn.calls (k : Nat) (a0 : ByteArray) (r : Bool) (w : World) (h : impl_isDrawn.f k a0 = some r) :
  Calls Tryd.prog 32 #[.string a0] w fun e w' => e = .returned (.bool r) ∧ Below w.heap.size w w' := by
 have HB := Aside0.mk (Below.refl w.heap.size w)
 have H : (impl_isDrawn.l0 k a0 (a0.size : Int) 0) = some r := h
 clear h
 have H' := Aside0.mk H
 clear H
 go_enter Tryd.func32, Tryd.ntmps32
 go_wp2
 go_loopg [6] k (fun kq v6 w' => ∃ (x6_1 : Int), v6 = .int .i64 x6_1 ∧ Aside0 (impl_isDrawn.l0 kq a0 (a0.size : Int) x6_1 = some r) ∧ Aside0 (kq ≤ k) ∧ Aside0 (Below w.heap.size w w'))
 case atStart => exact ⟨(0), (by first | rfl | (simp; done) | (simp [*]; done)), H', ⟨Nat.le_refl _⟩, ⟨by repeat (first | (with_reducible first | exact HB.out | apply below_alloc | apply pw_below_drewN | apply below_drew1) | exact HB.out)⟩⟩
 case round =>
  clear H'
  obtain ⟨x6_1, rfl, HA, HK1, HB⟩ := hrel
  cases gk with
  | zero => exact absurd HA.out (by simp [impl_isDrawn.l0])
  | succ k1 =>
   have H := HA.out
   clear HA
   simp only [impl_isDrawn.l0] at H
   by_cases c2 : x6_1 < (a0.size : Int)
   ·
    rw [if_pos c2] at H
    have c2b0 : decide (x6_1 < (a0.size : Int)) = true := decide_eq_true c2
    clear c2
    by_cases c3 : 0 ≤ x6_1
    ·
     rw [if_pos c3] at H
     have c3b0 := eq_true c3
     have c3b1 : decide (0 ≤ x6_1) = true := decide_eq_true c3
     clear c3
     by_cases c4 : x6_1 ≤ (a0.size : Int)
     ·
      rw [if_pos c4] at H
      have c4b0 := eq_true c4
      have c4b1 : decide (x6_1 ≤ (a0.size : Int)) = true := decide_eq_true c4
      clear c4
      by_cases c5 : x6_1 < (a0.size : Int)
      ·
       rw [if_pos c5] at H
       have c5b0 : decide (x6_1 < (a0.size : Int)) = true := decide_eq_true c5
       clear c5
       replace H := Option.bind_eq_some_iff.mp H
       obtain ⟨t101, A70, H⟩ := H
       replace H : (if t101 = true then (impl_isDrawn.l0 k1 a0 (a0.size : Int) (wrap64 (x6_1 + 1))) else (some false)) = some r := H
       have A7 := Aside0.mk A70
       clear A70
       by_cases c8 : t101 = true
       ·
        subst c8
        have H1 : (impl_isDrawn.l0 k1 a0 (a0.size : Int) (wrap64 (x6_1 + 1))) = some r := by rw [if_pos rfl] at H; exact H
        clear H
        have H := H1
        clear H1
        have H' := Aside0.mk H
        clear H
        try go_wp2
        have n0_ := Aside0.mk (below_drew1 HB.out)
        clear HB
        have HB := n0_
        clear n0_
        have p6 : 0 ≤ (x6_1 : Int) := of_decide_eq_true (by first | (with_reducible assumption) | assumption)
        have q6 : x6_1 < (a0.size : Int) := of_decide_eq_true (by first | (with_reducible assumption) | assumption)
        have hx6 := bt_at a0 x6_1
        replace p6 := eq_true p6
        replace q6 := eq_true q6
        refine start_ (n := 8) (S := fun w' => True) (ds := []) #[false, false, false, false, false, false, false, false] (by kernel_rfl) rfl rfl trivial (fun hHeld => ?_); refine with_tabW impl_isDrawn.tab4 impl_isDrawn.bits4 (fun HT_ HW_ => ?_)
        generalize wr.drew = w9 at HB hHeld ⊢
        refine pure_ (i := 0) (N := some 9) (v := ?_) (a' := ?_) #[true, false, false, false, false, false, false, false] rfl rfl (any_of HT_.out (by kernel_rfl)) (fun _ _ _ h => h) (Or.inl ⟨by rfl, ?_⟩) ?_ ?_
        rotate_left
        ·
         intro w'
         go_simp
         with_reducible rfl
        rotate_left
        ·
         simp only [Act.put, List.setIfInBounds_toArray, List.set_cons_zero, List.set_cons_succ, i64_w, i32_w]
         rfl
        refine pure_ (i := 1) (N := some 10) (v := ?_) (a' := ?_) #[true, true, false, false, false, false, false, false] rfl rfl (any_of HT_.out (by kernel_rfl)) (fun _ _ _ h => h) (Or.inl ⟨by rfl, ?_⟩) ?_ ?_
        rotate_left
        ·
         intro w'
         go_simp
         with_reducible rfl
        rotate_left
        ·
         simp only [Act.put, List.setIfInBounds_toArray, List.set_cons_zero, List.set_cons_succ, i64_w, i32_w]
         rfl
        refine pure_ (i := 2) (N := some 11) (v := ?_) (a' := ?_) #[true, true, true, false, false, false, false, false] rfl rfl (any_of HT_.out (by kernel_rfl)) (fun _ _ _ h => h) (Or.inl ⟨by rfl, ?_⟩) ?_ ?_
        rotate_left
        ·
         intro w'
         go_simp
         with_reducible rfl
        rotate_left
        ·
         simp only [Act.put, List.setIfInBounds_toArray, List.set_cons_zero, List.set_cons_succ, i64_w, i32_w]
         rfl
        refine pure_ (i := 3) (N := some 12) (v := ?_) (a' := ?_) #[true, true, true, true, false, false, false, false] rfl rfl (any_of HT_.out (by kernel_rfl)) (fun _ _ _ h => h) (Or.inl ⟨by rfl, ?_⟩) ?_ ?_
        rotate_left
        ·
         intro w'
         go_simp
         with_reducible rfl
        rotate_left
        ·
         simp only [Act.put, List.setIfInBounds_toArray, List.set_cons_zero, List.set_cons_succ, i64_w, i32_w]
         rfl
        refine pure_ (i := 4) (N := some 13) (v := ?_) (a' := ?_) #[true, true, true, true, true, false, false, false] rfl rfl (any_of HT_.out (by kernel_rfl)) (fun _ _ _ h => h) (Or.inl ⟨by rfl, ?_⟩) ?_ ?_
        rotate_left
        ·
         intro w'
         go_simp
         with_reducible rfl
        rotate_left
        ·
         simp only [Act.put, List.setIfInBounds_toArray, List.set_cons_zero, List.set_cons_succ, i64_w, i32_w]
         rfl
        refine take_ (i := 5) (N := some 14) (v := ?_) (a' := ?_) #[true, true, true, true, true, true, false, false] rfl rfl (take_ofW HT_.out HW_.out (by kernel_rfl)) (fun _ _ _ h => h) (Or.inl ⟨by rfl, ?_⟩) hHeld ?_ ?_
        rotate_left
        ·
         intro w' _
         go_simp
         with_reducible rfl
        rotate_left
        ·
         simp only [Act.put, List.setIfInBounds_toArray, List.set_cons_zero, List.set_cons_succ, i64_w, i32_w]
         rfl
        refine one_ (i := 6) (N := some 15) #[true, true, true, true, true, true, true, false] rfl rfl (one_of HT_.out (by kernel_rfl)) (by decide) (fun K hK => ?_)
        refine goes_ Tryd.func46 (by kernel_rfl) rfl #[.string (a0.extract 0 (x6_1 : Int).toNat), .int .u8 (bt a0 x6_1)] (by rfl) rfl rfl (by (try simp only [List.map_toArray, List.map_cons, List.map_nil]); first | done | rfl | (simp only [List.length_drop, List.length_take]; rfl)) ?_
        with_reducible refine (impl_canFollow.calls k1 (a0.extract 0 (x6_1 : Int).toNat) (bt a0 x6_1) true _ A7.out).mono ?_
        rintro e w10 ⟨rfl, hb⟩
        refine ⟨_, rfl, ?_⟩
        have n0_ := Aside0.mk (below_step (by repeat (first | (with_reducible first | exact HB.out | apply below_alloc | apply pw_below_drewN | apply below_drew1) | exact HB.out)) hb)
        clear HB
        have HB := n0_
        clear n0_
        (try clear hb)
        (try clear hb2)
        (try clear hk)
        (try clear hi)
        refine hK.out _ _ trivial (fun hHeld => ?_)
        clear hK K
        refine norm_ (a' := ?_) ?_ ?_
        rotate_left
        ·
         show Act.put _ (some 15) _ = _
         simp only [Act.put, List.setIfInBounds_toArray, List.set_cons_zero, List.set_cons_succ, i64_w, i32_w]
         rfl
        refine pure_ (i := 7) (N := some 16) (v := ?_) (a' := ?_) #[true, true, true, true, true, true, true, true] rfl rfl (any_of HT_.out (by kernel_rfl)) (fun _ _ _ h => h) (Or.inl ⟨by rfl, ?_⟩) ?_ ?_
        rotate_left
        ·
         intro w'
         go_simp
         with_reducible rfl
        rotate_left
        ·
         simp only [Act.put, List.setIfInBounds_toArray, List.set_cons_zero, List.set_cons_succ, i64_w, i32_w]
         rfl
        refine done_ (done_of HT_.out (by kernel_rfl)) ?_
        try go_wp2
        go_roundg k1
        case measure => have := HK1.out; omega
        case rel => exact ⟨(wrap64 (x6_1 + 1)), (by first | rfl | (simp; done) | (simp [*]; done)), H', ⟨by have := HK1.out; omega⟩, ⟨by repeat (first | (with_reducible first | exact HB.out | apply below_alloc | apply pw_below_drewN | apply below_drew1) | exact HB.out)⟩⟩
       ·
        replace c8 := Bool.eq_false_iff.mpr c8
        subst c8
        have H1 : (some false) = some r := by rw [if_neg (show ¬ (false = true) by decide)] at H; exact H
        clear H
        have H := H1
        clear H1
        obtain rfl := Option.some.inj H
        try go_wp2
        have n0_ := Aside0.mk (below_drew1 HB.out)
        clear HB
        have HB := n0_
        clear n0_
        have p6 : 0 ≤ (x6_1 : Int) := of_decide_eq_true (by first | (with_reducible assumption) | assumption)
        have q6 : x6_1 < (a0.size : Int) := of_decide_eq_true (by first | (with_reducible assumption) | assumption)
        have hx6 := bt_at a0 x6_1
        replace p6 := eq_true p6
        replace q6 := eq_true q6
        refine start_ (n := 8) (S := fun w' => True) (ds := []) #[false, false, false, false, false, false, false, false] (by kernel_rfl) rfl rfl trivial (fun hHeld => ?_); refine with_tabW impl_isDrawn.tab4 impl_isDrawn.bits4 (fun HT_ HW_ => ?_)
        generalize wr.drew = w11 at HB hHeld ⊢
        refine pure_ (i := 0) (N := some 9) (v := ?_) (a' := ?_) #[true, false, false, false, false, false, false, false] rfl rfl (any_of HT_.out (by kernel_rfl)) (fun _ _ _ h => h) (Or.inl ⟨by rfl, ?_⟩) ?_ ?_
        rotate_left
        ·
         intro w'
         go_simp
         with_reducible rfl
        rotate_left
        ·
         simp only [Act.put, List.setIfInBounds_toArray, List.set_cons_zero, List.set_cons_succ, i64_w, i32_w]
         rfl
        refine pure_ (i := 1) (N := some 10) (v := ?_) (a' := ?_) #[true, true, false, false, false, false, false, false] rfl rfl (any_of HT_.out (by kernel_rfl)) (fun _ _ _ h => h) (Or.inl ⟨by rfl, ?_⟩) ?_ ?_
        rotate_left
        ·
         intro w'
         go_simp
         with_reducible rfl
        rotate_left
        ·
         simp only [Act.put, List.setIfInBounds_toArray, List.set_cons_zero, List.set_cons_succ, i64_w, i32_w]
         rfl
        refine pure_ (i := 2) (N := some 11) (v := ?_) (a' := ?_) #[true, true, true, false, false, false, false, false] rfl rfl (any_of HT_.out (by kernel_rfl)) (fun _ _ _ h => h) (Or.inl ⟨by rfl, ?_⟩) ?_ ?_
        rotate_left
        ·
         intro w'
         go_simp
         with_reducible rfl
        rotate_left
        ·
         simp only [Act.put, List.setIfInBounds_toArray, List.set_cons_zero, List.set_cons_succ, i64_w, i32_w]
         rfl
        refine pure_ (i := 3) (N := some 12) (v := ?_) (a' := ?_) #[true, true, true, true, false, false, false, false] rfl rfl (any_of HT_.out (by kernel_rfl)) (fun _ _ _ h => h) (Or.inl ⟨by rfl, ?_⟩) ?_ ?_
        rotate_left
        ·
         intro w'
         go_simp
         with_reducible rfl
        rotate_left
        ·
         simp only [Act.put, List.setIfInBounds_toArray, List.set_cons_zero, List.set_cons_succ, i64_w, i32_w]
         rfl
        refine pure_ (i := 4) (N := some 13) (v := ?_) (a' := ?_) #[true, true, true, true, true, false, false, false] rfl rfl (any_of HT_.out (by kernel_rfl)) (fun _ _ _ h => h) (Or.inl ⟨by rfl, ?_⟩) ?_ ?_
        rotate_left
        ·
         intro w'
         go_simp
         with_reducible rfl
        rotate_left
        ·
         simp only [Act.put, List.setIfInBounds_toArray, List.set_cons_zero, List.set_cons_succ, i64_w, i32_w]
         rfl
        refine take_ (i := 5) (N := some 14) (v := ?_) (a' := ?_) #[true, true, true, true, true, true, false, false] rfl rfl (take_ofW HT_.out HW_.out (by kernel_rfl)) (fun _ _ _ h => h) (Or.inl ⟨by rfl, ?_⟩) hHeld ?_ ?_
        rotate_left
        ·
         intro w' _
         go_simp
         with_reducible rfl
        rotate_left
        ·
         simp only [Act.put, List.setIfInBounds_toArray, List.set_cons_zero, List.set_cons_succ, i64_w, i32_w]
         rfl
        refine one_ (i := 6) (N := some 15) #[true, true, true, true, true, true, true, false] rfl rfl (one_of HT_.out (by kernel_rfl)) (by decide) (fun K hK => ?_)
        refine goes_ Tryd.func46 (by kernel_rfl) rfl #[.string (a0.extract 0 (x6_1 : Int).toNat), .int .u8 (bt a0 x6_1)] (by rfl) rfl rfl (by (try simp only [List.map_toArray, List.map_cons, List.map_nil]); first | done | rfl | (simp only [List.length_drop, List.length_take]; rfl)) ?_
        with_reducible refine (impl_canFollow.calls k1 (a0.extract 0 (x6_1 : Int).toNat) (bt a0 x6_1) false _ A7.out).mono ?_
        rintro e w12 ⟨rfl, hb⟩
        refine ⟨_, rfl, ?_⟩
        have n0_ := Aside0.mk (below_step (by repeat (first | (with_reducible first | exact HB.out | apply below_alloc | apply pw_below_drewN | apply below_drew1) | exact HB.out)) hb)
        clear HB
        have HB := n0_
        clear n0_
        (try clear hb)
        (try clear hb2)
        (try clear hk)
        (try clear hi)
        refine hK.out _ _ trivial (fun hHeld => ?_)
        clear hK K
        refine norm_ (a' := ?_) ?_ ?_
        rotate_left
        ·
         show Act.put _ (some 15) _ = _
         simp only [Act.put, List.setIfInBounds_toArray, List.set_cons_zero, List.set_cons_succ, i64_w, i32_w]
         rfl
        refine pure_ (i := 7) (N := some 16) (v := ?_) (a' := ?_) #[true, true, true, true, true, true, true, true] rfl rfl (any_of HT_.out (by kernel_rfl)) (fun _ _ _ h => h) (Or.inl ⟨by rfl, ?_⟩) ?_ ?_
        rotate_left
        ·
         intro w'
         go_simp
         with_reducible rfl
        rotate_left
        ·
         simp only [Act.put, List.setIfInBounds_toArray, List.set_cons_zero, List.set_cons_succ, i64_w, i32_w]
         rfl
        refine done_ (done_of HT_.out (by kernel_rfl)) ?_
        try go_wp2
        go_ret
        exact ⟨by first | rfl | (simp [errW_none, errW_some] <;> rfl) | (simp [*, errW_none, errW_some] <;> rfl), by repeat (first | (with_reducible first | exact HB.out | apply below_alloc | apply pw_below_drewN | apply below_drew1) | exact HB.out)⟩
      ·
       rw [if_neg c5] at H
       exact absurd H (by simp)
     ·
      rw [if_neg c4] at H
      exact absurd H (by simp)
    ·
     rw [if_neg c3] at H
     exact absurd H (by simp)
   ·
    rw [if_neg c2] at H
    have c2b0 : decide (x6_1 < (a0.size : Int)) = false := decide_eq_false c2
    clear c2
    obtain rfl := Option.some.inj H
    go_wp2
    go_ret
    exact ⟨by first | rfl | (simp [errW_none, errW_some] <;> rfl) | (simp [*, errW_none, errW_some] <;> rfl), by repeat (first | (with_reducible first | exact HB.out | apply below_alloc | apply pw_below_drewN | apply below_drew1) | exact HB.out)⟩

end Go.Proofs.YtjjmbinhagaifaaDoor.P

-- printed by xprint.py
namespace Go.Proofs.YtjjmbinhagaifaaDoor.P
open Go.RowKit Go.Proofs.YtjjmbinhagaifaaDoorW.PrintWords Go.Proofs.YtjjmbinhagaifaaDoorW.PrintLast Go.Proofs.YtjjmbinhagaifaaDoorW.PrintMore
attribute [local go_sem] max2_int min2_int max_two min_two max_three min_three max_four min_four   -- for this text's walks alone
set_option linter.unusedVariables false
set_option linter.unusedSimpArgs false

/-! ### spec_piDrawn: function 30 -/
def spec_piDrawn.l0 : Nat → ByteArray → Int → Option (Bool)
 | 0, _, _ => none
 | k + 1, x0, x3 => if x3 < (x0.size : Int) then (if 0 ≤ x3 then (if x3 ≤ (x0.size : Int) then ((spec_piGoes.f k (x0.extract 0 (x3 : Int).toNat) (bt x0 x3)).bind fun t101 => (if t101 = true then (spec_piDrawn.l0 k x0 (wrap64 (x3 + 1))) else (some false))) else (none)) else (none)) else (some true)
def spec_piDrawn.f (k : Nat) (a0 : ByteArray) : Option (Bool) := spec_piDrawn.l0 k a0 1
theorem spec_piDrawn.mono_l : ∀ k, (∀ y0 y1, LeO (spec_piDrawn.l0 k y0 y1) (spec_piDrawn.l0 (k + 1) y0 y1))
 | 0 => by intros; intro r h; simp [spec_piDrawn.l0] at h
 | k + 1 => by
  have ih0 := spec_piDrawn.mono_l k
  ·
   intro y0 y1
   unfold spec_piDrawn.l0
   repeat' first
   | (with_reducible exact ih0 _ _)
   | (with_reducible exact spec_piGoes.mono _ _ _)
   | (with_reducible exact LeO.refl _)
   | (with_reducible exact LeO.none _)
   | (with_reducible refine LeO.ite ?_ ?_)
   | (with_reducible refine LeO.bind ?_ (fun _ => ?_))
   | exact ih0 _ _
   | exact spec_piGoes.mono _ _ _
   | exact LeO.none _
   | refine LeO.ite ?_ ?_
   | refine LeO.bind ?_ (fun _ => ?_)
theorem spec_piDrawn.mono : ∀ y0 k, LeO (spec_piDrawn.f k y0) (spec_piDrawn.f (k + 1) y0) := by
 intro y0 k
 have ih0 := spec_piDrawn.mono_l k
 unfold spec_piDrawn.f
 repeat' first
   | (with_reducible exact ih0 _ _)
   | (with_reducible exact spec_piGoes.mono _ _ _)
   | (with_reducible exact LeO.refl _)
   | (with_reducible exact LeO.none _)
   | (with_reducible refine LeO.ite ?_ ?_)
   | (with_reducible refine LeO.bind ?_ (fun _ => ?_))
   | exact ih0 _ _
   | exact spec_piGoes.mono _ _ _
   | exact LeO.none _
   | refine LeO.ite ?_ ?_
   | refine LeO.bind ?_ (fun _ => ?_)
set_option maxHeartbeats 8000000 in
set_option maxRecDepth 100000 in
theorem spec_piDrawn.calls (k : Nat) (a0 : ByteArray) (r : Bool) (w : World) (h : spec_piDrawn.f k a0 = some r) :
  Calls Tryd.prog 30 #[.string a0] w fun e w' => e = .returned (.bool r) ∧ Drawn0 w w' := by
 have H : (spec_piDrawn.l0 k a0 1) = some r := h
 clear h
 have H' := Aside0.mk H
 clear H
 go_enter Tryd.func30, Tryd.ntmps30
 go_wp2
 repeat (go_quiet (fail); try go_wp2)
 go_loopg [3] k (fun kq v3 w' => ∃ (x3_1 : Int), v3 = .int .i64 x3_1 ∧ Aside0 (spec_piDrawn.l0 kq a0 x3_1 = some r) ∧ Aside0 (kq ≤ k) ∧ Drawn0 w w')
 case atStart => exact ⟨(1), (by first | rfl | (simp; done) | (simp [*]; done)), H', ⟨Nat.le_refl _⟩, by repeat (first | exact Drawn0.refl _ | apply Drawn0.step)⟩
 case round =>
  clear H'
  obtain ⟨x3_1, rfl, HA, HK1, ⟨m1, rfl⟩⟩ := hrel
  cases gk with
  | zero => exact absurd HA.out (by simp [spec_piDrawn.l0])
  | succ k1 =>
   have H := HA.out
   clear HA
   simp only [spec_piDrawn.l0] at H
   by_cases c2 : x3_1 < (a0.size : Int)
   ·
    rw [if_pos c2] at H
    have c2b0 : decide (x3_1 < (a0.size : Int)) = true := decide_eq_true c2
    clear c2
    by_cases c3 : 0 ≤ x3_1
    ·
     rw [if_pos c3] at H
     have c3b0 := eq_true c3
     have c3b1 : decide (0 ≤ x3_1) = true := decide_eq_true c3
     clear c3
     by_cases c4 : x3_1 ≤ (a0.size : Int)
     ·
      rw [if_pos c4] at H
      have c4b0 := eq_true c4
      have c4b1 : decide (x3_1 ≤ (a0.size : Int)) = true := decide_eq_true c4
      clear c4
      replace H := Option.bind_eq_some_iff.mp H
      obtain ⟨t101, A60, H⟩ := H
      replace H : (if t101 = true then (spec_piDrawn.l0 k1 a0 (wrap64 (x3_1 + 1))) else (some false)) = some r := H
      have A6 := Aside0.mk A60
      clear A60
      by_cases c7 : t101 = true
      ·
       subst c7
       have H1 : (spec_piDrawn.l0 k1 a0 (wrap64 (x3_1 + 1))) = some r := by rw [if_pos rfl] at H; exact H
       clear H
       have H := H1
       clear H1
       have H' := Aside0.mk H
       clear H
       have p5 : 0 ≤ (x3_1 : Int) := of_decide_eq_true (by first | (with_reducible assumption) | assumption)
       have q5 : x3_1 < (a0.size : Int) := of_decide_eq_true (by first | (with_reducible assumption) | assumption)
       have hx5 := bt_at a0 x3_1
       replace p5 := eq_true p5
       replace q5 := eq_true q5
       go_wp2_with (first | (go_at_call 33; (with_reducible refine (spec_piGoes.calls k1 (a0.extract 0 (x3_1 : Int).toNat) (bt a0 x3_1) true _ A6.out).mono ?_); rintro e w' ⟨rfl, ⟨nd, rfl⟩⟩; (try first | exact ⟨rfl, _, World.drewN_drewN _ _ _⟩ | exact ⟨rfl, _, Eq.trans (World.drewN_drewN _ _ _) (congrArg (World.drewN _) (Nat.add_assoc _ _ _))⟩)))
       repeat (go_quiet (first | (go_at_call 33; (with_reducible refine (spec_piGoes.calls k1 (a0.extract 0 (x3_1 : Int).toNat) (bt a0 x3_1) true _ A6.out).mono ?_); rintro e w' ⟨rfl, ⟨nd, rfl⟩⟩; (try first | exact ⟨rfl, _, World.drewN_drewN _ _ _⟩ | exact ⟨rfl, _, Eq.trans (World.drewN_drewN _ _ _) (congrArg (World.drewN _) (Nat.add_assoc _ _ _))⟩))); try go_wp2_with (first | (go_at_call 33; (with_reducible refine (spec_piGoes.calls k1 (a0.extract 0 (x3_1 : Int).toNat) (bt a0 x3_1) true _ A6.out).mono ?_); rintro e w' ⟨rfl, ⟨nd, rfl⟩⟩; (try first | exact ⟨rfl, _, World.drewN_drewN _ _ _⟩ | exact ⟨rfl, _, Eq.trans (World.drewN_drewN _ _ _) (congrArg (World.drewN _) (Nat.add_assoc _ _ _))⟩))))
       go_roundg k1
       case measure => have := HK1.out; omega
       case rel => exact ⟨(wrap64 (x3_1 + 1)), (by first | rfl | (simp; done) | (simp [*]; done)), H', ⟨by have := HK1.out; omega⟩, by repeat (first | exact Drawn0.refl _ | apply Drawn0.step)⟩
      ·
       replace c7 := Bool.eq_false_iff.mpr c7
       subst c7
       have H1 : (some false) = some r := by rw [if_neg (show ¬ (false = true) by decide)] at H; exact H
       clear H
       have H := H1
       clear H1
       obtain rfl := Option.some.inj H
       have p5 : 0 ≤ (x3_1 : Int) := of_decide_eq_true (by first | (with_reducible assumption) | assumption)
       have q5 : x3_1 < (a0.size : Int) := of_decide_eq_true (by first | (with_reducible assumption) | assumption)
       have hx5 := bt_at a0 x3_1
       replace p5 := eq_true p5
       replace q5 := eq_true q5
       go_wp2_with (first | (go_at_call 33; (with_reducible refine (spec_piGoes.calls k1 (a0.extract 0 (x3_1 : Int).toNat) (bt a0 x3_1) false _ A6.out).mono ?_); rintro e w' ⟨rfl, ⟨nd, rfl⟩⟩; (try first | exact ⟨rfl, _, World.drewN_drewN _ _ _⟩ | exact ⟨rfl, _, Eq.trans (World.drewN_drewN _ _ _) (congrArg (World.drewN _) (Nat.add_assoc _ _ _))⟩)))
       repeat (go_quiet (first | (go_at_call 33; (with_reducible refine (spec_piGoes.calls k1 (a0.extract 0 (x3_1 : Int).toNat) (bt a0 x3_1) false _ A6.out).mono ?_); rintro e w' ⟨rfl, ⟨nd, rfl⟩⟩; (try first | exact ⟨rfl, _, World.drewN_drewN _ _ _⟩ | exact ⟨rfl, _, Eq.trans (World.drewN_drewN _ _ _) (congrArg (World.drewN _) (Nat.add_assoc _ _ _))⟩))); try go_wp2_with (first | (go_at_call 33; (with_reducible refine (spec_piGoes.calls k1 (a0.extract 0 (x3_1 : Int).toNat) (bt a0 x3_1) false _ A6.out).mono ?_); rintro e w' ⟨rfl, ⟨nd, rfl⟩⟩; (try first | exact ⟨rfl, _, World.drewN_drewN _ _ _⟩ | exact ⟨rfl, _, Eq.trans (World.drewN_drewN _ _ _) (congrArg (World.drewN _) (Nat.add_assoc _ _ _))⟩))))
       go_ret
       exact ⟨by first | rfl | (simp; done) | (simp [*]; done), by repeat (first | exact Drawn0.refl _ | apply Drawn0.step)⟩
     ·
      rw [if_neg c4] at H
      exact absurd H (by simp)
    ·
     rw [if_neg c3] at H
     exact absurd H (by simp)
   ·
    rw [if_neg c2] at H
    have c2b0 : decide (x3_1 < (a0.size : Int)) = false := decide_eq_false c2
    clear c2
    obtain rfl := Option.some.inj H
    go_wp2
    repeat (go_quiet (fail); try go_wp2)
    go_ret
    exact ⟨by first | rfl | (simp; done) | (simp [*]; done), by repeat (first | exact Drawn0.refl _ | apply Drawn0.step)⟩

end Go.Proofs.YtjjmbinhagaifaaDoor.P

namespace Go.Proofs.YtjjmbinhagaifaaDoor
open Go.RowKit Go.Proofs.YtjjmbinhagaifaaDoor.P Go.Proofs.YtjjmbinhagaifaaDoorW.PrintWords
set_option linter.unusedSimpArgs false
set_option linter.unusedVariables false
/-! Patterns: what one is, and whether it can be drawn. -/
def isPt (c : UInt8) : Bool := decide (49 ≤ c.toNat) && decide (c.toNat ≤ 57)
theorem pt_contains (c : UInt8) : ([49, 50, 51, 52, 53, 54, 55, 56, 57] : List UInt8).contains c = isPt c := by
  refine u8_all (fun c => ([49, 50, 51, 52, 53, 54, 55, 56, 57] : List UInt8).contains c = isPt c) ?_ c
  decide +kernel
/-- Is it a pattern? -/
def patB (l : List UInt8) : Bool := (decide (1 ≤ l.length) && decide (l.length ≤ 9)) && (l.all isPt && decide l.Nodup)
theorem len_in9 (n : Nat) : (decide ((1 : Int) ≤ (n : Int)) && decide ((n : Int) ≤ 9)) = (decide (1 ≤ n) && decide (n ≤ 9)) := by
  congr 1 <;> (rw [decide_eq_decide]; omega)
theorem isPattern_ev (s : ByteArray) (hs : s.size ≤ 1048576) : Ev (fun k => impl_isPattern.f k s) (patB (bl s)) := by
  unfold impl_isPattern.f patB
  refine Ev.bindc (in_eq _ _ _) ?_
  rw [len_in9, ← bl_len]
  cases h : (decide (1 ≤ s.size) && decide (s.size ≤ 9)) with
  | false => exact Ev.no (Ev.now _)
  | true =>
    simp only [Bool.and_eq_true, decide_eq_true_eq] at h
    rw [Bool.true_and]
    have ho := over_eq s (⟨#[49, 50, 51, 52, 53, 54, 55, 56, 57]⟩ : ByteArray) (by omega) (by decide) (by decide)
    have hc : (fun c => (bl (⟨#[49, 50, 51, 52, 53, 54, 55, 56, 57]⟩ : ByteArray)).contains c) = isPt := by funext c; exact pt_contains c
    rw [show (fun x => (bl (⟨#[49, 50, 51, 52, 53, 54, 55, 56, 57]⟩ : ByteArray)).contains x) = isPt from hc] at ho
    refine Ev.pos rfl (Ev.bindc ho ?_)
    cases (bl s).all isPt with
    | false => exact Ev.no (Ev.now _)
    | true =>
      obtain ⟨r, h1, h2, _⟩ := letters_ev s (by omega)
      refine Ev.pos rfl (Ev.bind h1 (Ev.const ?_))
      congr 1
      rw [Bool.true_and, Bool.eq_iff_iff, decide_eq_true_iff, beq_iff_eq, ← h2]
      omega
/-- Has a text a sign, told as a number? -/
def hasI (l : List UInt8) (x : Int) : Bool := l.any fun b => ((b.toNat : Int) == x)
theorem hasI_mem (l : List UInt8) (c : UInt8) : hasI l (c.toNat : Int) = true ↔ c ∈ l := by
  unfold hasI
  rw [List.any_eq_true]
  constructor
  · rintro ⟨b, hb, h⟩
    have : b = c := UInt8.toNat_inj.1 (by have : (b.toNat : Int) = (c.toNat : Int) := by simpa using h
                                          omega)
    rwa [this] at hb
  · intro h
    exact ⟨c, h, by simp⟩
theorem piHas_l0 (s : ByteArray) (hs : s.size ≤ 1048576) (x : Int) : ∀ (d i : Nat), i + d = (bl s).length → Ev (fun k => spec_piHas.l0 k s x (i : Int)) (hasI ((bl s).drop i) x)
  | 0, i, hi => by
    have es : s.size = (bl s).length := rfl
    rw [List.drop_of_length_le (by omega)]
    apply Ev.succ; simp only [spec_piHas.l0]
    exact Ev.neg (by omega) (Ev.now _)
  | d + 1, i, hi => by
    have es : s.size = (bl s).length := rfl
    have hlt : i < (bl s).length := by omega
    have ih := piHas_l0 s hs x d (i + 1) (by omega)
    have e1 : wrap64 ((i : Int) + 1) = ((i + 1 : Nat) : Int) := by rw [wrap_id (by omega) (by omega)]; omega
    rw [List.drop_eq_getElem_cons hlt]
    unfold hasI at ih ⊢
    rw [List.any_cons]
    apply Ev.succ; simp only [spec_piHas.l0, e1]
    rw [bt_nat s i hlt]
    refine Ev.pos (by omega) (Ev.pos (by omega) ?_)
    by_cases c : ((bl s)[i].toNat : Int) = x
    · refine Ev.pos c (Ev.const ?_)
      rw [beq_iff_eq.2 c]; rfl
    · refine Ev.neg c ?_
      rw [beq_eq_false_iff_ne.2 c, Bool.false_or]
      exact ih
theorem piHas_ev (s : ByteArray) (hs : s.size ≤ 1048576) (x : Int) : Ev (fun k => spec_piHas.f k s x) (hasI (bl s) x) := by
  have := piHas_l0 s hs x (bl s).length 0 (by omega)
  rw [List.drop_zero] at this
  exact this
theorem bl_take (s : ByteArray) (i : Nat) : bl (s.extract 0 i) = (bl s).take i := by rw [bl_extract]; simp
theorem take_size (s : ByteArray) (i : Nat) (hs : s.size ≤ 1048576) : (s.extract 0 i).size ≤ 1048576 := by rw [ByteArray.size_extract]; omega
/-- Are the signs from a place on points, none of them ahead? -/
def chkP (l : List UInt8) : Nat → Nat → Bool
  | 0, _ => true
  | d + 1, i => (isPt (l.getD i 0) && !hasI (l.take i) ((l.getD i 0).toNat : Int)) && chkP l d (i + 1)
theorem getD_at (l : List UInt8) (i : Nat) (h : i < l.length) : l.getD i 0 = l[i] := by rw [List.getD_eq_getElem?_getD, List.getElem?_eq_getElem h]; rfl
theorem chkP_iff (l : List UInt8) : ∀ (d i : Nat), i + d = l.length → (l.take i).all isPt = true → (l.take i).Nodup → (chkP l d i = true ↔ l.all isPt = true ∧ l.Nodup)
  | 0, i, hi, ha, hn => by
    rw [List.take_of_length_le (by omega)] at ha hn
    unfold chkP
    exact ⟨fun _ => ⟨ha, hn⟩, fun _ => rfl⟩
  | d + 1, i, hi, ha, hn => by
    have hlt : i < l.length := by omega
    unfold chkP
    rw [getD_at l i hlt, Bool.and_eq_true, Bool.and_eq_true]
    have ht := List.take_succ_eq_append_getElem hlt
    constructor
    · rintro ⟨⟨h1, h2⟩, h3⟩
      have hnm : l[i] ∉ l.take i := fun hm => by rw [(hasI_mem _ _).2 hm] at h2; cases h2
      refine (chkP_iff l d (i + 1) (by omega) ?_ ?_).1 h3
      · rw [ht, List.all_append, ha]; simp [h1]
      · rw [ht]
        rw [List.nodup_append]
        refine ⟨hn, by simp, fun a ha b hb => ?_⟩
        rw [List.mem_singleton.1 hb]
        exact fun e => hnm (e ▸ ha)
    · rintro ⟨h1, h2⟩
      have hsub : (l.take (i + 1)).Nodup := h2.sublist (List.take_sublist _ _)
      have hnm : l[i] ∉ l.take i := by
        rw [ht, List.nodup_append] at hsub
        exact fun hm => hsub.2.2 _ hm _ (by simp) rfl
      refine ⟨⟨List.all_eq_true.1 h1 _ (List.getElem_mem hlt), ?_⟩, ?_⟩
      · cases hh : hasI (l.take i) (l[i].toNat : Int) with
        | false => rfl
        | true => exact absurd ((hasI_mem _ _).1 hh) hnm
      · refine (chkP_iff l d (i + 1) (by omega) ?_ hsub).2 ⟨h1, h2⟩
        rw [List.all_eq_true] at h1 ⊢
        exact fun x hx => h1 x (List.mem_of_mem_take hx)
theorem piPattern_l0 (s : ByteArray) (hs : s.size ≤ 1048576) : ∀ (d i : Nat), i + d = (bl s).length → Ev (fun k => spec_piPattern.l0 k s (i : Int)) (chkP (bl s) d i)
  | 0, i, hi => by
    have es : s.size = (bl s).length := rfl
    apply Ev.succ; simp only [spec_piPattern.l0]
    exact Ev.neg (by omega) (Ev.now _)
  | d + 1, i, hi => by
    have es : s.size = (bl s).length := rfl
    have hlt : i < (bl s).length := by omega
    have ih := piPattern_l0 s hs d (i + 1) (by omega)
    have e1 : wrap64 ((i : Int) + 1) = ((i + 1 : Nat) : Int) := by rw [wrap_id (by omega) (by omega)]; omega
    have hh := piHas_ev (s.extract 0 i) (take_size s i hs) ((bl s)[i].toNat : Int)
    rw [bl_take] at hh
    apply Ev.succ; simp only [spec_piPattern.l0, e1, Int.toNat_natCast]
    unfold chkP
    rw [bt_nat s i hlt, getD_at _ i hlt]
    refine Ev.pos (by omega) (Ev.pos (by omega) ?_)
    by_cases c1 : ((bl s)[i].toNat : Int) < 49
    · refine Ev.pos c1 (Ev.const ?_)
      have : isPt (bl s)[i] = false := by unfold isPt; rw [Bool.and_eq_false_iff]; left; rw [decide_eq_false_iff_not]; omega
      rw [this]; rfl
    · refine Ev.neg c1 ?_
      by_cases c2 : ((bl s)[i].toNat : Int) > 57
      · refine Ev.pos c2 (Ev.const ?_)
        have : isPt (bl s)[i] = false := by unfold isPt; rw [Bool.and_eq_false_iff]; right; rw [decide_eq_false_iff_not]; omega
        rw [this]; rfl
      · have : isPt (bl s)[i] = true := by unfold isPt; rw [Bool.and_eq_true, decide_eq_true_eq, decide_eq_true_eq]; omega
        rw [this, Bool.true_and]
        refine Ev.neg c2 (Ev.pos (by omega) (Ev.bind hh ?_))
        cases hasI ((bl s).take i) ((bl s)[i].toNat : Int) with
        | true => exact Ev.pos rfl (Ev.now _)
        | false => exact Ev.neg (by decide) ih
theorem piPattern_ev (s : ByteArray) (hs : s.size ≤ 1048576) : Ev (fun k => spec_piPattern.f k s) (patB (bl s)) := by
  unfold spec_piPattern.f patB
  refine Ev.bindc (l1In_eq _ _ _) ?_
  rw [len_in9, ← bl_len]
  cases h : (decide (1 ≤ s.size) && decide (s.size ≤ 9)) with
  | false => exact Ev.no (Ev.now _)
  | true =>
    rw [Bool.true_and]
    have hc := chkP_iff (bl s) (bl s).length 0 (by omega) rfl List.Pairwise.nil
    have : ((bl s).all isPt && decide (bl s).Nodup) = chkP (bl s) (bl s).length 0 := by
      rw [Bool.eq_iff_iff, hc, Bool.and_eq_true, decide_eq_true_iff]
    rw [this]
    exact Ev.pos rfl (piPattern_l0 s hs (bl s).length 0 (by omega))
theorem patB_spec {l : List UInt8} (h : patB l = true) : 1 ≤ l.length ∧ l.length ≤ 9 ∧ (∀ c ∈ l, 49 ≤ c.toNat ∧ c.toNat ≤ 57) ∧ l.Nodup := by
  unfold patB at h
  simp only [Bool.and_eq_true, decide_eq_true_eq, List.all_eq_true] at h
  refine ⟨h.1.1, h.1.2, fun c hc => ?_, h.2.2⟩
  have := h.2.1 c hc
  unfold isPt at this
  simpa using this
/-! Which point lies between. -/
/-- The reference's answer: a point, or 0. -/
def btw (a c : Int) : Int := (spec_piBetween.f a c).getD 0
def okMid (A C : Int) : Bool :=
  match impl_spotOf.f A, impl_spotOf.f C, spec_piBetween.f A C with
  | some p, some q, some b =>
    if Int.tmod (wrap64 (p.1 + q.1)) 2 = 0 ∧ Int.tmod (wrap64 (p.2 + q.2)) 2 = 0 then
      (match impl_digitAt.f 5 (wrap64 (Int.tdiv (wrap64 (p.1 + q.1)) 2)) (wrap64 (Int.tdiv (wrap64 (p.2 + q.2)) 2)) with
      | some t => decide (0 ≤ t) && decide (t < 10) && (bt (⟨#[48, 49, 50, 51, 52, 53, 54, 55, 56, 57]⟩ : ByteArray) t == b) && (decide (49 ≤ b) && decide (b ≤ 57))
      | none => false)
    else b == 0
  | _, _, _ => false
theorem okMid_all : ∀ a c : Fin 9, okMid (49 + (a.val : Int)) (49 + (c.val : Int)) = true := by decide +kernel
/-- May a text go on with a point, as far as what lies between goes? -/
def goB (l : List UInt8) (a c : Int) : Bool := (btw a c == 0) || hasI l (btw a c)
theorem idx_has (s : ByteArray) (b : Int) (h1 : 49 ≤ b) (h2 : b ≤ 57) : strings_IndexByte.f s b = some (Lib.indexByte (bl s) b.toNat.toUInt8) ∧ (Lib.indexByte (bl s) b.toNat.toUInt8 ≥ 0 ↔ hasI (bl s) b = true) := by
  refine ⟨rfl, ?_⟩
  have hb : ((b.toNat.toUInt8).toNat : Int) = b := by
    have : b.toNat < 256 := by omega
    simp; omega
  have := indexByte_neg (bl s) b.toNat.toUInt8
  have h3 := hasI_mem (bl s) b.toNat.toUInt8
  rw [hb] at h3
  rw [h3]
  constructor
  · intro h
    rcases Classical.em (b.toNat.toUInt8 ∈ bl s) with q | q
    · exact q
    · have := this.2 q; omega
  · intro h
    by_cases q : Lib.indexByte (bl s) b.toNat.toUInt8 < 0
    · exact absurd h (this.1 q)
    · omega
theorem canFollow_ev (s : ByteArray) (a c : Int) (hs : s.size ≤ 1048576) (hp : 0 < s.size) (ha : bt s ((s.size - 1 : Nat) : Int) = a) (a1 : 49 ≤ a) (a2 : a ≤ 57) (c1 : 49 ≤ c) (c2 : c ≤ 57) : Ev (fun k => impl_canFollow.f k s c) (goB (bl s) a c) := by
  have hk := okMid_all ⟨(a - 49).toNat, by omega⟩ ⟨(c - 49).toNat, by omega⟩
  simp only at hk
  rw [show (49 + ((a - 49).toNat : Int)) = a by omega, show (49 + ((c - 49).toNat : Int)) = c by omega] at hk
  unfold okMid at hk
  have e1 : wrap64 ((s.size : Int) - 1) = ((s.size - 1 : Nat) : Int) := by rw [wrap_id (by omega) (by omega)]; omega
  have hne : ¬ s.toList = [] := by
    rw [bl_toList]
    intro e
    have := congrArg List.length e
    rw [← bl_len] at this
    have h0 : s.size = 0 := this
    omega
  unfold impl_canFollow.f goB btw
  rw [e1, ha]
  refine Ev.neg hne (Ev.pos (by omega) (Ev.pos (by omega) ?_))
  cases hp1 : impl_spotOf.f a with
  | none => rw [hp1] at hk; cases hk
  | some p =>
    cases hq1 : impl_spotOf.f c with
    | none => rw [hp1, hq1] at hk; cases hk
    | some q =>
      cases hb1 : spec_piBetween.f a c with
      | none => rw [hp1, hq1, hb1] at hk; cases hk
      | some b =>
        rw [hp1, hq1, hb1] at hk
        simp only [Option.getD_some] at hk ⊢
        refine Ev.bindc rfl (Ev.bindc rfl ?_)
        by_cases e : Int.tmod (wrap64 (p.1 + q.1)) 2 = 0 ∧ Int.tmod (wrap64 (p.2 + q.2)) 2 = 0
        · rw [if_pos e] at hk
          refine Ev.pos e.1 ?_
          cases ht : impl_digitAt.f 5 (wrap64 (Int.tdiv (wrap64 (p.1 + q.1)) 2)) (wrap64 (Int.tdiv (wrap64 (p.2 + q.2)) 2)) with
          | none => rw [ht] at hk; cases hk
          | some t =>
            rw [ht] at hk
            simp only [Bool.and_eq_true, decide_eq_true_eq, beq_iff_eq] at hk
            obtain ⟨⟨⟨t1, t2⟩, t3⟩, t4, t5⟩ := hk
            obtain ⟨i1, i2⟩ := idx_has s b t4 t5
            rw [show (b == 0) = false from beq_eq_false_iff_ne.2 (by omega), Bool.false_or]
            rw [show (Int.tmod (wrap64 (p.2 + q.2)) 2 != 0) = false by rw [e.2]; rfl]
            apply Ev.succ; simp only [impl_canFollow.j0]
            refine Ev.neg (by decide) (Ev.bind (Ev.of (impl_digitAt.mono _ _) ht) (Ev.pos t1 (Ev.pos t2 ?_)))
            rw [t3, i1]
            refine Ev.bindc rfl (Ev.const ?_)
            congr 1
            rw [Bool.eq_iff_iff, decide_eq_true_iff]
            exact i2
        · rw [if_neg e] at hk
          rw [hk, Bool.true_or]
          by_cases e1 : Int.tmod (wrap64 (p.1 + q.1)) 2 = 0
          · refine Ev.pos e1 ?_
            rw [show (Int.tmod (wrap64 (p.2 + q.2)) 2 != 0) = true from bne_iff_ne.2 (fun h => e ⟨e1, h⟩)]
            apply Ev.succ; simp only [impl_canFollow.j0]
            exact Ev.pos (by trivial) (Ev.now _)
          · refine Ev.neg e1 ?_
            apply Ev.succ; simp only [impl_canFollow.j0]
            exact Ev.pos (by trivial) (Ev.now _)
theorem piBetween_some (a c : Int) : ∃ b, spec_piBetween.f a c = some b := by
  unfold spec_piBetween.f
  split
  · split <;> exact ⟨_, rfl⟩
  · exact ⟨_, rfl⟩
theorem piGoes_ev (s : ByteArray) (a c : Int) (hs : s.size ≤ 1048576) (hp : 0 < s.size) (ha : bt s ((s.size - 1 : Nat) : Int) = a) : Ev (fun k => spec_piGoes.f k s c) (!hasI (bl s) c && goB (bl s) a c) := by
  have e1 : wrap64 ((s.size : Int) - 1) = ((s.size - 1 : Nat) : Int) := by rw [wrap_id (by omega) (by omega)]; omega
  obtain ⟨b, hb⟩ := piBetween_some a c
  unfold spec_piGoes.f goB btw
  rw [e1, ha, hb]
  refine Ev.bind (piHas_ev s hs c) ?_
  cases hasI (bl s) c with
  | true => exact Ev.pos rfl (Ev.now _)
  | false =>
    refine Ev.neg (by decide) (Ev.pos (by omega) (Ev.pos (by omega) (Ev.bindc rfl ?_)))
    rw [Option.getD_some]
    by_cases e : b = 0
    · refine Ev.pos e (Ev.const ?_)
      rw [e]; rfl
    · refine Ev.neg e (Ev.bind (piHas_ev s hs b) (Ev.const ?_))
      rw [beq_eq_false_iff_ne.2 e]; rfl
/-- Do the points from a place on follow? -/
def chkD (l : List UInt8) : Nat → Nat → Bool
  | 0, _ => true
  | d + 1, i => goB (l.take i) ((l.getD (i - 1) 0).toNat : Int) ((l.getD i 0).toNat : Int) && chkD l d (i + 1)
theorem last_at (s : ByteArray) (i : Nat) (hi : 0 < i) (hl : i < (bl s).length) : (s.extract 0 i).size = i ∧ bt (s.extract 0 i) (((s.extract 0 i).size - 1 : Nat) : Int) = (((bl s).getD (i - 1) 0).toNat : Int) := by
  have h1 : (s.extract 0 i).size = i := by rw [bl_len, bl_take, List.length_take]; omega
  refine ⟨h1, ?_⟩
  rw [h1, bt_nat _ (i - 1) (by rw [bl_take, List.length_take]; omega), getD_at _ _ (by omega)]
  simp only [bl_take, List.getElem_take]
section
variable (s : ByteArray) (hp : patB (bl s) = true)
include hp
theorem isDrawn_l0 : ∀ (d i : Nat), 0 < i → i + d = (bl s).length → Ev (fun k => impl_isDrawn.l0 k s (s.size : Int) (i : Int)) (chkD (bl s) d i)
  | 0, i, h0, hi => by
    have es : s.size = (bl s).length := rfl
    apply Ev.succ; simp only [impl_isDrawn.l0]
    exact Ev.neg (by omega) (Ev.now _)
  | d + 1, i, h0, hi => by
    obtain ⟨p1, p2, p3, p4⟩ := patB_spec hp
    have es : s.size = (bl s).length := rfl
    have hlt : i < (bl s).length := by omega
    have ih := isDrawn_l0 d (i + 1) (by omega) (by omega)
    have e1 : wrap64 ((i : Int) + 1) = ((i + 1 : Nat) : Int) := by rw [wrap_id (by omega) (by omega)]; omega
    obtain ⟨q1, q2⟩ := last_at s i h0 hlt
    have r1 := p3 _ (List.getElem_mem (show i - 1 < (bl s).length by omega))
    have r2 := p3 _ (List.getElem_mem hlt)
    have cf := canFollow_ev (s.extract 0 i) _ ((bl s)[i].toNat : Int) (by omega) (by omega) q2 (by rw [getD_at _ _ (by omega)]; omega) (by rw [getD_at _ _ (by omega)]; omega) (by omega) (by omega)
    rw [bl_take] at cf
    apply Ev.succ; simp only [impl_isDrawn.l0, e1, Int.toNat_natCast]
    unfold chkD
    rw [bt_nat s i hlt, getD_at (bl s) i hlt]
    refine Ev.pos (by omega) (Ev.pos (by omega) (Ev.pos (by omega) (Ev.pos (by omega) (Ev.bind cf ?_))))
    cases goB ((bl s).take i) (((bl s).getD (i - 1) 0).toNat : Int) ((bl s)[i].toNat : Int) with
    | true => exact Ev.pos rfl (by rw [Bool.true_and]; exact ih)
    | false => exact Ev.neg (by decide) (Ev.now _)
theorem isDrawn_ev : Ev (fun k => impl_isDrawn.f k s) (chkD (bl s) ((bl s).length - 1) 1) := by
  obtain ⟨p1, p2, p3, p4⟩ := patB_spec hp
  have es : s.size = (bl s).length := rfl
  have go := isDrawn_l0 s hp ((bl s).length - 1) 1 (by omega) (by omega)
  have he : (s.extract 0 0).toList = [] := by rw [bl_toList, bl_take]; simp
  unfold impl_isDrawn.f
  apply Ev.succ; simp only [impl_isDrawn.l0]
  refine Ev.pos (by omega) (Ev.pos (by omega) (Ev.pos (by omega) (Ev.pos (by omega) (Ev.bind (a := true) ?_ (Ev.pos rfl ?_)))))
  · unfold impl_canFollow.f
    exact Ev.pos he (Ev.now _)
  · rw [show wrap64 ((0 : Int) + 1) = ((1 : Nat) : Int) by rw [wrap_id (by omega) (by omega)]; rfl]
    exact go
theorem piDrawn_l0 : ∀ (d i : Nat), 0 < i → i + d = (bl s).length → Ev (fun k => spec_piDrawn.l0 k s (i : Int)) (chkD (bl s) d i)
  | 0, i, h0, hi => by
    have es : s.size = (bl s).length := rfl
    apply Ev.succ; simp only [spec_piDrawn.l0]
    exact Ev.neg (by omega) (Ev.now _)
  | d + 1, i, h0, hi => by
    obtain ⟨p1, p2, p3, p4⟩ := patB_spec hp
    have es : s.size = (bl s).length := rfl
    have hlt : i < (bl s).length := by omega
    have ih := piDrawn_l0 d (i + 1) (by omega) (by omega)
    have e1 : wrap64 ((i : Int) + 1) = ((i + 1 : Nat) : Int) := by rw [wrap_id (by omega) (by omega)]; omega
    obtain ⟨q1, q2⟩ := last_at s i h0 hlt
    have gg := piGoes_ev (s.extract 0 i) _ ((bl s)[i].toNat : Int) (by omega) (by omega) q2
    rw [bl_take] at gg
    have hno : hasI ((bl s).take i) ((bl s)[i].toNat : Int) = false := by
      cases hh : hasI ((bl s).take i) ((bl s)[i].toNat : Int) with
      | false => rfl
      | true =>
        have hsub : ((bl s).take (i + 1)).Nodup := p4.sublist (List.take_sublist _ _)
        rw [List.take_succ_eq_append_getElem hlt, List.nodup_append] at hsub
        exact absurd rfl (hsub.2.2 _ ((hasI_mem _ _).1 hh) _ (by simp))
    rw [hno, Bool.not_false, Bool.true_and] at gg
    apply Ev.succ; simp only [spec_piDrawn.l0, e1, Int.toNat_natCast]
    unfold chkD
    rw [bt_nat s i hlt, getD_at (bl s) i hlt]
    refine Ev.pos (by omega) (Ev.pos (by omega) (Ev.pos (by omega) (Ev.bind gg ?_)))
    cases goB ((bl s).take i) (((bl s).getD (i - 1) 0).toNat : Int) ((bl s)[i].toNat : Int) with
    | true => exact Ev.pos rfl (by rw [Bool.true_and]; exact ih)
    | false => exact Ev.neg (by decide) (Ev.now _)
theorem piDrawn_ev : Ev (fun k => spec_piDrawn.f k s) (chkD (bl s) ((bl s).length - 1) 1) := by
  obtain ⟨p1, p2, p3, p4⟩ := patB_spec hp
  exact piDrawn_l0 s hp ((bl s).length - 1) 1 (by omega) (by omega)
end
end Go.Proofs.YtjjmbinhagaifaaDoor

namespace Go.Proofs.YtjjmbinhagaifaaDoor
open Go.RowKit Go.Proofs.YtjjmbinhagaifaaDoor.P Go.Proofs.YtjjmbinhagaifaaDoorW.PrintWords
set_option linter.unusedSimpArgs false
set_option linter.unusedVariables false
/-! The points with which a pattern can go on. -/
def pts : List Int := [49, 50, 51, 52, 53, 54, 55, 56, 57]
/-- The last sign of a text. -/
def lastI (l : List UInt8) : Int := ((l.getD (l.length - 1) 0).toNat : Int)
def goes (l : List UInt8) (c : Int) : Bool := !hasI l c && goB l (lastI l) c
def nxt (l : List UInt8) : List Int := pts.filter (goes l)
theorem pts_at (i : Nat) (h : i < 9) : rd pts (i : Int) = 49 + i ∧ pts.drop i = (49 + (i : Int)) :: pts.drop (i + 1) := by
  have : ∀ e : Fin 9, rd pts (e.val : Int) = 49 + e.val ∧ pts.drop e.val = (49 + (e.val : Int)) :: pts.drop (e.val + 1) := by decide
  exact this ⟨i, h⟩
theorem last_bt (s : ByteArray) (hp : 0 < s.size) : bt s ((s.size - 1 : Nat) : Int) = lastI (bl s) := by
  have es : s.size = (bl s).length := rfl
  unfold lastI
  rw [bt_nat s (s.size - 1) (by omega), getD_at _ _ (by omega)]
  rfl
theorem enc_pt (i : Nat) (h : i < 9) : bl (Utf8.encode (wrap32 (49 + (i : Int)))) = [UInt8.ofNat (49 + (i : Int)).toNat] := by
  have : ∀ e : Fin 9, bl (Utf8.encode (wrap32 (49 + (e.val : Int)))) = [UInt8.ofNat (49 + (e.val : Int)).toNat] := by decide +kernel
  exact this ⟨i, h⟩
section
variable (s : ByteArray) (hs : s.size ≤ 1048576) (hp : 0 < s.size) (hl : 49 ≤ lastI (bl s) ∧ lastI (bl s) ≤ 57)
include hs hp hl
theorem next_l0 : ∀ (d i : Nat) (acc : List Int), i + d = 9 → acc.length ≤ i → Ev (fun k => impl_nextPoints.l0 k s acc pts (pts.length : Int) (i : Int)) (strOfNums (acc ++ (pts.drop i).filter (goes (bl s))))
  | 0, i, acc, hi, ha => by
    obtain rfl : i = 9 := by omega
    apply Ev.succ; simp only [impl_nextPoints.l0]
    refine Ev.neg (by decide) (Ev.const ?_)
    rw [show pts.drop 9 = [] from rfl]; simp
  | d + 1, i, acc, hi, ha => by
    obtain ⟨q1, q2⟩ := pts_at i (by omega)
    have hlp : (pts.length : Int) = 9 := rfl
    have e1 : wrap64 ((i : Int) + 1) = ((i + 1 : Nat) : Int) := by rw [wrap_id (by omega) (by omega)]; omega
    obtain ⟨i1, i2⟩ := idx_has s (49 + (i : Int)) (by omega) (by omega)
    have cf := canFollow_ev s _ (49 + (i : Int)) hs hp (last_bt s hp) hl.1 hl.2 (by omega) (by omega)
    have ih := fun acc' h => next_l0 d (i + 1) acc' (by omega) h
    rw [hlp] at ih ⊢
    rw [q2, List.filter_cons]
    unfold goes at ih ⊢
    apply Ev.succ; simp only [impl_nextPoints.l0, e1, hlp, q1, i1]
    refine Ev.pos (by omega) (Ev.pos (by omega) (Ev.pos (by omega) (Ev.bindc rfl ?_)))
    by_cases c : Lib.indexByte (bl s) (49 + (i : Int)).toNat.toUInt8 < 0
    · have hh : hasI (bl s) (49 + (i : Int)) = false := by
        cases hh : hasI (bl s) (49 + (i : Int)) with
        | false => rfl
        | true => have := i2.2 hh; omega
      refine Ev.pos c (Ev.bind cf ?_)
      rw [hh, Bool.not_false, Bool.true_and]
      cases goB (bl s) (lastI (bl s)) (49 + (i : Int)) with
      | true =>
        refine Ev.pos rfl (Ev.pos (by omega) ?_)
        rw [if_pos rfl]
        have := ih (acc ++ [49 + (i : Int)]) (by simp; omega)
        rwa [List.append_assoc, List.singleton_append] at this
      | false =>
        rw [if_neg (by decide)]
        exact Ev.neg (by decide) (ih acc (by omega))
    · have hh : hasI (bl s) (49 + (i : Int)) = true := i2.1 (by omega)
      rw [hh, Bool.not_true, Bool.false_and, if_neg (by decide)]
      exact Ev.neg c (ih acc (by omega))
theorem nextPoints_ev : Ev (fun k => impl_nextPoints.f k s) (strOfNums (nxt (bl s))) := by
  unfold impl_nextPoints.f
  exact Ev.bindc rfl (next_l0 s hs hp hl 9 0 [] (by omega) (by simp))
end
end Go.Proofs.YtjjmbinhagaifaaDoor

-- printed by xprint.py
namespace Go.Proofs.YtjjmbinhagaifaaDoor.P
open Go.RowKit Go.Proofs.YtjjmbinhagaifaaDoorW.PrintWords Go.Proofs.YtjjmbinhagaifaaDoorW.PrintLast Go.Proofs.YtjjmbinhagaifaaDoorW.PrintMore
attribute [local go_sem] max2_int min2_int max_two min_two max_three min_three max_four min_four   -- for this text's walks alone
set_option linter.unusedVariables false
set_option linter.unusedSimpArgs false

/-! ### spec_piCount: function 22 -/
mutual
def spec_piCount.l0 : Nat → ByteArray → Int → Int → Int → Option (Int)
 | 0, _, _, _, _ => none
 | k + 1, x0, x1, x5, x6 => if x6 ≤ 57 then ((spec_piGoes.f k x0 x6).bind fun t101 => (if t101 = true then (if x0.size + (Utf8.encode (wrap32 (x6))).size ≤ 9223372036854775807 then ((spec_piCount.f k (x0 ++ (Utf8.encode (wrap32 (x6)))) (wrap64 (x1 - 1))).bind fun t102 => (spec_piCount.l0 k x0 x1 (wrap64 (x5 + t102)) ((x6 + 1) % 256))) else (none)) else (spec_piCount.l0 k x0 x1 x5 ((x6 + 1) % 256)))) else (some x5)
def spec_piCount.f : Nat → ByteArray → Int → Option (Int)
 | 0, _, _ => none
 | k + 1, a0, a1 => if a1 = 0 then (some 1) else (spec_piCount.l0 k a0 a1 0 49)
end
theorem spec_piCount.mono_l : ∀ k, (∀ y0 y1, LeO (spec_piCount.f k y0 y1) (spec_piCount.f (k + 1) y0 y1)) ∧ (∀ y0 y1 y2 y3, LeO (spec_piCount.l0 k y0 y1 y2 y3) (spec_piCount.l0 (k + 1) y0 y1 y2 y3))
 | 0 => ⟨by intros; intro r h; simp [spec_piCount.f] at h, by intros; intro r h; simp [spec_piCount.l0] at h⟩
 | k + 1 => by
  obtain ⟨ih0, ih1⟩ := spec_piCount.mono_l k
  refine ⟨?_, ?_⟩
  ·
   intro y0 y1
   unfold spec_piCount.f
   repeat' first
   | (with_reducible exact ih0 _ _)
   | (with_reducible exact ih1 _ _ _ _)
   | (with_reducible exact spec_piGoes.mono _ _ _)
   | (with_reducible exact LeO.refl _)
   | (with_reducible exact LeO.none _)
   | (with_reducible refine LeO.ite ?_ ?_)
   | (with_reducible refine LeO.bind ?_ (fun _ => ?_))
   | exact ih0 _ _
   | exact ih1 _ _ _ _
   | exact spec_piGoes.mono _ _ _
   | exact LeO.none _
   | refine LeO.ite ?_ ?_
   | refine LeO.bind ?_ (fun _ => ?_)
  ·
   intro y0 y1 y2 y3
   unfold spec_piCount.l0
   repeat' first
   | (with_reducible exact ih0 _ _)
   | (with_reducible exact ih1 _ _ _ _)
   | (with_reducible exact spec_piGoes.mono _ _ _)
   | (with_reducible exact LeO.refl _)
   | (with_reducible exact LeO.none _)
   | (with_reducible refine LeO.ite ?_ ?_)
   | (with_reducible refine LeO.bind ?_ (fun _ => ?_))
   | exact ih0 _ _
   | exact ih1 _ _ _ _
   | exact spec_piGoes.mono _ _ _
   | exact LeO.none _
   | refine LeO.ite ?_ ?_
   | refine LeO.bind ?_ (fun _ => ?_)
theorem spec_piCount.mono : ∀ y0 y1 k, LeO (spec_piCount.f k y0 y1) (spec_piCount.f (k + 1) y0 y1) := by
 intro y0 y1 k
 obtain ⟨ih0, ih1⟩ := spec_piCount.mono_l k
 exact ih0 y0 y1
set_option maxHeartbeats 8000000 in
set_option maxRecDepth 100000 in
theorem spec_piCount.calls (k : Nat) : ∀ (a0 : ByteArray) (a1 : Int) (r : Int) (w : World) (h : spec_piCount.f k a0 a1 = some r),
  Calls Tryd.prog 22 #[.string a0, .int .i64 a1] w fun e w' => e = .returned (.int .i64 r) ∧ Drawn0 w w' := by
 induction k using Nat.strongRecOn with
 | _ k ih =>
 intro a0 a1 r w h
 cases k with
 | zero => exact absurd h (by simp [spec_piCount.f])
 | succ k =>
 simp only [spec_piCount.f] at h
 have H : (if a1 = 0 then (some 1) else (spec_piCount.l0 k a0 a1 0 49)) = some r := h
 clear h
 by_cases c3 : a1 = 0
 ·
  rw [if_pos c3] at H
  have c3b0 : (a1 == 0) = true := beq_iff_eq.mpr c3
  have c3b1 : (a1 != 0) = false := bne_eq_false_iff_eq.mpr c3
  clear c3
  obtain rfl := Option.some.inj H
  go_enter Tryd.func22, Tryd.ntmps22
  go_wp2
  go_ret
  exact ⟨by first | rfl | (simp; done) | (simp [*]; done), by repeat (first | exact Drawn0.refl _ | apply Drawn0.step)⟩
 ·
  rw [if_neg c3] at H
  have c3b0 : (a1 == 0) = false := beq_eq_false_iff_ne.mpr c3
  have c3b1 : (a1 != 0) = true := bne_iff_ne.mpr c3
  have H' := Aside0.mk H
  clear H
  go_enter Tryd.func22, Tryd.ntmps22
  go_wp2
  go_loopg [5, 6] k (fun kq v5 v6 w' => ∃ (x5_1 : Int) (x6_1 : Int), v5 = .int .i64 x5_1 ∧ v6 = .int .u8 x6_1 ∧ Aside0 (spec_piCount.l0 kq a0 a1 x5_1 x6_1 = some r) ∧ Aside0 (kq ≤ k) ∧ Drawn0 w w')
  case atStart => exact ⟨(0), (49), (by first | rfl | (simp; done) | (simp [*]; done)), (by first | rfl | (simp; done) | (simp [*]; done)), H', ⟨Nat.le_refl _⟩, by repeat (first | exact Drawn0.refl _ | apply Drawn0.step)⟩
  case round =>
   clear H'
   try clear c2
   try clear p2
   try clear c3
   try clear c3b0
   try clear c3b1
   obtain ⟨x5_1, x6_1, rfl, rfl, HA, HK1, ⟨m1, rfl⟩⟩ := hrel
   cases gk with
   | zero => exact absurd HA.out (by simp [spec_piCount.l0])
   | succ k1 =>
    have H := HA.out
    clear HA
    simp only [spec_piCount.l0] at H
    by_cases c4 : x6_1 ≤ 57
    ·
     rw [if_pos c4] at H
     have c4b0 : decide (x6_1 ≤ 57) = true := decide_eq_true c4
     clear c4
     replace H := Option.bind_eq_some_iff.mp H
     obtain ⟨t101, A50, H⟩ := H
     replace H : (if t101 = true then (if a0.size + (Utf8.encode (wrap32 (x6_1))).size ≤ 9223372036854775807 then ((spec_piCount.f k1 (a0 ++ (Utf8.encode (wrap32 (x6_1)))) (wrap64 (a1 - 1))).bind fun t102 => (spec_piCount.l0 k1 a0 a1 (wrap64 (x5_1 + t102)) ((x6_1 + 1) % 256))) else (none)) else (spec_piCount.l0 k1 a0 a1 x5_1 ((x6_1 + 1) % 256))) = some r := H
     have A5 := Aside0.mk A50
     clear A50
     by_cases c6 : t101 = true
     ·
      subst c6
      have H1 : (if a0.size + (Utf8.encode (wrap32 (x6_1))).size ≤ 9223372036854775807 then ((spec_piCount.f k1 (a0 ++ (Utf8.encode (wrap32 (x6_1)))) (wrap64 (a1 - 1))).bind fun t102 => (spec_piCount.l0 k1 a0 a1 (wrap64 (x5_1 + t102)) ((x6_1 + 1) % 256))) else (none)) = some r := by rw [if_pos rfl] at H; exact H
      clear H
      have H := H1
      clear H1
      by_cases c7 : a0.size + (Utf8.encode (wrap32 (x6_1))).size ≤ 9223372036854775807
      ·
       rw [if_pos c7] at H
       have c7b0 := eq_true c7
       have c7b1 : decide (a0.size + (Utf8.encode (wrap32 (x6_1))).size ≤ 9223372036854775807) = true := decide_eq_true c7
       try have c7b2 : (9223372036854775807 < a0.size + (Utf8.encode (wrap32 (x6_1))).size) = False := eq_false (Nat.not_lt.2 c7)
       replace H := Option.bind_eq_some_iff.mp H
       obtain ⟨t102, A80, H⟩ := H
       replace H : (spec_piCount.l0 k1 a0 a1 (wrap64 (x5_1 + t102)) ((x6_1 + 1) % 256)) = some r := H
       have A8 := Aside0.mk A80
       clear A80
       have H' := Aside0.mk H
       clear H
       go_wp2_with (first | ((with_reducible refine gate_callee (f := 33) rfl ?_); refine goesL_ (some 15) rfl rfl Tryd.func33 (by kernel_rfl) rfl #[.string a0, .int .u8 x6_1] rfl (by (try simp only [List.map_toArray, List.map_cons, List.map_nil]); first | done | rfl | (simp only [List.length_drop, List.length_take]; rfl)) ?_; (with_reducible refine (spec_piGoes.calls k1 a0 x6_1 true _ A5.out).mono ?_); rintro e w' ⟨rfl, ⟨nd, rfl⟩⟩; refine ⟨_, rfl, ?_⟩; have hcv9 : ∀ W : World, (convert 21 9 (.int .i32 (wrap32 (x6_1)))).run Tryd.prog W = .ok (.string (Utf8.encode (wrap32 (x6_1)))) W := fun W => run_convert_int_string W 21 9 .i32 (wrap32 (x6_1)) (by rw [Tryd.underlying21]; rfl) Tryd.underlying9) | ((with_reducible refine gate_callee (f := 22) rfl ?_); refine goesL_ (some 24) rfl rfl Tryd.func22 (by kernel_rfl) rfl #[.string (a0 ++ (Utf8.encode (wrap32 (x6_1)))), .int .i64 (wrap64 (a1 - 1))] rfl (by (try simp only [List.map_toArray, List.map_cons, List.map_nil]); first | done | rfl | (simp only [List.length_drop, List.length_take]; rfl)) ?_; (with_reducible refine (ih k1 (by have := HK1.out; omega) (a0 ++ (Utf8.encode (wrap32 (x6_1)))) (wrap64 (a1 - 1)) t102 _ A8.out).mono ?_); rintro e w' ⟨rfl, ⟨nd, rfl⟩⟩; refine ⟨_, rfl, ?_⟩))
       go_roundg k1
       case measure => have := HK1.out; omega
       case rel => exact ⟨(wrap64 (x5_1 + t102)), ((x6_1 + 1) % 256), (by first | rfl | (simp; done) | (simp [*]; done)), (by first | rfl | (simp; done) | (simp [*]; done)), H', ⟨by have := HK1.out; omega⟩, by repeat (first | exact Drawn0.refl _ | apply Drawn0.step)⟩
      ·
       rw [if_neg c7] at H
       exact absurd H (by simp)
     ·
      replace c6 := Bool.eq_false_iff.mpr c6
      subst c6
      have H1 : (spec_piCount.l0 k1 a0 a1 x5_1 ((x6_1 + 1) % 256)) = some r := by rw [if_neg (show ¬ (false = true) by decide)] at H; exact H
      clear H
      have H := H1
      clear H1
      have H' := Aside0.mk H
      clear H
      go_wp2_with (first | ((with_reducible refine gate_callee (f := 33) rfl ?_); refine goesL_ (some 15) rfl rfl Tryd.func33 (by kernel_rfl) rfl #[.string a0, .int .u8 x6_1] rfl (by (try simp only [List.map_toArray, List.map_cons, List.map_nil]); first | done | rfl | (simp only [List.length_drop, List.length_take]; rfl)) ?_; (with_reducible refine (spec_piGoes.calls k1 a0 x6_1 false _ A5.out).mono ?_); rintro e w' ⟨rfl, ⟨nd, rfl⟩⟩; refine ⟨_, rfl, ?_⟩))
      go_roundg k1
      case measure => have := HK1.out; omega
      case rel => exact ⟨(x5_1), ((x6_1 + 1) % 256), (by first | rfl | (simp; done) | (simp [*]; done)), (by first | rfl | (simp; done) | (simp [*]; done)), H', ⟨by have := HK1.out; omega⟩, by repeat (first | exact Drawn0.refl _ | apply Drawn0.step)⟩
    ·
     rw [if_neg c4] at H
     have c4b0 : decide (x6_1 ≤ 57) = false := decide_eq_false c4
     clear c4
     obtain rfl := Option.some.inj H
     go_wp2
     go_ret
     exact ⟨by first | rfl | (simp; done) | (simp [*]; done), by repeat (first | exact Drawn0.refl _ | apply Drawn0.step)⟩

end Go.Proofs.YtjjmbinhagaifaaDoor.P

namespace Go.Proofs.YtjjmbinhagaifaaDoor
open Go.RowKit Go.Proofs.YtjjmbinhagaifaaDoor.P Go.Proofs.YtjjmbinhagaifaaDoorW.PrintWords
set_option linter.unusedSimpArgs false
set_option linter.unusedVariables false
/-! In how many ways a pattern goes on. -/
def toB (c : Int) : UInt8 := UInt8.ofNat c.toNat
def cnt : Nat → List UInt8 → Nat
  | 0, _ => 1
  | m + 1, l => ((nxt l).map fun c => cnt m (l ++ [toB c])).sum
def isP (c : Int) : Prop := 49 ≤ c ∧ c ≤ 57
theorem pts_isP : ∀ c ∈ pts, isP c := by unfold pts isP; intro c hc; simp at hc; omega
theorem nxt_isP (l : List UInt8) : ∀ c ∈ nxt l, isP c := fun c hc => pts_isP c (List.mem_filter.1 hc).1
theorem toB_nat {c : Int} (h : isP c) : ((toB c).toNat : Int) = c := by
  obtain ⟨h1, h2⟩ := h
  unfold toB
  simp; omega
theorem bl_ext (s : ByteArray) (c : UInt8) : bl (s ++ ⟨#[c]⟩) = bl s ++ [c] := by rw [bl_append]; rfl
theorem last_ext (l : List UInt8) (c : UInt8) : lastI (l ++ [c]) = (c.toNat : Int) := by
  unfold lastI
  rw [List.getD_eq_getElem?_getD]
  simp
theorem ext_size (s : ByteArray) (c : UInt8) : (s ++ ⟨#[c]⟩ : ByteArray).size = s.size + 1 := by rw [ByteArray.size_append]; rfl
/-- A text to which points may be put. -/
def okS (s : ByteArray) : Prop := 0 < s.size ∧ 49 ≤ lastI (bl s) ∧ lastI (bl s) ≤ 57
theorem okS_ext (s : ByteArray) {c : Int} (h : isP c) : okS (s ++ ⟨#[toB c]⟩) := by
  refine ⟨by rw [ext_size]; omega, ?_⟩
  rw [bl_ext, last_ext, toB_nat h]
  exact h
theorem enc_toB (i : Nat) (h : i < 9) (s : ByteArray) : s ++ Utf8.encode (wrap32 (49 + (i : Int))) = s ++ ⟨#[toB (49 + (i : Int))]⟩ := bl_inj (by rw [bl_append, enc_pt i h, bl_ext]; rfl)
theorem sum_le (f : Int → Nat) (B : Nat) : ∀ l : List Int, (∀ c ∈ l, f c ≤ B) → (l.map f).sum ≤ l.length * B
  | [], _ => by simp
  | c :: l, h => by
    have h1 := h c List.mem_cons_self
    have h2 := sum_le f B l (fun x hx => h x (List.mem_cons_of_mem _ hx))
    rw [List.map_cons, List.sum_cons, List.length_cons, Nat.succ_mul]
    omega
theorem cnt_le : ∀ (m : Nat) (l : List UInt8), cnt m l ≤ 9 ^ m
  | 0, _ => by unfold cnt; simp
  | m + 1, l => by
    unfold cnt
    have h := sum_le (fun c => cnt m (l ++ [toB c])) (9 ^ m) (nxt l) (fun c _ => cnt_le m _)
    have hl : (nxt l).length ≤ 9 := List.length_filter_le _ _
    have hm : (nxt l).length * 9 ^ m ≤ 9 * 9 ^ m := Nat.mul_le_mul_right _ hl
    rw [Nat.pow_succ]
    omega
theorem nums_toB (l : List Int) : (strOfNums l).data.toList = l.map toB := bl_nums l
theorem asc_toB (l : List Int) (h : ∀ c ∈ l, isP c) : ((strOfNums l).data.toList.all fun c => decide (c.toNat < 128)) = true := by
  rw [nums_toB, List.all_eq_true]
  intro b hb
  obtain ⟨c, hc, rfl⟩ := List.mem_map.1 hb
  have h1 := toB_nat (h c hc)
  have h2 := h c hc
  unfold isP at h2
  simp only [decide_eq_true_eq]; omega
theorem many_loop (s : ByteArray) (long : Int) (m : Nat) (ih : ∀ (c : Int) (σ : Nat), isP c → σ + cnt m (bl s ++ [toB c]) ≤ 1000000000000 → Ev (fun k => drawnF (fun (n : Int) (_ : ByteArray) => wrap64 (n + 1)) false k (s ++ ⟨#[toB c]⟩) long (σ : Int)) (false, ((σ + cnt m (bl s ++ [toB c]) : Nat) : Int))) : ∀ (cs : List Int) (σ : Nat), (∀ c ∈ cs, isP c) → σ + (cs.map fun c => cnt m (bl s ++ [toB c])).sum ≤ 1000000000000 →
    Ev (fun k => loopD (fun p s' => drawnF (fun (n : Int) (_ : ByteArray) => wrap64 (n + 1)) false k p long s') s (cs.map toB) (σ : Int)) (false, ((σ + (cs.map fun c => cnt m (bl s ++ [toB c])).sum : Nat) : Int))
  | [], σ, hc, hb => Ev.const (by simp [loopD])
  | c :: cs, σ, hc, hb => by
    simp only [List.map_cons, List.sum_cons] at hb ⊢
    have go := many_loop s long m ih cs (σ + cnt m (bl s ++ [toB c])) (fun x hx => hc x (List.mem_cons_of_mem _ hx)) (by omega)
    unfold loopD
    refine Ev.bind (ih c σ (hc c List.mem_cons_self) (by omega)) ?_
    refine Ev.neg (by simp) ?_
    rw [← Nat.add_assoc]
    exact go
theorem many_ev : ∀ (m : Nat) (s : ByteArray) (long : Int) (σ : Nat), okS s → (s.size : Int) + m = long → long ≤ 900 → σ + cnt m (bl s) ≤ 1000000000000 → Ev (fun k => drawnF (fun (n : Int) (_ : ByteArray) => wrap64 (n + 1)) false k s long (σ : Int)) (false, ((σ + cnt m (bl s) : Nat) : Int))
  | 0, s, long, σ, hs, hl, h9, hb => by
    unfold cnt at hb ⊢
    apply Ev.succ; simp only [drawnF]
    refine Ev.pos (by omega) (Ev.const ?_)
    rw [wrap_id (by omega) (by omega)]
    rfl
  | m + 1, s, long, σ, hs, hl, h9, hb => by
    have hp := nextPoints_ev s (by omega) hs.1 hs.2
    have go := many_loop s long m (fun c σ' hc hb' => by
      have := many_ev m (s ++ ⟨#[toB c]⟩) long σ' (okS_ext s hc) (by rw [ext_size]; omega) h9 (by rw [bl_ext]; exact hb')
      rwa [bl_ext] at this) (nxt (bl s)) σ (nxt_isP _) hb
    apply Ev.succ; simp only [drawnF]
    refine Ev.neg (by omega) (Ev.pos (by omega) (Ev.bind hp (Ev.pos (asc_toB _ (nxt_isP _)) ?_)))
    rw [nums_toB]
    exact go
theorem countDrawn_ev (s : ByteArray) (m : Nat) (long : Int) (hs : okS s) (hl : (s.size : Int) + m = long) (h9 : long ≤ 900) (hb : cnt m (bl s) ≤ 1000000000000) : Ev (fun k => impl_countDrawn.f k s long) ((cnt m (bl s) : Nat) : Int) := by
  have h := many_ev m s long 0 hs hl h9 (by omega)
  obtain ⟨K, hK⟩ := h
  refine ⟨K, fun k hk => ?_⟩
  show impl_countDrawn.f k s long = _
  unfold impl_countDrawn.f
  have := hK k hk
  simp only [Nat.zero_add] at this
  rw [show ((0 : Nat) : Int) = 0 from rfl] at this
  rw [this]
  rfl
/-! The reference's count. -/
theorem piCount_l0 (s : ByteArray) (hs : okS s) (h9 : s.size ≤ 900) (m : Nat) (hm : m ≤ 900) (ih : ∀ c : Int, isP c → cnt m (bl s ++ [toB c]) ≤ 1000000000000 → Ev (fun k => spec_piCount.f k (s ++ ⟨#[toB c]⟩) (m : Int)) ((cnt m (bl s ++ [toB c]) : Nat) : Int)) : ∀ (d i : Nat) (acc : Nat), i + d = 9 → acc + (((pts.drop i).filter (goes (bl s))).map fun c => cnt m (bl s ++ [toB c])).sum ≤ 1000000000000 →
    Ev (fun k => spec_piCount.l0 k s ((m + 1 : Nat) : Int) (acc : Int) (49 + (i : Int))) (((acc + (((pts.drop i).filter (goes (bl s))).map fun c => cnt m (bl s ++ [toB c])).sum : Nat)) : Int)
  | 0, i, acc, hi, hb => by
    obtain rfl : i = 9 := by omega
    apply Ev.succ; simp only [spec_piCount.l0]
    refine Ev.neg (by decide) (Ev.const ?_)
    rw [show pts.drop 9 = [] from rfl]; simp
  | d + 1, i, acc, hi, hb => by
    obtain ⟨q1, q2⟩ := pts_at i (by omega)
    have e1 : (49 + (i : Int) + 1) % 256 = 49 + ((i + 1 : Nat) : Int) := by omega
    have e2 : wrap64 (((m + 1 : Nat) : Int) - 1) = (m : Int) := by rw [wrap_id (by omega) (by omega)]; omega
    have pg := piGoes_ev s _ (49 + (i : Int)) (by omega) hs.1 (last_bt s hs.1)
    rw [q2, List.filter_cons] at hb ⊢
    apply Ev.succ; simp only [spec_piCount.l0, e1, e2]
    refine Ev.pos (by omega) (Ev.bind pg ?_)
    show Ev (fun k => if goes (bl s) (49 + (i : Int)) = true then _ else _) _
    cases hg : goes (bl s) (49 + (i : Int)) with
    | true =>
      rw [hg, if_pos rfl, List.map_cons, List.sum_cons] at hb
      rw [if_pos rfl, List.map_cons, List.sum_cons]
      have hz : s.size + (Utf8.encode (wrap32 (49 + (i : Int)))).size ≤ 9223372036854775807 := by
        rw [bl_len (Utf8.encode _), enc_pt i (by omega), List.length_singleton]; omega
      have go := piCount_l0 s hs h9 m hm ih d (i + 1) (acc + cnt m (bl s ++ [toB (49 + (i : Int))])) (by omega) (by omega)
      refine Ev.pos rfl (Ev.pos hz ?_)
      rw [enc_toB i (by omega)]
      refine Ev.bind (ih (49 + (i : Int)) ⟨by omega, by omega⟩ (by omega)) ?_
      rw [show wrap64 ((acc : Int) + ((cnt m (bl s ++ [toB (49 + (i : Int))]) : Nat) : Int)) = ((acc + cnt m (bl s ++ [toB (49 + (i : Int))]) : Nat) : Int) by
        generalize cnt m (bl s ++ [toB (49 + (i : Int))]) = z at hb
        rw [wrap_id (by omega) (by omega)]; omega, ← Nat.add_assoc]
      exact go
    | false =>
      rw [hg, if_neg (by decide)] at hb
      rw [if_neg (by decide)]
      exact Ev.neg (by decide) (piCount_l0 s hs h9 m hm ih d (i + 1) acc (by omega) hb)
theorem piCount_ev : ∀ (m : Nat) (s : ByteArray), okS s → s.size + m ≤ 900 → cnt m (bl s) ≤ 1000000000000 → Ev (fun k => spec_piCount.f k s (m : Int)) ((cnt m (bl s) : Nat) : Int)
  | 0, s, hs, h9, hb => by
    unfold cnt
    apply Ev.succ; simp only [spec_piCount.f]
    exact Ev.pos (by omega) (Ev.now _)
  | m + 1, s, hs, h9, hb => by
    have go := piCount_l0 s hs (by omega) m (by omega) (fun c hc hb' => by
      have := piCount_ev m (s ++ ⟨#[toB c]⟩) (okS_ext s hc) (by rw [ext_size]; omega) (by rw [bl_ext]; exact hb')
      rwa [bl_ext] at this) 9 0 0 (by omega) (by rw [Nat.zero_add]; exact hb)
    apply Ev.succ; simp only [spec_piCount.f]
    refine Ev.neg (by omega) ?_
    rw [Nat.zero_add] at go
    exact go
theorem cnt_fit (m : Nat) (hm : m ≤ 9) (l : List UInt8) : cnt m l ≤ 1000000000000 := by
  have h1 := cnt_le m l
  have h2 : 9 ^ m ≤ 9 ^ 9 := Nat.pow_le_pow_right (by omega) hm
  have : 9 ^ 9 = 387420489 := rfl
  omega
end Go.Proofs.YtjjmbinhagaifaaDoor

namespace Go.Proofs.YtjjmbinhagaifaaDoor
open Go.RowKit Go.Proofs.YtjjmbinhagaifaaDoor.P Go.Proofs.YtjjmbinhagaifaaDoorW.PrintWords
set_option linter.unusedSimpArgs false
set_option linter.unusedVariables false
/-! The first pattern that goes on so far. -/
def fst1 : Nat → ByteArray → Option ByteArray
  | 0, s => some s
  | m + 1, s => (nxt (bl s)).findSome? fun c => fst1 m (s ++ ⟨#[toB c]⟩)
/-- What the walk leaves: whether one was found, and the variable. -/
def outF (o : Option ByteArray) (σ : ByteArray) : Bool × ByteArray := match o with | some r => (true, r) | none => (false, σ)
theorem first_loop (s : ByteArray) (long : Int) (m : Nat) (ih : ∀ (c : Int) (σ : ByteArray), isP c → Ev (fun k => drawnF (fun (_ : ByteArray) (p : ByteArray) => p) true k (s ++ ⟨#[toB c]⟩) long σ) (outF (fst1 m (s ++ ⟨#[toB c]⟩)) σ)) (σ : ByteArray) : ∀ (cs : List Int), (∀ c ∈ cs, isP c) →
    Ev (fun k => loopD (fun p s' => drawnF (fun (_ : ByteArray) (p : ByteArray) => p) true k p long s') s (cs.map toB) σ) (outF (cs.findSome? fun c => fst1 m (s ++ ⟨#[toB c]⟩)) σ)
  | [], hc => Ev.const rfl
  | c :: cs, hc => by
    have go := first_loop s long m ih σ cs (fun x hx => hc x (List.mem_cons_of_mem _ hx))
    have h1 := ih c σ (hc c List.mem_cons_self)
    rw [List.map_cons, List.findSome?_cons]
    unfold loopD
    refine Ev.bind h1 ?_
    cases fst1 m (s ++ ⟨#[toB c]⟩) with
    | some r => exact Ev.pos rfl (Ev.now _)
    | none => exact Ev.neg (by simp [outF]) go
theorem first_ev : ∀ (m : Nat) (s : ByteArray) (long : Int) (σ : ByteArray), okS s → (s.size : Int) + m = long → long ≤ 900 → Ev (fun k => drawnF (fun (_ : ByteArray) (p : ByteArray) => p) true k s long σ) (outF (fst1 m s) σ)
  | 0, s, long, σ, hs, hl, h9 => by
    apply Ev.succ; simp only [drawnF]
    exact Ev.pos (by omega) (Ev.now _)
  | m + 1, s, long, σ, hs, hl, h9 => by
    have hp := nextPoints_ev s (by omega) hs.1 hs.2
    have go := first_loop s long m (fun c σ' hc => first_ev m (s ++ ⟨#[toB c]⟩) long σ' (okS_ext s hc) (by rw [ext_size]; omega) h9) σ (nxt (bl s)) (nxt_isP _)
    apply Ev.succ; simp only [drawnF]
    refine Ev.neg (by omega) (Ev.pos (by omega) (Ev.bind hp (Ev.pos (asc_toB _ (nxt_isP _)) ?_)))
    rw [nums_toB]
    exact go
/-- What is told: the pattern and that there is one. -/
def told (o : Option ByteArray) : ByteArray × Bool := match o with | some r => (r, true) | none => ((⟨#[]⟩ : ByteArray), false)
theorem firstD_ev (s : ByteArray) (m : Nat) (long : Int) (hs : okS s) (hl : (s.size : Int) + m = long) (h9 : long ≤ 900) : Ev (fun k => firstD k s long) (told (fst1 m s)) := by
  obtain ⟨K, hK⟩ := first_ev m s long (⟨#[]⟩ : ByteArray) hs hl h9
  refine ⟨K, fun k hk => ?_⟩
  show firstD k s long = _
  unfold firstD
  have := hK k hk
  rw [show drawnF (fun (_ : ByteArray) (p : ByteArray) => p) true k s long (⟨#[]⟩ : ByteArray) = _ from this]
  cases fst1 m s <;> rfl
theorem piFirst_l0 (s : ByteArray) (hs : okS s) (h9 : s.size ≤ 900) (m : Nat) (hm : m ≤ 900) (ih : ∀ c : Int, isP c → Ev (fun k => spec_piFirst.f k (s ++ ⟨#[toB c]⟩) (m : Int)) (told (fst1 m (s ++ ⟨#[toB c]⟩)))) : ∀ (d i : Nat), i + d = 9 →
    Ev (fun k => spec_piFirst.l0 k s ((m + 1 : Nat) : Int) (49 + (i : Int))) (told (((pts.drop i).filter (goes (bl s))).findSome? fun c => fst1 m (s ++ ⟨#[toB c]⟩)))
  | 0, i, hi => by
    obtain rfl : i = 9 := by omega
    apply Ev.succ; simp only [spec_piFirst.l0]
    exact Ev.neg (by decide) (Ev.const rfl)
  | d + 1, i, hi => by
    obtain ⟨q1, q2⟩ := pts_at i (by omega)
    have e1 : (49 + (i : Int) + 1) % 256 = 49 + ((i + 1 : Nat) : Int) := by omega
    have e2 : wrap64 (((m + 1 : Nat) : Int) - 1) = (m : Int) := by rw [wrap_id (by omega) (by omega)]; omega
    have pg := piGoes_ev s _ (49 + (i : Int)) (by omega) hs.1 (last_bt s hs.1)
    have go := piFirst_l0 s hs h9 m hm ih d (i + 1) (by omega)
    rw [q2, List.filter_cons]
    apply Ev.succ; simp only [spec_piFirst.l0, e1, e2]
    refine Ev.pos (by omega) (Ev.bind pg ?_)
    show Ev (fun k => if goes (bl s) (49 + (i : Int)) = true then _ else _) _
    cases hg : goes (bl s) (49 + (i : Int)) with
    | true =>
      rw [if_pos rfl, List.findSome?_cons]
      have hz : s.size + (Utf8.encode (wrap32 (49 + (i : Int)))).size ≤ 9223372036854775807 := by
        rw [bl_len (Utf8.encode _), enc_pt i (by omega), List.length_singleton]; omega
      refine Ev.pos rfl (Ev.pos hz ?_)
      rw [enc_toB i (by omega)]
      refine Ev.bind (ih (49 + (i : Int)) ⟨by omega, by omega⟩) ?_
      cases fst1 m (s ++ ⟨#[toB (49 + (i : Int))]⟩) with
      | some r => exact Ev.pos rfl (Ev.now _)
      | none => exact Ev.neg (by simp [told]) go
    | false =>
      rw [if_neg (by decide)]
      exact Ev.neg (by decide) go
theorem piFirst_ev : ∀ (m : Nat) (s : ByteArray), okS s → s.size + m ≤ 900 → Ev (fun k => spec_piFirst.f k s (m : Int)) (told (fst1 m s))
  | 0, s, hs, h9 => by
    apply Ev.succ; simp only [spec_piFirst.f]
    exact Ev.pos (by omega) (Ev.now _)
  | m + 1, s, hs, h9 => by
    have go := piFirst_l0 s hs (by omega) m (by omega) (fun c hc => piFirst_ev m (s ++ ⟨#[toB c]⟩) (okS_ext s hc) (by rw [ext_size]; omega)) 9 0 (by omega)
    apply Ev.succ; simp only [spec_piFirst.f]
    exact Ev.neg (by omega) go
end Go.Proofs.YtjjmbinhagaifaaDoor

/- FnExactFirstDrawn: both sides tell the same pattern: over the functions that the walk computes. -/
namespace Go.Proofs.YtjjmbinhagaifaaDoor
open Go.RowKit Go.Proofs.YtjjmbinhagaifaaDoor.P Go.Proofs.YtjjmbinhagaifaaDoorW.PrintWords
set_option linter.unusedSimpArgs false
set_option linter.unusedVariables false
namespace FirstDrawn
theorem both (s : ByteArray) (hs : s.size ≤ 1048576) (long : Int) : ∃ r : ByteArray × Bool, Ev (fun k => spec_FirstDrawn.f k s long) r ∧ Ev (fun k => impl_FirstDrawn.f k s long) r := by
  unfold spec_FirstDrawn.f impl_FirstDrawn.f impl_isPoint.f spec_piStart.f
  by_cases c : (s.size : Int) = 1
  · cases h : patB (bl s) with
    | false => exact ⟨((⟨#[]⟩ : ByteArray), false), Ev.bind (a := false) (Ev.pos c (Ev.bind (piPattern_ev s hs) (by rw [h]; exact Ev.no (Ev.now _)))) (Ev.no (Ev.now _)), Ev.bind (a := false) (Ev.pos c (Ev.bind (isPattern_ev s hs) (by rw [h]; exact Ev.now _))) (Ev.no (Ev.now _))⟩
    | true =>
      obtain ⟨p1, p2, p3, p4⟩ := patB_spec h
      have es : s.size = (bl s).length := rfl
      have hok : okS s := by
        refine ⟨by omega, ?_⟩
        unfold lastI
        rw [getD_at _ _ (by omega)]
        have := p3 _ (List.getElem_mem (show (bl s).length - 1 < (bl s).length by omega))
        omega
      have hpl : impl_patternLong.f long = some (decide (1 ≤ long) && decide (long ≤ 9)) := by unfold impl_patternLong.f; rw [in_eq]; rfl
      cases h2 : (decide (1 ≤ long) && decide (long ≤ 9)) with
      | false => exact ⟨((⟨#[]⟩ : ByteArray), false), Ev.bind (a := false) (Ev.pos c (Ev.bind (piPattern_ev s hs) (by rw [h]; exact Ev.yes (Ev.bindc (x := false) (by rw [l1In_eq, h2]) (Ev.now _))))) (Ev.no (Ev.now _)), Ev.bind (a := true) (Ev.pos c (Ev.bind (isPattern_ev s hs) (by rw [h]; exact Ev.now _))) (Ev.yes (Ev.bindc (x := false) (by rw [hpl, h2]) (Ev.no (Ev.now _))))⟩
      | true =>
        have h2' := h2
        simp only [Bool.and_eq_true, decide_eq_true_eq] at h2'
        have e1 : wrap64 (long - 1) = (((long - 1).toNat : Nat) : Int) := by rw [wrap_id (by omega) (by omega)]; omega
        have sp := piFirst_ev (long - 1).toNat s hok (by omega)
        have im := firstD_ev s (long - 1).toNat long hok (by omega) (by omega)
        rw [← e1] at sp
        exact ⟨told (fst1 (long - 1).toNat s), Ev.bind (a := true) (Ev.pos c (Ev.bind (piPattern_ev s hs) (by rw [h]; exact Ev.yes (Ev.bindc (x := true) (by rw [l1In_eq, h2]) (Ev.now _))))) (Ev.yes (Ev.bind sp (Ev.now _))), Ev.bind (a := true) (Ev.pos c (Ev.bind (isPattern_ev s hs) (by rw [h]; exact Ev.now _))) (Ev.yes (Ev.bindc (x := true) (by rw [hpl, h2]) (Ev.yes im)))⟩
  · exact ⟨((⟨#[]⟩ : ByteArray), false), Ev.bind (a := false) (Ev.neg c (Ev.now _)) (Ev.no (Ev.now _)), Ev.bind (a := false) (Ev.neg c (Ev.now _)) (Ev.no (Ev.now _))⟩
end FirstDrawn
open FirstDrawn in
theorem pure_FnExactFirstDrawn : PureFnExactFirstDrawn := by
  intro s long
  intros
  refine Ev.rounds (g := fun k => laws_FnExactFirstDrawn.f k s long) ?_
  unfold laws_FnExactFirstDrawn.f
  by_cases c1 : s.size ≤ 1048576
  · obtain ⟨r, hs, hi⟩ := both s c1 long
    exact Ev.neg (by omega) (Ev.bind hs (Ev.bind hi (Ev.pos rfl (Ev.neg (by simp) (Ev.now _)))))
  · exact Ev.pos (by omega) (Ev.now _)
end Go.Proofs.YtjjmbinhagaifaaDoor

namespace Go.Proofs.YtjjmbinhagaifaaDoor
open Go.RowKit Go.Proofs.YtjjmbinhagaifaaDoorW.PrintWords Go.ChangeShapes Go.WideShapes

theorem C_scalar {α : Type} {enc : α → Value} {h1 : ∀ x, (enc x).oneCell' = true} {w : World} {A : Option Addr} {l : List α} (hn : l.length ≤ 9223372036854775807)
    (hcell : 0 < l.length → ∃ ad, A = some ad ∧ ∀ j x, l[j]? = some x → w.cell? (ad.add j) = some (enc x)) : (Kd.scalar enc h1).C w A l.length l := by
  refine ⟨rfl, hn, fun hp => ?_⟩
  obtain ⟨ad, hA, hc⟩ := hcell hp
  refine ⟨ad, hA, fun j x hx => ⟨[enc x], rfl, rfl, fun i u hu => ?_⟩⟩
  match i, hu with
  | 0, hu =>
    have : enc x = u := by simpa using hu
    subst this
    show w.cell? (ad.add (j * 1 + 0)) = _
    rw [Nat.mul_one, Nat.add_zero]
    exact hc j x hx
  | i + 1, hu => simp at hu

section
variable {H : Type} {enc : TypeId × Value → H} {P : Program} {w : World} {base : Nat} {spare : Nat → Bool} {held : Bool}

/-- A cell that reads at a slice of whole numbers. -/
theorem read_ints {t e : TypeId} {k : IntKind} {fuel : Nat} {v : Value} {y : DataW H × List MemPlace} (ht : P.underlying t = some (.slice e)) (he : P.underlying e = some (.int k)) (hc : P.cellsOf e = 1)
    (hf : DataW.trod enc P w base spare held fuel t [v] = some y) :
    ∃ (A : Option Addr) (c : Nat) (l : List Int), v = .slice A l.length c ∧ l.length ≤ c ∧ (∀ x ∈ l, (Lit.int k x).wf = true) ∧ (Kd.int k).C w A l.length l := by
  rcases open_ints ht he hc hf with ⟨hcs, _⟩ | ⟨a, len, cap, zs, hcs, _, hl, hm, hz, _, hcell, hwf⟩
  · obtain rfl : v = .slice none 0 0 := by simpa using hcs
    exact ⟨none, 0, [], rfl, Nat.le_refl _, fun x hx => by simp at hx, rfl, by simp, fun h => absurd h (by simp)⟩
  · obtain rfl : v = .slice (some a) len cap := by simpa using hcs
    have hlz : len ≤ zs.length := by rw [hz]; split <;> omega
    have hlen : (zs.take len).length = len := by rw [List.length_take]; omega
    refine ⟨some a, cap, zs.take len, by rw [hlen], by rw [hlen]; exact hl, fun x hx => hwf x (List.mem_of_mem_take hx), ?_⟩
    refine C_scalar (by rw [hlen]; unfold maxLen at hm; omega) (fun hp => ⟨a, rfl, fun j x hj => ?_⟩)
    have hj' : j < len := by have := (List.getElem?_eq_some_iff.1 hj).1; rw [hlen] at this; exact this
    rw [hcell j (by omega)]
    rw [List.getElem?_take_of_lt hj'] at hj
    rw [List.getD_eq_getElem?_getD, hj]; rfl

/-- A cell that reads at a slice of strings. -/
theorem read_strs {t e : TypeId} {fuel : Nat} {v : Value} {y : DataW H × List MemPlace} (ht : P.underlying t = some (.slice e)) (he : P.underlying e = some .string) (hc : P.cellsOf e = 1)
    (hf : DataW.trod enc P w base spare held fuel t [v] = some y) :
    ∃ (A : Option Addr) (c : Nat) (l : List ByteArray), v = .slice A l.length c ∧ l.length ≤ c ∧ (∀ s ∈ l, s.size ≤ 9223372036854775807) ∧ Kd.string.C w A l.length l := by
  rcases open_strings ht he hc hf with ⟨hcs, _⟩ | ⟨a, len, cap, zs, hcs, _, hl, hm, hz, _, hcell, hwf⟩
  · obtain rfl : v = .slice none 0 0 := by simpa using hcs
    exact ⟨none, 0, [], rfl, Nat.le_refl _, fun x hx => by simp at hx, rfl, by simp, fun h => absurd h (by simp)⟩
  · obtain rfl : v = .slice (some a) len cap := by simpa using hcs
    have hlz : len ≤ zs.length := by rw [hz]; split <;> omega
    have hlen : (zs.take len).length = len := by rw [List.length_take]; omega
    refine ⟨some a, cap, zs.take len, by rw [hlen], by rw [hlen]; exact hl, fun x hx => by have := hwf x (List.mem_of_mem_take hx); unfold maxLen at this; omega, ?_⟩
    refine C_scalar (by rw [hlen]; unfold maxLen at hm; omega) (fun hp => ⟨a, rfl, fun j x hj => ?_⟩)
    have hj' : j < len := by have := (List.getElem?_eq_some_iff.1 hj).1; rw [hlen] at this; exact this
    rw [hcell j (by omega)]
    rw [List.getElem?_take_of_lt hj'] at hj
    rw [List.getD_eq_getElem?_getD, hj]; rfl

theorem read_int {t : TypeId} {k : IntKind} {fuel : Nat} {v : Value} {y : DataW H × List MemPlace} (ht : P.underlying t = some (.int k))
    (hf : DataW.trod enc P w base spare held fuel t [v] = some y) : ∃ n : Int, v = .int k n ∧ (Lit.int k n).wf = true := by
  obtain ⟨n, e1, _, h⟩ := DataW.trod_int ht hf
  exact ⟨n, by simpa using e1, h⟩
end

/-- The cells of a datum that holds numbers alone, an array's elements being numbers or structs of numbers. -/
def litsOf : DataW Unit → List Value
  | .lit (.int k n) => [.int k n]
  | .agg l => l.flatMap fun
    | .lit (.int k n) => [.int k n]
    | .agg l2 => l2.flatMap fun
      | .lit (.int k n) => [.int k n]
      | _ => []
    | _ => []
  | _ => []
end Go.Proofs.YtjjmbinhagaifaaDoor

/- FnExactFirstDrawnCardSaid: the law 'FnExactFirstDrawn' answers true for every input, and leaves its arguments as they were. The row and its tied card, over the walk of its calls and the pure statement. -/
namespace Go.Proofs.YtjjmbinhagaifaaDoor.fnExactFirstDrawn
open Go.ChangeShapes Go.WideShapes Go.ChangeAt Go.RowKit Go.Proofs.YtjjmbinhagaifaaDoor.P Go.Proofs.YtjjmbinhagaifaaDoorW.PrintWords
open Go.ChangeMaps (open_string shut_string)
set_option linter.unusedVariables false
theorem own : ownKnob Tryd.prog.godebug = none := by kernel_rfl
/-- What the row lists of package-level variables. -/
noncomputable def laidList : List (String × DataW Unit) := [("unicode/utf8.acceptRanges", Rows.laid_unicode_utf8_acceptRanges), ("unicode/utf8.first", Rows.laid_unicode_utf8_first)]
/-- A world that meets it: the settled one, the listed variables laid. -/
noncomputable def laidWorld (os : Os) : World :=
  let w0 := World.holding Tryd.prog os ⟨#[], #[], []⟩
  { w0 with heap := ((w0.heap.modify 2 fun o => match o with | .cells _ t frozen => .cells (litsOf Rows.laid_unicode_utf8_acceptRanges).toArray t frozen | o => o).modify 1 fun o => match o with | .cells _ t frozen => .cells (litsOf Rows.laid_unicode_utf8_first).toArray t frozen | o => o) }
theorem laidWorld_met (os : Os) (args : Array Value) : laidMetH Tryd.prog laidList ((laidWorld os).forCall (fun _ _ => 0) ⟨#[], args, []⟩).memory :=
  laidMetH_of_parts3 (fuel := 8) (laidMet_of_run' 8 (by kernel_rfl) (by kernel_rfl)) (by kernel_rfl) (by kernel_rfl)
set_option maxRecDepth 100000 in
theorem lifted (os : Os) (started : os.Started) (H : Type) (enc : TypeId × Value → H) :
    ReturnsInHanded {} Tryd.checked os 4 .any (fun w args => (Rows.fnExactFirstDrawnSpec.pre enc Tryd.prog Tryd.f4 [] false w args ∧ laidMetH Tryd.prog laidList w) ∧ sizedMet enc Tryd.prog Tryd.f4 (OpenSpec.ofChange Rows.fnExactFirstDrawnSpec) false w args)
      (Rows.fnExactFirstDrawnSpec.post enc Tryd.prog Tryd.f4 false true false false) := by
  refine returnsInHanded_of_change_and (C := Tryd.checked) (X := fun w _ => laidMetH Tryd.prog laidList w) (fun _ _ _ hh h => h.of_heap hh) own started (by kernel_rfl) Tryd.func4
    (ChangeSpec.witness_at (enc := enc) (C := Tryd.checked) (os := os) (X := fun w _ => laidMetH Tryd.prog laidList w) false (laidWorld os) #[.string ByteArray.empty, .int .i64 0] 8 rfl (by kernel_rfl) (by kernel_rfl) (by kernel_rfl) (by kernel_rfl) (by kernel_rfl) (laidWorld_met os _)) ?_
  intro W base args ds gs before hval0 hW _ _ hL _
  have hval : ∀ (j : Nat) t v, Tryd.f4.params[j]? = some t → args[j]? = some v → Value.okWide Tryd.prog W .any base t v := hval0
  have hW' := hW
  obtain ⟨p, q, hA0, hV, rfl, hfz, hnd⟩ := hW
  have hA : DataW.TrodAll enc Tryd.prog W 0 (fun _ => true) true Tryd.f4.params.toList args.toList ds p := hA0
  rw [Tryd.params4] at hA hval
  obtain ⟨v0, vs0, d0, ds0, p0, q0, hargs, rfl, rfl, h0, r0⟩ := trodAll_cons hA
  obtain ⟨v1, vs1, d1, ds1, p1, q1, rfl, rfl, rfl, h1, r1⟩ := trodAll_cons r0
  obtain ⟨rfl, rfl, rfl⟩ := trodAll_nil r1
  obtain rfl : args = #[v0, v1] := by cases args; simp_all
  obtain ⟨rfl, rfl⟩ := trodVars_none hV
  obtain ⟨a0, rfl, rfl, rfl, y0⟩ := open_string Tryd.underlying9 (hval 0 9 v0 rfl rfl) h0
  have z0 : a0.size ≤ 9223372036854775807 := by unfold maxLen at y0; omega
  obtain ⟨a1, rfl, rfl, rfl, w1⟩ := open_int Tryd.underlying3 (hval 1 3 v1 rfl rfl) h1
  clear hA0 hval0
  simp only [List.append_nil] at hW'
  obtain ⟨k, hk⟩ := pure_FnExactFirstDrawn a0 a1 z0 w1
  refine (laws_FnExactFirstDrawn.calls k a0 a1 true W  hk).mono fun e W' ⟨he, bel0⟩ => ?_
  have bel : Below W.heap.size W W' := bel0
  subst he
  exact ⟨_, rfl, _, _, _, [], _, [], hW', trodAll_mk1 (shut_bool Tryd.underlying4 _), (trodAll_cons_mk (shut_string Tryd.underlying9 y0) (trodAll_cons_mk (shut_int Tryd.underlying3 w1) trodAll_mk0)), rfl, bel.frame _, fun h => by cases h⟩
theorem over : Rows.fnExactFirstDrawnRow.holds Tryd.pinned (OpenSpec.ofChange Rows.fnExactFirstDrawnSpec) :=
  OpenClaim.holds_of_wide 4 Tryd.f4 rfl rfl rfl rfl rfl rfl rfl ⟨rfl, rfl, rfl, rfl, rfl⟩ rfl rfl rfl rfl rfl (by kernel_rfl) Tryd.func4 (by kernel_rfl)
    (of_decide_eq_true (by kernel_rfl)) (by unfold Func.isWrapper; first | (rw [if_pos (by decide +kernel)]; kernel_rfl) | (rw [if_neg (by decide +kernel)]; exact ⟨rfl, rfl⟩))
    (fun os started H enc _ => lifted os started H enc)
theorem proved : Rows.FnExactFirstDrawnSaid := over
theorem card : Rows.FnExactFirstDrawnCardSaid :=
  Claim7.holds_tied_plain_at .later [] [.data, .pinned] true (true, "b9d15427ed251242a914b83faedb5cb33e9c8a368ba58045d4002b94443799b4") false
    proved (fun _ h => by cases h) (by kernel_rfl) (fun _ h => by cases h) fnExactFirstDrawn_row_tie rfl ⟨rfl, rfl⟩ (by kernel_rfl) rfl
    (fun f fn hf hfn => by
      obtain rfl : f = 4 := Option.some.inj ((show Tryd.prog.funcNamed "loop.example/g01350/laws.FnExactFirstDrawn" = some 4 by kernel_rfl).symm.trans hf) |>.symm
      obtain rfl : fn = Tryd.f4 := (Option.some.inj (Tryd.func4.symm.trans hfn)).symm
      exact ⟨by kernel_rfl, fun j t ht => by
        rw [Tryd.params4] at ht
        have hm : t ∈ #[9, 3] := Array.mem_of_getElem? ht
        have hm : t ∈ [9, 3] := by simpa using hm
        have hall : ([9, 3].all fun u => !Tryd.prog.wantsStandIn u) = true := by kernel_rfl
        exact (show Tryd.prog.wantsStandIn t = false by simpa using List.all_eq_true.1 hall t hm)⟩)
    (by kernel_rfl)
#print axioms card
end Go.Proofs.YtjjmbinhagaifaaDoor.fnExactFirstDrawn
namespace Go.Proofs.YtjjmbinhagaifaaDoor
theorem fnExactFirstDrawn_holds : Rows.FnExactFirstDrawnCardSaid := fnExactFirstDrawn.card
end Go.Proofs.YtjjmbinhagaifaaDoor

