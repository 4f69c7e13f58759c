/- Part 3 of 3 of the proof of: FnExactNumberOfRankCardSaid: the law 'FnExactNumberOfRank' answers true for every input, and leaves its arguments as they were. The row and its tied card, over the walk of its calls and the pure statement. -/
import Derived.Test.YtbichbiiephmhaaDoorMFnExactNumberOfRank1
import Derived.Test.YtbichbiiephmhaaDoorMFnExactNumberOfRank2
import Derived.Test.YtbichbiiephmhaaDoorWWords
import Derived.Test.YtbichbiiephmhaaDoorWMore
import Derived.Laws.Strings
import Derived.Lib.SlTrimSet
import Derived.Lib.Bytealg
import Derived.WalkKit
import Derived.ProofKit
import Derived.OpenShut
import Derived.ShutString
import Derived.ChangeOld
import Derived.Below
import Derived.SizedLaws
import Derived.ChangeSlices
import Derived.SliceStrings
import Derived.Lib.SmallJoins
import Derived.LaidLaws
import Derived.LaidHandle
import Derived.LaidMore
import Derived.Test.YtbichbiiephmhaaDoorRows
import Derived.Test.YtbichbiiephmhaaDoorCards
import Derived.Test.YtbichbiiephmhaaDoorTie
import Derived.Handed
import Derived.SevenTiedAt
import Derived.Stop.Joined
-- printed by xprint.py
namespace Go.Proofs.YtbichbiiephmhaaDoor.P
open Go.RowKit Go.Proofs.YtbichbiiephmhaaDoorW.PrintWords Go.Proofs.YtbichbiiephmhaaDoorW.PrintLast Go.Proofs.YtbichbiiephmhaaDoorW.PrintMore
attribute [local go_sem] max2_int min2_int max_two min_two max_three min_three max_four min_four   -- for this text's walks alone
set_option linter.unusedVariables false
set_option linter.unusedSimpArgs false

/-! ### spec_NumberOfRank: function 29 -/
mutual
def spec_NumberOfRank.j0 : Nat → ByteArray → ByteArray → Int → Int → Bool → Option (ByteArray × Bool)
  | 0, _, _, _, _, _ => none
  | k + 1, x0, x1, x2, x3, x36 => if x36 = true then (some ((⟨#[]⟩ : ByteArray), false)) else ((spec_wkTable.f k x0 (wrap64 (x2 - 1)) 0).bind fun t103 => (if 0 < (x1.size : Int) then (spec_NumberOfRank.l0 k x0 x3 t103 x1 (bt x1 0) (wrap64 (x2 - 2))) else (none)))
def spec_NumberOfRank.l0 : Nat → ByteArray → Int → List (List Int) → ByteArray → Int → Int → Option (ByteArray × Bool)
  | 0, _, _, _, _, _, _ => none
  | k + 1, x0, x3, x12, x13, x14, x15 => if x15 ≥ 0 then ((spec_wkNext.f k x0 x14).bind fun t106 => (spec_NumberOfRank.l1 k x0 x3 x12 x13 x14 x15 t106 0)) else (some (x13, true))
def spec_NumberOfRank.l1 : Nat → ByteArray → Int → List (List Int) → ByteArray → Int → Int → ByteArray → Int → Option (ByteArray × Bool)
  | 0, _, _, _, _, _, _, _, _ => none
  | k + 1, x0, x3, x12, x13, x14, x15, x16, x17 => if x17 < (x16.size : Int) then (if 0 ≤ x15 then (if x15 < (x12.length : Int) then (if 0 ≤ x17 then (if 0 ≤ (((bt x16 x17) - 48) % 256) then (if (((bt x16 x17) - 48) % 256) < ((rd_L4 x12 x15).length : Int) then (if x3 < (rd (rd_L4 x12 x15) (((bt x16 x17) - 48) % 256)) then (if x13.size + (Utf8.encode (wrap32 (bt x16 x17))).size ≤ 9223372036854775807 then (spec_NumberOfRank.l0 k x0 x3 x12 (x13 ++ (Utf8.encode (wrap32 (bt x16 x17)))) (bt x16 x17) (wrap64 (x15 - 1))) else (none)) else (spec_NumberOfRank.l1 k x0 (wrap64 (x3 - (rd (rd_L4 x12 x15) (((bt x16 x17) - 48) % 256)))) x12 x13 x14 x15 x16 (wrap64 (x17 + 1)))) else (none)) else (none)) else (none)) else (none)) else (none)) else (if x13.size + (Utf8.encode (wrap32 (x14))).size ≤ 9223372036854775807 then (spec_NumberOfRank.l0 k x0 x3 x12 (x13 ++ (Utf8.encode (wrap32 (x14)))) x14 (wrap64 (x15 - 1))) else (none))
end
def spec_NumberOfRank.f (k : Nat) (a0 : ByteArray) (a1 : ByteArray) (a2 : Int) (a3 : Int) : Option (ByteArray × Bool) := (spec_CountNumbers.f k a0 a1 a2).bind fun bt101 => (if bt101.2 = true then (if a3 < 0 then (spec_NumberOfRank.j0 k a0 a1 a2 a3 true) else (spec_NumberOfRank.j0 k a0 a1 a2 a3 (decide (a3 ≥ bt101.1)))) else (spec_NumberOfRank.j0 k a0 a1 a2 a3 true))
theorem spec_NumberOfRank.mono_l : ∀ k, (∀ y0 y1 y2 y3 y4, LeO (spec_NumberOfRank.j0 k y0 y1 y2 y3 y4) (spec_NumberOfRank.j0 (k + 1) y0 y1 y2 y3 y4)) ∧ (∀ y0 y1 y2 y3 y4 y5, LeO (spec_NumberOfRank.l0 k y0 y1 y2 y3 y4 y5) (spec_NumberOfRank.l0 (k + 1) y0 y1 y2 y3 y4 y5)) ∧ (∀ y0 y1 y2 y3 y4 y5 y6 y7, LeO (spec_NumberOfRank.l1 k y0 y1 y2 y3 y4 y5 y6 y7) (spec_NumberOfRank.l1 (k + 1) y0 y1 y2 y3 y4 y5 y6 y7))
  | 0 => ⟨fun _ _ _ _ _ r h => by simp [spec_NumberOfRank.j0] at h, fun _ _ _ _ _ _ r h => by simp [spec_NumberOfRank.l0] at h, fun _ _ _ _ _ _ _ _ r h => by simp [spec_NumberOfRank.l1] at h⟩
  | k + 1 => by
    obtain ⟨ih0, ih1, ih2⟩ := spec_NumberOfRank.mono_l k
    refine ⟨?_, ?_, ?_⟩
    · intro y0 y1 y2 y3 y4
      unfold spec_NumberOfRank.j0
      repeat' first
      | (with_reducible exact ih0 _ _ _ _ _)
      | (with_reducible exact ih1 _ _ _ _ _ _)
      | (with_reducible exact ih2 _ _ _ _ _ _ _ _)
      | (with_reducible exact spec_CountNumbers.mono _ _ _ _)
      | (with_reducible exact spec_wkNext.mono _ _ _)
      | (with_reducible exact spec_wkTable.mono _ _ _ _)
      | (with_reducible exact LeO.refl _)
      | (with_reducible exact LeO.none _)
      | (with_reducible refine LeO.ite ?_ ?_)
      | (with_reducible refine LeO.bind ?_ (fun _ => ?_))
      | exact ih0 _ _ _ _ _
      | exact ih1 _ _ _ _ _ _
      | exact ih2 _ _ _ _ _ _ _ _
      | exact spec_CountNumbers.mono _ _ _ _
      | exact spec_wkNext.mono _ _ _
      | exact spec_wkTable.mono _ _ _ _
      | exact LeO.none _
      | refine LeO.ite ?_ ?_
      | refine LeO.bind ?_ (fun _ => ?_)
    · intro y0 y1 y2 y3 y4 y5
      unfold spec_NumberOfRank.l0
      repeat' first
      | (with_reducible exact ih0 _ _ _ _ _)
      | (with_reducible exact ih1 _ _ _ _ _ _)
      | (with_reducible exact ih2 _ _ _ _ _ _ _ _)
      | (with_reducible exact spec_CountNumbers.mono _ _ _ _)
      | (with_reducible exact spec_wkNext.mono _ _ _)
      | (with_reducible exact spec_wkTable.mono _ _ _ _)
      | (with_reducible exact LeO.refl _)
      | (with_reducible exact LeO.none _)
      | (with_reducible refine LeO.ite ?_ ?_)
      | (with_reducible refine LeO.bind ?_ (fun _ => ?_))
      | exact ih0 _ _ _ _ _
      | exact ih1 _ _ _ _ _ _
      | exact ih2 _ _ _ _ _ _ _ _
      | exact spec_CountNumbers.mono _ _ _ _
      | exact spec_wkNext.mono _ _ _
      | exact spec_wkTable.mono _ _ _ _
      | exact LeO.none _
      | refine LeO.ite ?_ ?_
      | refine LeO.bind ?_ (fun _ => ?_)
    · intro y0 y1 y2 y3 y4 y5 y6 y7
      unfold spec_NumberOfRank.l1
      repeat' first
      | (with_reducible exact ih0 _ _ _ _ _)
      | (with_reducible exact ih1 _ _ _ _ _ _)
      | (with_reducible exact ih2 _ _ _ _ _ _ _ _)
      | (with_reducible exact spec_CountNumbers.mono _ _ _ _)
      | (with_reducible exact spec_wkNext.mono _ _ _)
      | (with_reducible exact spec_wkTable.mono _ _ _ _)
      | (with_reducible exact LeO.refl _)
      | (with_reducible exact LeO.none _)
      | (with_reducible refine LeO.ite ?_ ?_)
      | (with_reducible refine LeO.bind ?_ (fun _ => ?_))
      | exact ih0 _ _ _ _ _
      | exact ih1 _ _ _ _ _ _
      | exact ih2 _ _ _ _ _ _ _ _
      | exact spec_CountNumbers.mono _ _ _ _
      | exact spec_wkNext.mono _ _ _
      | exact spec_wkTable.mono _ _ _ _
      | exact LeO.none _
      | refine LeO.ite ?_ ?_
      | refine LeO.bind ?_ (fun _ => ?_)
theorem spec_NumberOfRank.mono : ∀ a0 a1 a2 a3 k, LeO (spec_NumberOfRank.f k a0 a1 a2 a3) (spec_NumberOfRank.f (k + 1) a0 a1 a2 a3) := by
  intro a0 a1 a2 a3 k
  obtain ⟨ih0, ih1, ih2⟩ := spec_NumberOfRank.mono_l k
  unfold spec_NumberOfRank.f
  repeat' first
      | (with_reducible exact ih0 _ _ _ _ _)
      | (with_reducible exact ih1 _ _ _ _ _ _)
      | (with_reducible exact ih2 _ _ _ _ _ _ _ _)
      | (with_reducible exact spec_CountNumbers.mono _ _ _ _)
      | (with_reducible exact spec_wkNext.mono _ _ _)
      | (with_reducible exact spec_wkTable.mono _ _ _ _)
      | (with_reducible exact LeO.refl _)
      | (with_reducible exact LeO.none _)
      | (with_reducible refine LeO.ite ?_ ?_)
      | (with_reducible refine LeO.bind ?_ (fun _ => ?_))
      | exact ih0 _ _ _ _ _
      | exact ih1 _ _ _ _ _ _
      | exact ih2 _ _ _ _ _ _ _ _
      | exact spec_CountNumbers.mono _ _ _ _
      | exact spec_wkNext.mono _ _ _
      | exact spec_wkTable.mono _ _ _ _
      | exact LeO.none _
      | refine LeO.ite ?_ ?_
      | refine LeO.bind ?_ (fun _ => ?_)
set_option maxHeartbeats 8000000 in
set_option maxRecDepth 100000 in
theorem spec_NumberOfRank.calls (k : Nat) (a0 : ByteArray) (a1 : ByteArray) (a2 : Int) (a3 : Int) (r1 : ByteArray) (r2 : Bool) (w : World) (h : spec_NumberOfRank.f k a0 a1 a2 a3 = some (r1, r2)) :
    Calls Tryd.prog 29 #[.string a0, .string a1, .int .i64 a2, .int .i64 a3] w fun e w' => e = .returned (.tuple #[.string r1, .bool r2]) ∧ Below w.heap.size w w' := by
  have HB := Aside0.mk (Below.refl w.heap.size w)
  have H : ((spec_CountNumbers.f k a0 a1 a2).bind fun bt101 => (if bt101.2 = true then (if a3 < 0 then (spec_NumberOfRank.j0 k a0 a1 a2 a3 true) else (spec_NumberOfRank.j0 k a0 a1 a2 a3 (decide (a3 ≥ bt101.1)))) else (spec_NumberOfRank.j0 k a0 a1 a2 a3 true))) = some (r1, r2) := h
  clear h
  replace H := Option.bind_eq_some_iff.mp H
  obtain ⟨⟨t101, t102⟩, A50, H⟩ := H
  replace H : (if t102 = true then (if a3 < 0 then (spec_NumberOfRank.j0 k a0 a1 a2 a3 true) else (spec_NumberOfRank.j0 k a0 a1 a2 a3 (decide (a3 ≥ t101)))) else (spec_NumberOfRank.j0 k a0 a1 a2 a3 true)) = some (r1, r2) := H
  have A5 := Aside0.mk A50
  clear A50
  have HC6 := Aside0.mk H
  clear H
  go_enter Tryd.func29, Tryd.ntmps29
  go_upto_region 2 with (first | (go_at_call 23; (with_reducible refine (spec_CountNumbers.calls k a0 a1 a2 t101 t102 _ A5.out).mono ?_); rintro e w7 ⟨rfl, hb⟩; have n0_ := Aside0.mk (below_step (by repeat (first | (with_reducible first | exact HB.out | apply below_alloc | apply pw_below_drewN | apply below_drew1) | exact HB.out)) hb); clear HB; have HB := n0_; clear n0_; (try clear hb); (try clear hb2); (try clear hk); (try clear hi)))
  repeat (go_quiet (first | (go_at_call 23; (with_reducible refine (spec_CountNumbers.calls k a0 a1 a2 t101 t102 _ A5.out).mono ?_); rintro e w7 ⟨rfl, hb⟩; have n0_ := Aside0.mk (below_step (by repeat (first | (with_reducible first | exact HB.out | apply below_alloc | apply pw_below_drewN | apply below_drew1) | exact HB.out)) hb); clear HB; have HB := n0_; clear n0_; (try clear hb); (try clear hb2); (try clear hk); (try clear hi))); go_upto_region 2 with (first | (go_at_call 23; (with_reducible refine (spec_CountNumbers.calls k a0 a1 a2 t101 t102 _ A5.out).mono ?_); rintro e w7 ⟨rfl, hb⟩; have n0_ := Aside0.mk (below_step (by repeat (first | (with_reducible first | exact HB.out | apply below_alloc | apply pw_below_drewN | apply below_drew1) | exact HB.out)) hb); clear HB; have HB := n0_; clear n0_; (try clear hb); (try clear hb2); (try clear hk); (try clear hi))))
  (try simp only [Act.put, List.setIfInBounds_toArray, List.set_cons_zero, List.set_cons_succ])
  go_cut [36] (fun v36 wc => ∃ (kq : Nat) (x36_5 : Bool), v36 = .bool x36_5 ∧ Aside0 (spec_NumberOfRank.j0 kq a0 a1 a2 a3 x36_5 = some (r1, r2)) ∧ Aside0 (kq ≤ k) ∧ Aside0 (Below w.heap.size w wc))
  case first =>
    have H := HC6.out
    clear HC6
    by_cases c8 : t102 = true
    · subst c8
      have H1 : (if a3 < 0 then (spec_NumberOfRank.j0 k a0 a1 a2 a3 true) else (spec_NumberOfRank.j0 k a0 a1 a2 a3 (decide (a3 ≥ t101)))) = some (r1, r2) := by rw [if_pos rfl] at H; exact H
      clear H
      have H := H1
      clear H1
      by_cases c9 : a3 < 0
      · rw [if_pos c9] at H
        have c9b0 : decide (a3 < 0) = true := decide_eq_true c9
        clear c9
        (first | rw [c9b0] | (simp only [i64_w, i32_w]; rw [c9b0]) | skip)
        have H' := Aside0.mk H
        clear H
        go_wp2
        repeat (go_quiet (fail); try go_wp2)
        go_meet
        case rel => exact ⟨_, (true), (by first | rfl | (simp; done) | (simp [*]; done)), H', ⟨by first | omega | exact Nat.le_refl _⟩, ⟨by repeat (first | (with_reducible first | exact HB.out | apply below_alloc | apply pw_below_drewN | apply below_drew1) | exact HB.out)⟩⟩
      · rw [if_neg c9] at H
        have c9b0 : decide (a3 < 0) = false := decide_eq_false c9
        clear c9
        (first | rw [c9b0] | (simp only [i64_w, i32_w]; rw [c9b0]) | skip)
        have H' := Aside0.mk H
        clear H
        go_wp2
        repeat (go_quiet (fail); try go_wp2)
        go_meet
        case rel => exact ⟨_, (decide (a3 ≥ t101)), (by first | rfl | (simp; done) | (simp [*]; done)), H', ⟨by first | omega | exact Nat.le_refl _⟩, ⟨by repeat (first | (with_reducible first | exact HB.out | apply below_alloc | apply pw_below_drewN | apply below_drew1) | exact HB.out)⟩⟩
    · replace c8 := Bool.eq_false_iff.mpr c8
      subst c8
      have H1 : (spec_NumberOfRank.j0 k a0 a1 a2 a3 true) = some (r1, r2) := by rw [if_neg (show ¬ (false = true) by decide)] at H; exact H
      clear H
      have H := H1
      clear H1
      have H' := Aside0.mk H
      clear H
      go_wp2
      repeat (go_quiet (fail); try go_wp2)
      go_meet
      case rel => exact ⟨_, (true), (by first | rfl | (simp; done) | (simp [*]; done)), H', ⟨by first | omega | exact Nat.le_refl _⟩, ⟨by repeat (first | (with_reducible first | exact HB.out | apply below_alloc | apply pw_below_drewN | apply below_drew1) | exact HB.out)⟩⟩
  case rest =>
    clear HC6
    try clear c2
    try clear p2
    try clear c8
    try clear c9
    try clear c9b0
    obtain ⟨kq, x36_5, rfl, HA, HJ5, HB⟩ := hcut
    cases kq with
    | zero => exact absurd HA.out (by simp [spec_NumberOfRank.j0])
    | succ kj5 =>
      have H := HA.out
      clear HA
      simp only [spec_NumberOfRank.j0] at H
      by_cases c10 : x36_5 = true
      · subst c10
        have H1 : (some ((⟨#[]⟩ : ByteArray), false)) = some (r1, r2) := by rw [if_pos rfl] at H; exact H
        clear H
        have H := H1
        clear H1
        simp only [Option.some.injEq, Prod.mk.injEq] at H
        obtain ⟨rfl, rfl⟩ := H
        go_wp2
        repeat (go_quiet (fail); try go_wp2)
        go_ret2
        exact ⟨by first | rfl | (simp [errW_none, errW_some] <;> rfl) | (simp [*, errW_none, errW_some] <;> rfl), by repeat (first | (with_reducible first | exact HB.out | apply below_alloc | apply pw_below_drewN | apply below_drew1) | exact HB.out)⟩
      · replace c10 := Bool.eq_false_iff.mpr c10
        subst c10
        have H1 : ((spec_wkTable.f kj5 a0 (wrap64 (a2 - 1)) 0).bind fun t103 => (if 0 < (a1.size : Int) then (spec_NumberOfRank.l0 kj5 a0 a3 t103 a1 (bt a1 0) (wrap64 (a2 - 2))) else (none))) = some (r1, r2) := by rw [if_neg (show ¬ (false = true) by decide)] at H; exact H
        clear H
        have H := H1
        clear H1
        replace H := Option.bind_eq_some_iff.mp H
        obtain ⟨t103, A110, H⟩ := H
        replace H : (if 0 < (a1.size : Int) then (spec_NumberOfRank.l0 kj5 a0 a3 t103 a1 (bt a1 0) (wrap64 (a2 - 2))) else (none)) = some (r1, r2) := H
        have A11 := Aside0.mk A110
        clear A110
        by_cases c12 : 0 < (a1.size : Int)
        · rw [if_pos c12] at H
          have c12b0 : decide (0 < (a1.size : Int)) = true := decide_eq_true c12
          have c12b1 : decide (0 < a1.size) = true := decide_eq_true (by omega)
          clear c12
          have H' := Aside0.mk H
          clear H
          go_wp2_with (first | (go_at_call 59; (with_reducible refine (spec_wkTable.calls kj5 a0 (wrap64 (a2 - 1)) 0 t103 _ A11.out).mono ?_); rintro e w14 ⟨v104, rfl, ho0, hb⟩; have n0_ := Aside0.mk (Kd.S_lower ho0 (below_size (by repeat (first | (with_reducible first | exact HB.out | apply below_alloc | apply pw_below_drewN | apply below_drew1) | exact HB.out)))); have n1_ := Aside0.mk (below_step (by repeat (first | (with_reducible first | exact HB.out | apply below_alloc | apply pw_below_drewN | apply below_drew1) | exact HB.out)) hb); clear HB; have HO105 := n0_; have HB := n1_; clear n0_ n1_; (try clear hb); (try clear hb2); (try clear hk); (try clear hi); (try clear ho0); have p13 : 0 ≤ (0 : Int) := (by omega); have q13 : 0 < a1.size := (by have : (0 : Int) < (a1.size : Int) := of_decide_eq_true (by first | (with_reducible assumption) | assumption); omega); have hx13 : ∀ h : 0 < a1.size, ((a1[0]'h).toNat : Int) = bt a1 0 := bt_at a1 0; clear p13; have qi13 : (0 < (a1.size : Int)) = True := eq_true (of_decide_eq_true (by first | (with_reducible assumption) | assumption)); replace q13 := eq_true q13))
          repeat (go_quiet (first | (go_at_call 59; (with_reducible refine (spec_wkTable.calls kj5 a0 (wrap64 (a2 - 1)) 0 t103 _ A11.out).mono ?_); rintro e w14 ⟨v104, rfl, ho0, hb⟩; have n0_ := Aside0.mk (Kd.S_lower ho0 (below_size (by repeat (first | (with_reducible first | exact HB.out | apply below_alloc | apply pw_below_drewN | apply below_drew1) | exact HB.out)))); have n1_ := Aside0.mk (below_step (by repeat (first | (with_reducible first | exact HB.out | apply below_alloc | apply pw_below_drewN | apply below_drew1) | exact HB.out)) hb); clear HB; have HO105 := n0_; have HB := n1_; clear n0_ n1_; (try clear hb); (try clear hb2); (try clear hk); (try clear hi); (try clear ho0); have p13 : 0 ≤ (0 : Int) := (by omega); have q13 : 0 < a1.size := (by have : (0 : Int) < (a1.size : Int) := of_decide_eq_true (by first | (with_reducible assumption) | assumption); omega); have hx13 : ∀ h : 0 < a1.size, ((a1[0]'h).toNat : Int) = bt a1 0 := bt_at a1 0; clear p13; have qi13 : (0 < (a1.size : Int)) = True := eq_true (of_decide_eq_true (by first | (with_reducible assumption) | assumption)); replace q13 := eq_true q13)); try go_wp2_with (first | (go_at_call 59; (with_reducible refine (spec_wkTable.calls kj5 a0 (wrap64 (a2 - 1)) 0 t103 _ A11.out).mono ?_); rintro e w14 ⟨v104, rfl, ho0, hb⟩; have n0_ := Aside0.mk (Kd.S_lower ho0 (below_size (by repeat (first | (with_reducible first | exact HB.out | apply below_alloc | apply pw_below_drewN | apply below_drew1) | exact HB.out)))); have n1_ := Aside0.mk (below_step (by repeat (first | (with_reducible first | exact HB.out | apply below_alloc | apply pw_below_drewN | apply below_drew1) | exact HB.out)) hb); clear HB; have HO105 := n0_; have HB := n1_; clear n0_ n1_; (try clear hb); (try clear hb2); (try clear hk); (try clear hi); (try clear ho0); have p13 : 0 ≤ (0 : Int) := (by omega); have q13 : 0 < a1.size := (by have : (0 : Int) < (a1.size : Int) := of_decide_eq_true (by first | (with_reducible assumption) | assumption); omega); have hx13 : ∀ h : 0 < a1.size, ((a1[0]'h).toNat : Int) = bt a1 0 := bt_at a1 0; clear p13; have qi13 : (0 < (a1.size : Int)) = True := eq_true (of_decide_eq_true (by first | (with_reducible assumption) | assumption)); replace q13 := eq_true q13)))
          go_loopg [3, 13, 14, 15] kj5 (fun kq v3 v13 v14 v15 w' => ∃ (x3_2 : Int) (x13_2 : ByteArray) (x14_2 : Int) (x15_2 : Int), v3 = .int .i64 x3_2 ∧ v13 = .string x13_2 ∧ v14 = .int .u8 x14_2 ∧ v15 = .int .i64 x15_2 ∧ Aside0 (spec_NumberOfRank.l0 kq a0 x3_2 t103 x13_2 x14_2 x15_2 = some (r1, r2)) ∧ Aside0 (kq ≤ kj5) ∧ Aside0 (Kd.S (Kd.slice 3 (Kd.int .i64)) 46 w' w.heap.size (fun _ => True) v104 t103) ∧ Aside0 (Below w.heap.size w w'))
          case atStart => exact ⟨(a3), (a1), (bt a1 0), (wrap64 (a2 - 2)), (by first | rfl | (simp; done) | (simp [*]; done)), (by first | rfl | (simp; done) | (simp [*]; done)), (by first | rfl | (simp; done) | (simp [*]; done)), (by first | rfl | (simp; done) | (simp [*]; done)), H', ⟨Nat.le_refl _⟩, ⟨by (with_reducible repeat (first | apply Kd.S_alloc | apply Kd.S_drewN | apply Kd.S_drew)); exact HO105.out⟩, ⟨by repeat (first | (with_reducible first | exact HB.out | apply below_alloc | apply pw_below_drewN | apply below_drew1) | exact HB.out)⟩⟩
          case round =>
            clear H'
            try clear c1
            try clear p1
            try clear q1
            try clear hx1
            try clear qi1
            try clear c2
            try clear p2
            try clear p6
            try clear c8
            try clear c9
            try clear c9b0
            try clear c10
            try clear c12
            try clear c12b0
            try clear c12b1
            try clear p13
            try clear q13
            try clear hx13
            try clear qi13
            try clear p13
            try clear p2
            try clear q13
            obtain ⟨x3_2, x13_2, x14_2, x15_2, rfl, rfl, rfl, rfl, HA, HK2, HO_12, HB⟩ := hrel
            cases gk with
            | zero => exact absurd HA.out (by simp [spec_NumberOfRank.l0])
            | succ k2 =>
              have H := HA.out
              clear HA
              simp only [spec_NumberOfRank.l0] at H
              by_cases c15 : x15_2 ≥ 0
              · rw [if_pos c15] at H
                have c15b0 : decide (0 ≤ x15_2) = true := decide_eq_true c15
                clear c15
                replace H := Option.bind_eq_some_iff.mp H
                obtain ⟨t106, A160, H⟩ := H
                replace H : (spec_NumberOfRank.l1 k2 a0 x3_2 t103 x13_2 x14_2 x15_2 t106 0) = some (r1, r2) := H
                have A16 := Aside0.mk A160
                clear A160
                have H' := Aside0.mk H
                clear H
                go_wp2_with (first | (go_at_call 42; (with_reducible refine (spec_wkNext.calls k2 a0 x14_2 t106 _ A16.out).mono ?_); rintro e w' ⟨rfl, ⟨nd, rfl⟩⟩; (try first | exact ⟨rfl, _, World.drewN_drewN _ _ _⟩ | exact ⟨rfl, _, Eq.trans (World.drewN_drewN _ _ _) (congrArg (World.drewN _) (Nat.add_assoc _ _ _))⟩)))
                repeat (go_quiet (first | (go_at_call 42; (with_reducible refine (spec_wkNext.calls k2 a0 x14_2 t106 _ A16.out).mono ?_); rintro e w' ⟨rfl, ⟨nd, rfl⟩⟩; (try first | exact ⟨rfl, _, World.drewN_drewN _ _ _⟩ | exact ⟨rfl, _, Eq.trans (World.drewN_drewN _ _ _) (congrArg (World.drewN _) (Nat.add_assoc _ _ _))⟩))); try go_wp2_with (first | (go_at_call 42; (with_reducible refine (spec_wkNext.calls k2 a0 x14_2 t106 _ A16.out).mono ?_); rintro e w' ⟨rfl, ⟨nd, rfl⟩⟩; (try first | exact ⟨rfl, _, World.drewN_drewN _ _ _⟩ | exact ⟨rfl, _, Eq.trans (World.drewN_drewN _ _ _) (congrArg (World.drewN _) (Nat.add_assoc _ _ _))⟩))))
                go_loopg [3, 14, 17] k2 (fun kq v3 v14 v17 w' => ∃ (x3_3 : Int) (x14_3 : Int) (x17_3 : Int), v3 = .int .i64 x3_3 ∧ v14 = .int .u8 x14_3 ∧ v17 = .int .i64 x17_3 ∧ Aside0 (spec_NumberOfRank.l1 kq a0 x3_3 t103 x13_2 x14_3 x15_2 t106 x17_3 = some (r1, r2)) ∧ Aside0 (kq ≤ k2) ∧ Aside0 (Kd.S (Kd.slice 3 (Kd.int .i64)) 46 w' w.heap.size (fun _ => True) v104 t103) ∧ Aside0 (Below w.heap.size w w'))
                case atStart => exact ⟨(x3_2), (x14_2), (0), (by first | rfl | (simp; done) | (simp [*]; done)), (by first | rfl | (simp; done) | (simp [*]; done)), (by first | rfl | (simp; done) | (simp [*]; done)), H', ⟨Nat.le_refl _⟩, ⟨by (with_reducible repeat (first | apply Kd.S_alloc | apply Kd.S_drewN | apply Kd.S_drew)); exact HO_12.out⟩, ⟨by repeat (first | (with_reducible first | exact HB.out | apply below_alloc | apply pw_below_drewN | apply below_drew1) | exact HB.out)⟩⟩
                case round =>
                  clear H'
                  try clear c1
                  try clear p1
                  try clear q1
                  try clear hx1
                  try clear qi1
                  try clear c2
                  try clear p2
                  try clear p6
                  try clear c8
                  try clear c9
                  try clear c9b0
                  try clear c10
                  try clear c12
                  try clear c12b0
                  try clear c12b1
                  try clear p13
                  try clear q13
                  try clear hx13
                  try clear qi13
                  try clear c15
                  try clear c15b0
                  try clear p1
                  try clear p13
                  try clear p2
                  try clear p6
                  try clear q1
                  try clear q13
                  obtain ⟨x3_3, x14_3, x17_3, rfl, rfl, rfl, HA, HK3, HO_12, HB⟩ := hrel
                  cases gk with
                  | zero => exact absurd HA.out (by simp [spec_NumberOfRank.l1])
                  | succ k3 =>
                    have H := HA.out
                    clear HA
                    simp only [spec_NumberOfRank.l1] at H
                    by_cases c17 : x17_3 < (t106.size : Int)
                    · rw [if_pos c17] at H
                      have c17b0 : decide (x17_3 < (t106.size : Int)) = true := decide_eq_true c17
                      clear c17
                      by_cases c18 : 0 ≤ x15_2
                      · rw [if_pos c18] at H
                        have c18b0 : decide (0 ≤ x15_2) = true := decide_eq_true c18
                        clear c18
                        by_cases c19 : x15_2 < (t103.length : Int)
                        · rw [if_pos c19] at H
                          have c19b0 : decide (x15_2 < (t103.length : Int)) = true := decide_eq_true c19
                          clear c19
                          by_cases c20 : 0 ≤ x17_3
                          · rw [if_pos c20] at H
                            have c20b0 : decide (0 ≤ x17_3) = true := decide_eq_true c20
                            clear c20
                            obtain ⟨ji22, hji22⟩ : ∃ j_ : Int, (((bt t106 x17_3) - 48) % 256) = j_ := ⟨_, rfl⟩
                            have huji22 : IntKind.u8.wrap ((bt t106 x17_3) - 48) = ji22 := hji22
                            replace H : (if 0 ≤ (ji22) then (if (ji22) < ((rd_L4 t103 x15_2).length : Int) then (if x3_3 < (rd (rd_L4 t103 x15_2) (ji22)) then (if x13_2.size + (Utf8.encode (wrap32 (bt t106 x17_3))).size ≤ 9223372036854775807 then (spec_NumberOfRank.l0 k3 a0 x3_3 t103 (x13_2 ++ (Utf8.encode (wrap32 (bt t106 x17_3)))) (bt t106 x17_3) (wrap64 (x15_2 - 1))) else (none)) else (spec_NumberOfRank.l1 k3 a0 (wrap64 (x3_3 - (rd (rd_L4 t103 x15_2) (ji22)))) t103 x13_2 x14_3 x15_2 t106 (wrap64 (x17_3 + 1)))) else (none)) else (none)) = some (r1, r2) := by first | (rw [hji22] at H; exact H) | (simp only [hji22] at H ⊢; exact H)
                            by_cases c23 : 0 ≤ (ji22)
                            · rw [if_pos c23] at H
                              have c23b0 : decide (0 ≤ (ji22)) = true := decide_eq_true c23
                              clear c23
                              by_cases c24 : (ji22) < ((rd_L4 t103 x15_2).length : Int)
                              · rw [if_pos c24] at H
                                have c24b0 : decide ((ji22) < ((rd_L4 t103 x15_2).length : Int)) = true := decide_eq_true c24
                                clear c24
                                by_cases c25 : x3_3 < (rd (rd_L4 t103 x15_2) (ji22))
                                · rw [if_pos c25] at H
                                  have c25b0 : decide (x3_3 < (rd (rd_L4 t103 x15_2) (ji22))) = true := decide_eq_true c25
                                  clear c25
                                  by_cases c27 : x13_2.size + (Utf8.encode (wrap32 (bt t106 x17_3))).size ≤ 9223372036854775807
                                  · rw [if_pos c27] at H
                                    have c27b0 := eq_true c27
                                    have c27b1 : decide (x13_2.size + (Utf8.encode (wrap32 (bt t106 x17_3))).size ≤ 9223372036854775807) = true := decide_eq_true c27
                                    try have c27b2 : (9223372036854775807 < x13_2.size + (Utf8.encode (wrap32 (bt t106 x17_3))).size) = False := eq_false (Nat.not_lt.2 c27)
                                    have H' := Aside0.mk H
                                    clear H
                                    obtain ⟨Ao28, co28, eo28⟩ := Kd.S_slice HO_12.out
                                    subst eo28
                                    have p107 : 0 ≤ (x15_2 : Int) := of_decide_eq_true (by first | (with_reducible assumption) | assumption)
                                    have q107 : x15_2 < (t103.length : Int) := of_decide_eq_true (by first | (with_reducible assumption) | assumption)
                                    obtain ⟨ad107, A107_0, c107_0, e107, hx107_0, hl107_0, hi107_0⟩ := at_L4 (Kd.S_reads' HO_12.out).2.2 x15_2 p107 q107
                                    cases e107
                                    obtain ⟨ce107, hce107, hMe107, hcc107⟩ := Kd.S_get HO_12.out [] x15_2 p107 (by first | exact q107 | exact of_decide_eq_true (by first | (with_reducible assumption) | assumption) | (have e_ := (Kd.S_reads' HO_12.out).1; omega))
                                    obtain ⟨ve107_0, rfl, ge107_0⟩ := hMe107
                                    have hv107_0 := hcc107 0 _ rfl
                                    rw [Nat.add_zero, show ((Kd.slice 3 (Kd.int .i64))).sz = 1 from rfl, Nat.mul_one] at hv107_0
                                    replace hv107_0 := Option.some.inj (hv107_0.symm.trans hx107_0)
                                    rw [hv107_0] at ge107_0
                                    have HL107_0 := Aside0.mk (show Kd.R (Kd.int .i64) 3 _ _ _ _ (rd_L4 t103 x15_2) from ge107_0)
                                    clear hv107_0 ge107_0
                                    clear hcc107 hce107
                                    have HR107_0 := Aside0.mk hi107_0
                                    have HC107_0 := Aside0.mk hl107_0
                                    clear hi107_0 hl107_0
                                    replace p107 := eq_true p107
                                    replace q107 := eq_true q107
                                    have p21 : 0 ≤ (x17_3 : Int) := of_decide_eq_true (by first | (with_reducible assumption) | assumption)
                                    have q21 : x17_3 < (t106.size : Int) := of_decide_eq_true (by first | (with_reducible assumption) | assumption)
                                    have hx21 := bt_at t106 x17_3
                                    replace p21 := eq_true p21
                                    replace q21 := eq_true q21
                                    have p108 : 0 ≤ ((ji22) : Int) := of_decide_eq_true (by first | (with_reducible assumption) | assumption)
                                    have q108 : (ji22) < ((rd_L4 t103 x15_2).length : Int) := of_decide_eq_true (by first | (with_reducible assumption) | assumption)
                                    obtain ⟨ad108, e108, hx108_0⟩ := Kd.at_int (by repeat (first | (with_reducible exact HR107_0.out) | (with_reducible refine Kd.C_alloc ?_ _) | (with_reducible refine Kd.C_drewN ?_ _) | (with_reducible refine Kd.C_drew ?_) | exact HR107_0.out)) (ji22) p108 q108
                                    cases e108
                                    replace p108 := eq_true p108
                                    replace q108 := eq_true q108
                                    have p26 : 0 ≤ (x17_3 : Int) := of_decide_eq_true (by first | (with_reducible assumption) | assumption)
                                    have q26 : x17_3 < (t106.size : Int) := of_decide_eq_true (by first | (with_reducible assumption) | assumption)
                                    have hx26 := bt_at t106 x17_3
                                    replace p26 := eq_true p26
                                    replace q26 := eq_true q26
                                    have hcv29 : ∀ W : World, (convert 21 9 (.int .i32 (wrap32 (bt t106 x17_3)))).run Tryd.prog W = .ok (.string (Utf8.encode (wrap32 (bt t106 x17_3)))) W := fun W => run_convert_int_string W 21 9 .i32 (wrap32 (bt t106 x17_3)) (by rw [Tryd.underlying21]; rfl) Tryd.underlying9
                                    go_wp2
                                    repeat (go_quiet (fail); try go_wp2)
                                    go_roundg k3
                                    case measure => have := HJ5.out; have := HK2.out; have := HK3.out; omega
                                    case rel => exact ⟨(x3_3), (x13_2 ++ (Utf8.encode (wrap32 (bt t106 x17_3)))), (bt t106 x17_3), (wrap64 (x15_2 - 1)), (by first | rfl | (simp; done) | (simp [*]; done)), (by first | rfl | (simp; done) | (simp [*]; done)), (by first | rfl | (simp; done) | (simp [*]; done)), (by first | rfl | (simp; done) | (simp [*]; done)), H', ⟨by have := HJ5.out; have := HK2.out; have := HK3.out; omega⟩, ⟨by (with_reducible repeat (first | apply Kd.S_alloc | apply Kd.S_drewN | apply Kd.S_drew)); exact HO_12.out⟩, ⟨by repeat (first | (with_reducible first | exact HB.out | apply below_alloc | apply pw_below_drewN | apply below_drew1) | exact HB.out)⟩⟩
                                  · rw [if_neg c27] at H
                                    exact absurd H (by simp)
                                · rw [if_neg c25] at H
                                  have c25b0 : decide (x3_3 < (rd (rd_L4 t103 x15_2) (ji22))) = false := decide_eq_false c25
                                  clear c25
                                  have H' := Aside0.mk H
                                  clear H
                                  obtain ⟨Ao30, co30, eo30⟩ := Kd.S_slice HO_12.out
                                  subst eo30
                                  have p107 : 0 ≤ (x15_2 : Int) := of_decide_eq_true (by first | (with_reducible assumption) | assumption)
                                  have q107 : x15_2 < (t103.length : Int) := of_decide_eq_true (by first | (with_reducible assumption) | assumption)
                                  obtain ⟨ad107, A107_0, c107_0, e107, hx107_0, hl107_0, hi107_0⟩ := at_L4 (Kd.S_reads' HO_12.out).2.2 x15_2 p107 q107
                                  cases e107
                                  obtain ⟨ce107, hce107, hMe107, hcc107⟩ := Kd.S_get HO_12.out [] x15_2 p107 (by first | exact q107 | exact of_decide_eq_true (by first | (with_reducible assumption) | assumption) | (have e_ := (Kd.S_reads' HO_12.out).1; omega))
                                  obtain ⟨ve107_0, rfl, ge107_0⟩ := hMe107
                                  have hv107_0 := hcc107 0 _ rfl
                                  rw [Nat.add_zero, show ((Kd.slice 3 (Kd.int .i64))).sz = 1 from rfl, Nat.mul_one] at hv107_0
                                  replace hv107_0 := Option.some.inj (hv107_0.symm.trans hx107_0)
                                  rw [hv107_0] at ge107_0
                                  have HL107_0 := Aside0.mk (show Kd.R (Kd.int .i64) 3 _ _ _ _ (rd_L4 t103 x15_2) from ge107_0)
                                  clear hv107_0 ge107_0
                                  clear hcc107 hce107
                                  have HR107_0 := Aside0.mk hi107_0
                                  have HC107_0 := Aside0.mk hl107_0
                                  clear hi107_0 hl107_0
                                  replace p107 := eq_true p107
                                  replace q107 := eq_true q107
                                  have p21 : 0 ≤ (x17_3 : Int) := of_decide_eq_true (by first | (with_reducible assumption) | assumption)
                                  have q21 : x17_3 < (t106.size : Int) := of_decide_eq_true (by first | (with_reducible assumption) | assumption)
                                  have hx21 := bt_at t106 x17_3
                                  replace p21 := eq_true p21
                                  replace q21 := eq_true q21
                                  have p108 : 0 ≤ ((ji22) : Int) := of_decide_eq_true (by first | (with_reducible assumption) | assumption)
                                  have q108 : (ji22) < ((rd_L4 t103 x15_2).length : Int) := of_decide_eq_true (by first | (with_reducible assumption) | assumption)
                                  obtain ⟨ad108, e108, hx108_0⟩ := Kd.at_int (by repeat (first | (with_reducible exact HR107_0.out) | (with_reducible refine Kd.C_alloc ?_ _) | (with_reducible refine Kd.C_drewN ?_ _) | (with_reducible refine Kd.C_drew ?_) | exact HR107_0.out)) (ji22) p108 q108
                                  cases e108
                                  replace p108 := eq_true p108
                                  replace q108 := eq_true q108
                                  go_wp2
                                  repeat (go_quiet (fail); try go_wp2)
                                  go_roundg k3
                                  case measure => have := HJ5.out; have := HK2.out; have := HK3.out; omega
                                  case rel => exact ⟨(wrap64 (x3_3 - (rd (rd_L4 t103 x15_2) (ji22)))), (x14_3), (wrap64 (x17_3 + 1)), (by first | rfl | (simp; done) | (simp only [← hji22] <;> (first | rfl | simp)) | (simp [*]; done)), (by first | rfl | (simp; done) | (simp [*]; done)), (by first | rfl | (simp; done) | (simp [*]; done)), H', ⟨by have := HJ5.out; have := HK2.out; have := HK3.out; omega⟩, ⟨by (with_reducible repeat (first | apply Kd.S_alloc | apply Kd.S_drewN | apply Kd.S_drew)); exact HO_12.out⟩, ⟨by repeat (first | (with_reducible first | exact HB.out | apply below_alloc | apply pw_below_drewN | apply below_drew1) | exact HB.out)⟩⟩
                              · rw [if_neg c24] at H
                                exact absurd H (by simp)
                            · rw [if_neg c23] at H
                              exact absurd H (by simp)
                          · rw [if_neg c20] at H
                            exact absurd H (by simp)
                        · rw [if_neg c19] at H
                          exact absurd H (by simp)
                      · rw [if_neg c18] at H
                        exact absurd H (by simp)
                    · rw [if_neg c17] at H
                      have c17b0 : decide (x17_3 < (t106.size : Int)) = false := decide_eq_false c17
                      clear c17
                      by_cases c31 : x13_2.size + (Utf8.encode (wrap32 (x14_3))).size ≤ 9223372036854775807
                      · rw [if_pos c31] at H
                        have c31b0 := eq_true c31
                        have c31b1 : decide (x13_2.size + (Utf8.encode (wrap32 (x14_3))).size ≤ 9223372036854775807) = true := decide_eq_true c31
                        try have c31b2 : (9223372036854775807 < x13_2.size + (Utf8.encode (wrap32 (x14_3))).size) = False := eq_false (Nat.not_lt.2 c31)
                        have H' := Aside0.mk H
                        clear H
                        have hcv32 : ∀ W : World, (convert 21 9 (.int .i32 (wrap32 (x14_3)))).run Tryd.prog W = .ok (.string (Utf8.encode (wrap32 (x14_3)))) W := fun W => run_convert_int_string W 21 9 .i32 (wrap32 (x14_3)) (by rw [Tryd.underlying21]; rfl) Tryd.underlying9
                        go_wp2
                        repeat (go_quiet (fail); try go_wp2)
                        go_roundg k3
                        case measure => have := HJ5.out; have := HK2.out; have := HK3.out; omega
                        case rel => exact ⟨(x3_3), (x13_2 ++ (Utf8.encode (wrap32 (x14_3)))), (x14_3), (wrap64 (x15_2 - 1)), (by first | rfl | (simp; done) | (simp [*]; done)), (by first | rfl | (simp; done) | (simp [*]; done)), (by first | rfl | (simp; done) | (simp [*]; done)), (by first | rfl | (simp; done) | (simp [*]; done)), H', ⟨by have := HJ5.out; have := HK2.out; have := HK3.out; omega⟩, ⟨by (with_reducible repeat (first | apply Kd.S_alloc | apply Kd.S_drewN | apply Kd.S_drew)); exact HO_12.out⟩, ⟨by repeat (first | (with_reducible first | exact HB.out | apply below_alloc | apply pw_below_drewN | apply below_drew1) | exact HB.out)⟩⟩
                      · rw [if_neg c31] at H
                        exact absurd H (by simp)
              · rw [if_neg c15] at H
                have c15b0 : decide (0 ≤ x15_2) = false := decide_eq_false c15
                clear c15
                simp only [Option.some.injEq, Prod.mk.injEq] at H
                obtain ⟨rfl, rfl⟩ := H
                go_wp2
                repeat (go_quiet (fail); try go_wp2)
                go_ret2
                exact ⟨by first | rfl | (simp [errW_none, errW_some] <;> rfl) | (simp [*, errW_none, errW_some] <;> rfl), by repeat (first | (with_reducible first | exact HB.out | apply below_alloc | apply pw_below_drewN | apply below_drew1) | exact HB.out)⟩
        · rw [if_neg c12] at H
          exact absurd H (by simp)

end Go.Proofs.YtbichbiiephmhaaDoor.P

-- printed by xprint.py
namespace Go.Proofs.YtbichbiiephmhaaDoor.P
open Go.RowKit Go.Proofs.YtbichbiiephmhaaDoorW.PrintWords Go.Proofs.YtbichbiiephmhaaDoorW.PrintLast Go.Proofs.YtbichbiiephmhaaDoorW.PrintMore
attribute [local go_sem] max2_int min2_int max_two min_two max_three min_three max_four min_four   -- for this text's walks alone
set_option linter.unusedVariables false
set_option linter.unusedSimpArgs false

/-! ### laws_FnExactNumberOfRank: function 10 -/
def laws_FnExactNumberOfRank.f (k : Nat) (a0 : ByteArray) (a1 : ByteArray) (a2 : Int) (a3 : Int) : Option (Bool) := if (a0.size : Int) > 1048576 then (some true) else (if (a1.size : Int) > 1048576 then (some true) else ((spec_NumberOfRank.f k a0 a1 a2 a3).bind fun bt101 => ((impl_NumberOfRank.f k a0 a1 a2 a3).bind fun bt103 => (if bt103.1.toList = bt101.1.toList then (if (bt103.2 != bt101.2) = true then (some false) else (some true)) else (some false)))))
theorem laws_FnExactNumberOfRank.mono : ∀ a0 a1 a2 a3 k, LeO (laws_FnExactNumberOfRank.f k a0 a1 a2 a3) (laws_FnExactNumberOfRank.f (k + 1) a0 a1 a2 a3) := by
  intro a0 a1 a2 a3 k
  unfold laws_FnExactNumberOfRank.f
  repeat' first
      | (with_reducible exact impl_NumberOfRank.mono _ _ _ _ _)
      | (with_reducible exact spec_NumberOfRank.mono _ _ _ _ _)
      | (with_reducible exact LeO.refl _)
      | (with_reducible exact LeO.none _)
      | (with_reducible refine LeO.ite ?_ ?_)
      | (with_reducible refine LeO.bind ?_ (fun _ => ?_))
      | exact impl_NumberOfRank.mono _ _ _ _ _
      | exact spec_NumberOfRank.mono _ _ _ _ _
      | exact LeO.none _
      | refine LeO.ite ?_ ?_
      | refine LeO.bind ?_ (fun _ => ?_)
set_option maxHeartbeats 8000000 in
set_option maxRecDepth 100000 in
theorem laws_FnExactNumberOfRank.calls (k : Nat) (a0 : ByteArray) (a1 : ByteArray) (a2 : Int) (a3 : Int) (r : Bool) (w : World) (h : laws_FnExactNumberOfRank.f k a0 a1 a2 a3 = some r) :
    Calls Tryd.prog 10 #[.string a0, .string a1, .int .i64 a2, .int .i64 a3] w fun e w' => e = .returned (.bool r) ∧ Below w.heap.size w w' := by
  have HB := Aside0.mk (Below.refl w.heap.size w)
  have H : (if (a0.size : Int) > 1048576 then (some true) else (if (a1.size : Int) > 1048576 then (some true) else ((spec_NumberOfRank.f k a0 a1 a2 a3).bind fun bt101 => ((impl_NumberOfRank.f k a0 a1 a2 a3).bind fun bt103 => (if bt103.1.toList = bt101.1.toList then (if (bt103.2 != bt101.2) = true then (some false) else (some true)) else (some false)))))) = some r := h
  clear h
  by_cases c5 : (a0.size : Int) > 1048576
  · rw [if_pos c5] at H
    have c5b0 : decide (1048576 < (a0.size : Int)) = true := decide_eq_true c5
    have c5b1 : decide (1048576 < a0.size) = true := decide_eq_true (by omega)
    clear c5
    obtain rfl := Option.some.inj H
    go_enter Tryd.func10, Tryd.ntmps10
    go_wp2
    go_ret
    exact ⟨by first | rfl | (simp [errW_none, errW_some] <;> rfl) | (simp [*, errW_none, errW_some] <;> rfl), by repeat (first | (with_reducible first | exact HB.out | apply below_alloc | apply pw_below_drewN | apply below_drew1) | exact HB.out)⟩
  · rw [if_neg c5] at H
    have c5b0 : decide (1048576 < (a0.size : Int)) = false := decide_eq_false c5
    have c5b1 : decide (1048576 < a0.size) = false := decide_eq_false (by omega)
    clear c5
    by_cases c6 : (a1.size : Int) > 1048576
    · rw [if_pos c6] at H
      have c6b0 : decide (1048576 < (a1.size : Int)) = true := decide_eq_true c6
      have c6b1 : decide (1048576 < a1.size) = true := decide_eq_true (by omega)
      clear c6
      obtain rfl := Option.some.inj H
      go_enter Tryd.func10, Tryd.ntmps10
      go_wp2
      go_ret
      exact ⟨by first | rfl | (simp [errW_none, errW_some] <;> rfl) | (simp [*, errW_none, errW_some] <;> rfl), by repeat (first | (with_reducible first | exact HB.out | apply below_alloc | apply pw_below_drewN | apply below_drew1) | exact HB.out)⟩
    · rw [if_neg c6] at H
      have c6b0 : decide (1048576 < (a1.size : Int)) = false := decide_eq_false c6
      have c6b1 : decide (1048576 < a1.size) = false := decide_eq_false (by omega)
      clear c6
      replace H := Option.bind_eq_some_iff.mp H
      obtain ⟨⟨t101, t102⟩, A70, H⟩ := H
      replace H : ((impl_NumberOfRank.f k a0 a1 a2 a3).bind fun bt103 => (if bt103.1.toList = t101.toList then (if (bt103.2 != t102) = true then (some false) else (some true)) else (some false))) = some r := H
      have A7 := Aside0.mk A70
      clear A70
      replace H := Option.bind_eq_some_iff.mp H
      obtain ⟨⟨t103, t104⟩, A80, H⟩ := H
      replace H : (if t103.toList = t101.toList then (if (t104 != t102) = true then (some false) else (some true)) else (some false)) = some r := H
      have A8 := Aside0.mk A80
      clear A80
      by_cases c9 : t103.toList = t101.toList
      · rw [if_pos c9] at H
        have c9b0 : (t103.toList == t101.toList) = true := beq_iff_eq.mpr c9
        have c9b1 : (t103.toList != t101.toList) = false := bne_eq_false_iff_eq.mpr c9
        clear c9
        by_cases c10 : (t104 != t102) = true
        · rw [if_pos c10] at H
          have c10b0 : (t104 != t102) = true := c10
          (try (have c10b1 : decide (t104 = t102) = false := by simpa using c10))
          (try (have c10b2 : (t104 == t102) = false := by simpa using c10))
          (try (have c10b3 : ¬ (t104 = t102) := by simpa using c10))
          clear c10
          obtain rfl := Option.some.inj H
          go_enter Tryd.func10, Tryd.ntmps10
          go_wp2_with (first | ((with_reducible refine gate_callee (f := 29) rfl ?_); refine goesL_ (some 24) rfl rfl Tryd.func29 (by kernel_rfl) rfl #[.string a0, .string a1, .int .i64 a2, .int .i64 a3] rfl (by (try simp only [List.map_toArray, List.map_cons, List.map_nil]); first | done | rfl | (simp only [List.length_drop, List.length_take]; rfl)) ?_; (with_reducible refine (spec_NumberOfRank.calls k a0 a1 a2 a3 t101 t102 _ A7.out).mono ?_); rintro e w11 ⟨rfl, hb⟩; refine ⟨_, rfl, ?_⟩; have n0_ := Aside0.mk (below_step (by repeat (first | (with_reducible first | exact HB.out | apply below_alloc | apply pw_below_drewN | apply below_drew1) | exact HB.out)) hb); clear HB; have HB := n0_; clear n0_; (try clear hb); (try clear hb2); (try clear hk); (try clear hi)) | ((with_reducible refine gate_callee (f := 30) rfl ?_); refine goesL_ (some 32) rfl rfl Tryd.func30 (by kernel_rfl) rfl #[.string a0, .string a1, .int .i64 a2, .int .i64 a3] rfl (by (try simp only [List.map_toArray, List.map_cons, List.map_nil]); first | done | rfl | (simp only [List.length_drop, List.length_take]; rfl)) ?_; (with_reducible refine (impl_NumberOfRank.calls k a0 a1 a2 a3 t103 t104 _ A8.out).mono ?_); rintro e w12 ⟨rfl, hb⟩; refine ⟨_, rfl, ?_⟩; have n0_ := Aside0.mk (below_step (by repeat (first | (with_reducible first | exact HB.out | apply below_alloc | apply pw_below_drewN | apply below_drew1) | exact HB.out)) hb); clear HB; have HB := n0_; clear n0_; (try clear hb); (try clear hb2); (try clear hk); (try clear hi)))
          go_ret
          exact ⟨by first | rfl | (simp [errW_none, errW_some] <;> rfl) | (simp [*, errW_none, errW_some] <;> rfl), by repeat (first | (with_reducible first | exact HB.out | apply below_alloc | apply pw_below_drewN | apply below_drew1) | exact HB.out)⟩
        · rw [if_neg c10] at H
          have c10b0 : (t104 != t102) = false := by simpa using c10
          (try (have c10b1 : decide (t104 = t102) = true := by simpa using c10))
          (try (have c10b2 : (t104 == t102) = true := by simpa using c10))
          clear c10
          obtain rfl := Option.some.inj H
          go_enter Tryd.func10, Tryd.ntmps10
          go_wp2_with (first | ((with_reducible refine gate_callee (f := 29) rfl ?_); refine goesL_ (some 24) rfl rfl Tryd.func29 (by kernel_rfl) rfl #[.string a0, .string a1, .int .i64 a2, .int .i64 a3] rfl (by (try simp only [List.map_toArray, List.map_cons, List.map_nil]); first | done | rfl | (simp only [List.length_drop, List.length_take]; rfl)) ?_; (with_reducible refine (spec_NumberOfRank.calls k a0 a1 a2 a3 t101 t102 _ A7.out).mono ?_); rintro e w13 ⟨rfl, hb⟩; refine ⟨_, rfl, ?_⟩; have n0_ := Aside0.mk (below_step (by repeat (first | (with_reducible first | exact HB.out | apply below_alloc | apply pw_below_drewN | apply below_drew1) | exact HB.out)) hb); clear HB; have HB := n0_; clear n0_; (try clear hb); (try clear hb2); (try clear hk); (try clear hi)) | ((with_reducible refine gate_callee (f := 30) rfl ?_); refine goesL_ (some 32) rfl rfl Tryd.func30 (by kernel_rfl) rfl #[.string a0, .string a1, .int .i64 a2, .int .i64 a3] rfl (by (try simp only [List.map_toArray, List.map_cons, List.map_nil]); first | done | rfl | (simp only [List.length_drop, List.length_take]; rfl)) ?_; (with_reducible refine (impl_NumberOfRank.calls k a0 a1 a2 a3 t103 t104 _ A8.out).mono ?_); rintro e w14 ⟨rfl, hb⟩; refine ⟨_, rfl, ?_⟩; have n0_ := Aside0.mk (below_step (by repeat (first | (with_reducible first | exact HB.out | apply below_alloc | apply pw_below_drewN | apply below_drew1) | exact HB.out)) hb); clear HB; have HB := n0_; clear n0_; (try clear hb); (try clear hb2); (try clear hk); (try clear hi)))
          go_ret
          exact ⟨by first | rfl | (simp [errW_none, errW_some] <;> rfl) | (simp [*, errW_none, errW_some] <;> rfl), by repeat (first | (with_reducible first | exact HB.out | apply below_alloc | apply pw_below_drewN | apply below_drew1) | exact HB.out)⟩
      · rw [if_neg c9] at H
        have c9b0 : (t103.toList == t101.toList) = false := beq_eq_false_iff_ne.mpr c9
        have c9b1 : (t103.toList != t101.toList) = true := bne_iff_ne.mpr c9
        obtain rfl := Option.some.inj H
        go_enter Tryd.func10, Tryd.ntmps10
        go_wp2_with (first | ((with_reducible refine gate_callee (f := 29) rfl ?_); refine goesL_ (some 24) rfl rfl Tryd.func29 (by kernel_rfl) rfl #[.string a0, .string a1, .int .i64 a2, .int .i64 a3] rfl (by (try simp only [List.map_toArray, List.map_cons, List.map_nil]); first | done | rfl | (simp only [List.length_drop, List.length_take]; rfl)) ?_; (with_reducible refine (spec_NumberOfRank.calls k a0 a1 a2 a3 t101 t102 _ A7.out).mono ?_); rintro e w15 ⟨rfl, hb⟩; refine ⟨_, rfl, ?_⟩; have n0_ := Aside0.mk (below_step (by repeat (first | (with_reducible first | exact HB.out | apply below_alloc | apply pw_below_drewN | apply below_drew1) | exact HB.out)) hb); clear HB; have HB := n0_; clear n0_; (try clear hb); (try clear hb2); (try clear hk); (try clear hi)) | ((with_reducible refine gate_callee (f := 30) rfl ?_); refine goesL_ (some 32) rfl rfl Tryd.func30 (by kernel_rfl) rfl #[.string a0, .string a1, .int .i64 a2, .int .i64 a3] rfl (by (try simp only [List.map_toArray, List.map_cons, List.map_nil]); first | done | rfl | (simp only [List.length_drop, List.length_take]; rfl)) ?_; (with_reducible refine (impl_NumberOfRank.calls k a0 a1 a2 a3 t103 t104 _ A8.out).mono ?_); rintro e w16 ⟨rfl, hb⟩; refine ⟨_, rfl, ?_⟩; have n0_ := Aside0.mk (below_step (by repeat (first | (with_reducible first | exact HB.out | apply below_alloc | apply pw_below_drewN | apply below_drew1) | exact HB.out)) hb); clear HB; have HB := n0_; clear n0_; (try clear hb); (try clear hb2); (try clear hk); (try clear hi)))
        go_ret
        exact ⟨by first | rfl | (simp [errW_none, errW_some] <;> rfl) | (simp [*, errW_none, errW_some] <;> rfl), by repeat (first | (with_reducible first | exact HB.out | apply below_alloc | apply pw_below_drewN | apply below_drew1) | exact HB.out)⟩

end Go.Proofs.YtbichbiiephmhaaDoor.P

namespace Go.Proofs.YtbichbiiephmhaaDoor
open Go.RowKit Go.Proofs.YtbichbiiephmhaaDoor.P Go.Proofs.YtbichbiiephmhaaDoorW.PrintWords Go.Proofs.YtbichbiiephmhaaDoorW.PrintLast
/-- The pure statement of FnExactNumberOfRank. -/
def PureFnExactNumberOfRank : Prop := ∀ (a0 : ByteArray) (a1 : ByteArray) (a2 : Int) (a3 : Int), a0.size ≤ 9223372036854775807 → a1.size ≤ 9223372036854775807 → (Lit.int .i64 a2).wf = true → (Lit.int .i64 a3).wf = true →  ∃ k, laws_FnExactNumberOfRank.f k a0 a1 a2 a3 = some true
end Go.Proofs.YtbichbiiephmhaaDoor

namespace Go.Proofs.YtbichbiiephmhaaDoor
open Go.RowKit Go.Proofs.YtbichbiiephmhaaDoorW.PrintWords
/-! Plain words for the pure statements: answers that stand from some number of rounds on. -/
theorem Ev.succ {α : Type} {g : Nat → Option α} {r : α} (h : Ev (fun k => g (k + 1)) r) : Ev g r := Ev.step (fun _ => rfl) h
theorem Ev.const {α : Type} {a : Option α} {r : α} (h : a = some r) : Ev (fun _ => a) r := ⟨0, fun _ _ => h⟩
theorem Ev.pos {α : Type} {c : Prop} [Decidable c] {g f : Nat → Option α} {r : α} (hc : c) (h : Ev g r) : Ev (fun k => if c then g k else f k) r := by simp only [if_pos hc]; exact h
theorem Ev.neg {α : Type} {c : Prop} [Decidable c] {g f : Nat → Option α} {r : α} (hc : ¬ c) (h : Ev f r) : Ev (fun k => if c then g k else f k) r := by simp only [if_neg hc]; exact h
theorem Ev.yes {α : Type} {c : Prop} [Decidable c] {g f : Nat → Option α} {r : α} (h : Ev g r) (hc : c := by first | omega | rfl | trivial | decide | simp | (simp; omega)) : Ev (fun k => if c then g k else f k) r := Ev.pos hc h
theorem Ev.no {α : Type} {c : Prop} [Decidable c] {g f : Nat → Option α} {r : α} (h : Ev f r) (hc : ¬ c := by first | omega | decide | simp | (simp; omega)) : Ev (fun k => if c then g k else f k) r := Ev.neg hc h
theorem Ev.bindc {α β : Type} {a : Option α} {x : α} {f : Nat → α → Option β} {r : β} (h : a = some x) (k : Ev (fun n => f n x) r) : Ev (fun n => a.bind (f n)) r := by subst h; exact k
theorem wrap_id {n : Int} (h1 : -9223372036854775808 ≤ n) (h2 : n ≤ 9223372036854775807) : wrap64 n = n := IntWalk.wrap64_in n ⟨h1, h2⟩
theorem wf_i64 {n : Int} (h : (Lit.int .i64 n).wf = true) : -9223372036854775808 ≤ n ∧ n ≤ 9223372036854775807 := by
  have e1 : IntKind.i64.min = -9223372036854775808 := rfl
  have e2 : IntKind.i64.max = 9223372036854775807 := rfl
  simp only [Lit.wf, e1, e2, Bool.and_eq_true, decide_eq_true_eq] at h
  exact h
theorem rd_nat (l : List Int) (j : Nat) (h : j < l.length) : rd l (j : Int) = l[j] := by unfold rd; simp [List.getD, h]
end Go.Proofs.YtbichbiiephmhaaDoor

namespace Go.Proofs.YtbichbiiephmhaaDoor
open Go.RowKit Go.Proofs.YtbichbiiephmhaaDoorW.PrintWords
set_option linter.unusedSimpArgs false
set_option linter.unusedVariables false
/-! Strings as lists of bytes. -/
/-- A string's bytes. -/
def bl (s : ByteArray) : List UInt8 := s.data.toList
theorem bl_len (s : ByteArray) : s.size = (bl s).length := rfl
theorem bl_inj {s t : ByteArray} (h : bl s = bl t) : s = t := ByteArray.ext (Array.toList_inj.1 h)
theorem bl_toList (s : ByteArray) : s.toList = bl s := Go.ByteArray.toList_eq s
theorem bl_mk (a : Array UInt8) : bl ⟨a⟩ = a.toList := rfl
theorem mk_bl (s : ByteArray) : (⟨(bl s).toArray⟩ : ByteArray) = s := bl_inj (by simp [bl])
theorem bl_extract (s : ByteArray) (i j : Nat) : bl (s.extract i j) = ((bl s).drop i).take (j - i) := by simp [bl, ByteArray.data_extract]
theorem bl_append (s t : ByteArray) : bl (s ++ t) = bl s ++ bl t := by simp [bl, ByteArray.data_append]
theorem bl_nums (l : List Int) : bl (strOfNums l) = l.map fun n => UInt8.ofNat n.toNat := rfl
theorem bl_empty : bl (⟨#[]⟩ : ByteArray) = [] := rfl
theorem bt_nat (s : ByteArray) (i : Nat) (h : i < (bl s).length) : bt s (i : Int) = ((bl s)[i].toNat : Int) := by
  unfold bt
  have h' : ((i : Int)).toNat < s.size := by rw [Int.toNat_natCast]; exact h
  rw [dif_pos h']; rfl
theorem of_toNat (c : UInt8) : UInt8.ofNat ((c.toNat : Int)).toNat = c := by rw [Int.toNat_natCast]; simp
theorem bt_of (s : ByteArray) (i : Nat) (h : i < (bl s).length) : UInt8.ofNat (bt s (i : Int)).toNat = (bl s)[i] := by rw [bt_nat s i h]; exact of_toNat _
theorem byte_eq (c d : UInt8) : ((c.toNat : Int) = (d.toNat : Int)) ↔ c = d := by
  constructor
  · intro h; exact UInt8.toNat_inj.1 (by exact_mod_cast h)
  · intro h; rw [h]
theorem byte_lt (c d : UInt8) : ((c.toNat : Int) < (d.toNat : Int)) ↔ c < d := by rw [UInt8.lt_iff_toNat_lt]; omega
theorem byte_le (c d : UInt8) : ((c.toNat : Int) ≤ (d.toNat : Int)) ↔ c ≤ d := by rw [UInt8.le_iff_toNat_le]; omega
theorem dropWhile_nil {α : Type} (p : α → Bool) : ∀ l : List α, l.dropWhile p = [] ↔ l.all p = true
  | [] => by simp
  | x :: xs => by
    by_cases h : p x = true
    · simp [List.dropWhile_cons, h, dropWhile_nil p xs]
    · simp [List.dropWhile_cons, h]
theorem dropWhile_keeps {α : Type} (p : α → Bool) : ∀ l : List α, (l.dropWhile p).all p = l.all p
  | [] => rfl
  | x :: xs => by
    by_cases h : p x = true
    · simp only [List.dropWhile_cons, h, if_true, List.all_cons, Bool.true_and]; exact dropWhile_keeps p xs
    · simp [List.dropWhile_cons, h]
theorem trimS_nil (l cs : List UInt8) : Lib.trimS l cs = [] ↔ l.all (cs.contains ·) = true := by
  unfold Lib.trimS Lib.trimLeftS Lib.trimRightS
  rw [dropWhile_nil, List.all_reverse, dropWhile_keeps, List.all_reverse]
theorem indexByte_neg (l : List UInt8) (c : UInt8) : Lib.indexByte l c < 0 ↔ ¬ c ∈ l := by
  induction l with
  | nil => simp [Lib.indexByte]
  | cons b l ih =>
    have hge := Lib.indexByte_ge l c
    unfold Lib.indexByte
    by_cases h : b = c
    · subst h; simp
    · have h1 : (b == c) = false := by simpa using h
      rw [h1]
      have h2 : ¬ c = b := fun e => h e.symm
      simp only [Bool.false_eq_true, if_false, List.mem_cons, h2, false_or]
      by_cases e : Lib.indexByte l c = -1
      · simp only [e, beq_self_eq_true, if_true]
        have := ih.1 (by omega)
        simp [this]
      · have e' : (Lib.indexByte l c == -1) = false := by simpa using e
        rw [e']
        simp only [Bool.false_eq_true, if_false]
        have hp : ¬ Lib.indexByte l c < 0 := by omega
        have := mt ih.2 hp
        constructor
        · intro h3; omega
        · intro h3; exact absurd h3 this
/-- The letters. -/
def isLow (c : UInt8) : Bool := decide (97 ≤ c.toNat) && decide (c.toNat ≤ 122)
theorem u8_all (P : UInt8 → Prop) [DecidablePred P] (h : ∀ n, n < 256 → P (UInt8.ofNat n)) (c : UInt8) : P c := by
  have := h c.toNat c.toNat_lt
  rwa [show UInt8.ofNat c.toNat = c from by simp] at this
theorem low_contains (c : UInt8) : ([97, 98, 99, 100, 101, 102, 103, 104, 105, 106, 107, 108, 109, 110, 111, 112, 113, 114, 115, 116, 117, 118, 119, 120, 121, 122] : List UInt8).contains c = isLow c := by
  refine u8_all (fun c => _ = isLow c) ?_ c
  decide +kernel
theorem dig_contains (c : UInt8) : ([48, 49, 50, 51, 52, 53, 54, 55, 56, 57] : List UInt8).contains c = (decide (48 ≤ c.toNat) && decide (c.toNat ≤ 57)) := by
  refine u8_all (fun c => _ = (decide (48 ≤ c.toNat) && decide (c.toNat ≤ 57))) ?_ c
  decide +kernel
end Go.Proofs.YtbichbiiephmhaaDoor

namespace Go.Proofs.YtbichbiiephmhaaDoor
open Go.RowKit Go.Proofs.YtbichbiiephmhaaDoor.P Go.Proofs.YtbichbiiephmhaaDoorW.PrintWords
set_option linter.unusedSimpArgs false
set_option linter.unusedVariables false
theorem in_eq (n a b : Int) : impl_in.f n a b = some (decide (a ≤ n) && decide (n ≤ b)) := by
  unfold impl_in.f
  by_cases h : a ≤ n
  · rw [if_pos h]; simp [h]
  · rw [if_neg h]; simp [h]
theorem l1In_eq (n a b : Int) : spec_l1In.f n a b = some (decide (a ≤ n) && decide (n ≤ b)) := by
  unfold spec_l1In.f
  by_cases h : a ≤ n
  · rw [if_pos h]; simp [h]
  · rw [if_neg h]; simp [h]
theorem over_eq (s cs : ByteArray) (h1 : s.size ≤ 9223372036854775807) (h2 : cs.size < 4294967281) (h3 : (bl cs).all (fun b => decide (b.toNat < 128)) = true) : impl_over.f s cs = some ((bl s).all ((bl cs).contains ·)) := by
  unfold impl_over.f strings_Trim.f
  rw [if_pos ⟨h1, h2, h3⟩]
  simp only [Option.bind_some]
  congr 1
  rw [bl_toList, bl_mk, List.toList_toArray]
  have := trimS_nil (bl s) (bl cs)
  unfold bl at this ⊢
  rw [Bool.eq_iff_iff, beq_iff_eq]
  exact this
/-- Is it a digit's sign? -/
def isDig (c : UInt8) : Bool := decide (48 ≤ c.toNat) && decide (c.toNat ≤ 57)
theorem overDig_eq (s : ByteArray) (h1 : s.size ≤ 9223372036854775807) : impl_over.f s (⟨#[48, 49, 50, 51, 52, 53, 54, 55, 56, 57]⟩ : ByteArray) = some ((bl s).all isDig) := by
  rw [over_eq s _ h1 (by decide) (by decide)]
  congr 1
  congr 1
  funext c
  exact dig_contains c
/-- Digits, of a length. -/
def digsB (l : List UInt8) (a b : Nat) : Bool := decide (a ≤ l.length) && decide (l.length ≤ b) && l.all isDig
theorem isDigits_eq (s : ByteArray) (a b : Nat) (h1 : s.size ≤ 9223372036854775807) : impl_isDigits.f s a b = some (digsB (bl s) a b) := by
  unfold impl_isDigits.f digsB
  rw [in_eq]
  have e : (decide ((a : Int) ≤ (s.size : Int)) && decide ((s.size : Int) ≤ (b : Int))) = (decide (a ≤ (bl s).length) && decide ((bl s).length ≤ b)) := by
    rw [bl_len]; congr 1 <;> (rw [decide_eq_decide]; omega)
  rw [e]
  simp only [Option.bind_some]
  cases (decide (a ≤ (bl s).length) && decide ((bl s).length ≤ b)) with
  | false => rfl
  | true => rw [if_pos rfl, overDig_eq s h1]; rfl
theorem isDig_at {l : List UInt8} (h : l.all isDig = true) (i : Nat) (hi : i < l.length) : 48 ≤ l[i].toNat ∧ l[i].toNat ≤ 57 := by
  have := List.all_eq_true.1 h _ (List.getElem_mem hi)
  unfold isDig at this
  simpa only [Bool.and_eq_true, decide_eq_true_eq] using this
end Go.Proofs.YtbichbiiephmhaaDoor

namespace Go.Proofs.YtbichbiiephmhaaDoor
open Go.RowKit Go.Proofs.YtbichbiiephmhaaDoor.P Go.Proofs.YtbichbiiephmhaaDoorW.PrintWords
set_option linter.unusedSimpArgs false
set_option linter.unusedVariables false
/-- Is it a piece? -/
def pieceB (l : List UInt8) : Bool := decide (l = [110]) || decide (l = [107]) || decide (l = [114]) || decide (l = [98])
theorem pieceB_of {s : ByteArray} (h : pieceB (bl s) = true) : s = ⟨#[110]⟩ ∨ s = ⟨#[107]⟩ ∨ s = ⟨#[114]⟩ ∨ s = ⟨#[98]⟩ := by
  unfold pieceB at h
  simp only [Bool.or_eq_true, decide_eq_true_eq] at h
  rcases h with ((h | h) | h) | h
  · exact .inl (bl_inj h)
  · exact .inr (.inl (bl_inj h))
  · exact .inr (.inr (.inl (bl_inj h)))
  · exact .inr (.inr (.inr (bl_inj h)))
theorem isPiece_eq (s : ByteArray) : impl_isPiece.f s = some (pieceB (bl s)) := by
  unfold impl_isPiece.f strings_Contains.f
  have e : (s.size : Int) = 1 ↔ (bl s).length = 1 := by rw [bl_len]; omega
  cases h : bl s with
  | nil => rw [if_neg (by rw [e, h]; simp)]; rfl
  | cons c r =>
    cases r with
    | cons d r => rw [if_neg (by rw [e, h]; simp)]; simp [pieceB]
    | nil =>
      rw [if_pos (by rw [e, h]; rfl), if_pos (by rw [bl_len, h]; rfl)]
      have hd : s.data.toList = [c] := h
      simp only [Option.bind_some, hd]
      congr 1
      refine u8_all (fun c => decide (0 ≤ Lib.indexByte [110, 107, 114, 98] c) = pieceB [c]) ?_ c
      decide +kernel
theorem wkPiece_eq (s : ByteArray) : spec_wkPiece.f s = some (pieceB (bl s)) := by
  unfold spec_wkPiece.f pieceB
  rw [bl_toList]
  by_cases h1 : bl s = [110]
  · rw [if_pos h1, decide_eq_true h1]; rfl
  · rw [if_neg h1, decide_eq_false h1]
    by_cases h2 : bl s = [107]
    · rw [if_pos h2, decide_eq_true h2]; rfl
    · rw [if_neg h2, decide_eq_false h2]
      by_cases h3 : bl s = [114]
      · rw [if_pos h3, decide_eq_true h3]; rfl
      · rw [if_neg h3, decide_eq_false h3]; simp only [Bool.false_or]; congr 1; rw [Bool.eq_iff_iff, beq_iff_eq, decide_eq_true_eq]
theorem isDigit_eq (s : ByteArray) (h1 : s.size ≤ 9223372036854775807) : impl_isDigit.f s = some (digsB (bl s) 1 1) := by
  unfold impl_isDigit.f
  rw [show impl_isDigits.f s 1 1 = some (digsB (bl s) 1 1) from isDigits_eq s 1 1 h1]; rfl
theorem digit_of {s : ByteArray} (h : digsB (bl s) 1 1 = true) : ∃ d : Nat, d < 10 ∧ s = ⟨#[UInt8.ofNat (48 + d)]⟩ := by
  unfold digsB at h
  simp only [Bool.and_eq_true, decide_eq_true_eq] at h
  have hl : (bl s).length = 1 := by omega
  obtain ⟨c, hc⟩ := List.length_eq_one_iff.1 hl
  have hd := isDig_at h.2 0 (by omega)
  simp only [hc, List.getElem_cons_zero] at hd
  refine ⟨c.toNat - 48, by omega, bl_inj ?_⟩
  rw [hc, bl_mk]
  show [c] = [UInt8.ofNat (48 + (c.toNat - 48))]
  rw [show 48 + (c.toNat - 48) = c.toNat from by omega]; simp
theorem wkDigits_l0 (s : ByteArray) (hs : s.size ≤ 9223372036854775806) : ∀ (d i : Nat), i + d = s.size → Ev (fun k => spec_wkDigits.l0 k s i) (((bl s).drop i).all isDig)
  | 0, i, hi => by
    apply Ev.succ
    simp only [spec_wkDigits.l0]
    refine Ev.neg (by omega) (Ev.const ?_)
    rw [List.drop_of_length_le (by rw [← bl_len]; omega)]; rfl
  | d + 1, i, hi => by
    have hlt : i < (bl s).length := by rw [← bl_len]; omega
    apply Ev.succ
    simp only [spec_wkDigits.l0]
    refine Ev.pos (by omega) (Ev.pos (by omega) ?_)
    rw [wrap_id (by omega) (by omega), bt_nat s i hlt, List.drop_eq_getElem_cons hlt, List.all_cons]
    by_cases c1 : ((bl s)[i].toNat : Int) < 48
    · refine Ev.pos c1 (Ev.const ?_)
      have : isDig (bl s)[i] = false := by unfold isDig; rw [Bool.and_eq_false_iff]; left; rw [decide_eq_false_iff_not]; omega
      rw [this]; rfl
    · refine Ev.neg c1 ?_
      by_cases c2 : ((bl s)[i].toNat : Int) > 57
      · refine Ev.pos c2 (Ev.const ?_)
        have : isDig (bl s)[i] = false := by unfold isDig; rw [Bool.and_eq_false_iff]; right; rw [decide_eq_false_iff_not]; omega
        rw [this]; rfl
      · refine Ev.neg c2 ?_
        have : isDig (bl s)[i] = true := by unfold isDig; rw [Bool.and_eq_true, decide_eq_true_eq, decide_eq_true_eq]; omega
        rw [this, Bool.true_and]
        exact_mod_cast wkDigits_l0 s hs d (i + 1) (by omega)
theorem wkDigits_ev (s : ByteArray) : Ev (fun k => spec_wkDigits.f k s) (digsB (bl s) 1 40) := by
  unfold spec_wkDigits.f digsB
  refine Ev.bindc (l1In_eq _ _ _) ?_
  have e : (decide ((1 : Int) ≤ (s.size : Int)) && decide ((s.size : Int) ≤ 40)) = (decide (1 ≤ (bl s).length) && decide ((bl s).length ≤ 40)) := by
    rw [bl_len]; congr 1 <;> (rw [decide_eq_decide]; omega)
  rw [e]
  cases h : (decide (1 ≤ (bl s).length) && decide ((bl s).length ≤ 40)) with
  | false => exact Ev.no (Ev.now _)
  | true =>
    have : s.size ≤ 40 := by simp only [Bool.and_eq_true, decide_eq_true_eq] at h; rw [bl_len]; omega
    refine Ev.yes ?_
    rw [Bool.true_and]
    exact wkDigits_l0 s (by omega) s.size 0 (by omega)
theorem wkAsked_ev (a s : ByteArray) : Ev (fun k => spec_wkAsked.f k a s) (pieceB (bl a) && digsB (bl s) 1 1) := by
  unfold spec_wkAsked.f
  refine Ev.bindc (wkPiece_eq a) ?_
  cases pieceB (bl a) with
  | false => exact Ev.no (Ev.now _)
  | true =>
    refine Ev.yes (Ev.bind (wkDigits_ev s) ?_)
    rw [Bool.true_and]
    cases h : digsB (bl s) 1 40 with
    | false =>
      refine Ev.no (Ev.const ?_)
      have : digsB (bl s) 1 1 = false := by
        rw [Bool.eq_false_iff]; intro h'; rw [Bool.eq_false_iff] at h; apply h
        unfold digsB at h' ⊢
        simp only [Bool.and_eq_true, decide_eq_true_eq] at h' ⊢
        exact ⟨⟨by omega, by omega⟩, h'.2⟩
      rw [this]
    | true =>
      refine Ev.yes (Ev.const ?_)
      unfold digsB at h ⊢
      simp only [Bool.and_eq_true, decide_eq_true_eq] at h
      rw [h.2, Bool.and_true, bl_len]
      congr 1
      rw [Bool.eq_iff_iff, beq_iff_eq, Bool.and_eq_true, decide_eq_true_eq, decide_eq_true_eq]
      omega
end Go.Proofs.YtbichbiiephmhaaDoor

-- printed by xprint.py
namespace Go.Proofs.YtbichbiiephmhaaDoor.P
open Go.RowKit Go.Proofs.YtbichbiiephmhaaDoorW.PrintWords Go.Proofs.YtbichbiiephmhaaDoorW.PrintLast Go.Proofs.YtbichbiiephmhaaDoorW.PrintMore
attribute [local go_sem] max2_int min2_int max_two min_two max_three min_three max_four min_four   -- for this text's walks alone
set_option linter.unusedVariables false
set_option linter.unusedSimpArgs false

/-! ### slices_Index_int_int: function 75 -/
def slices_Index_int_int.l0 : Nat → List Int → Int → Int → Int → Option (Int)
  | 0, _, _, _, _ => none
  | k + 1, x0, x1, x7, x8 => if x8 < x7 then (if 0 ≤ x8 then (if x8 < (x0.length : Int) then (if x1 = (rd x0 x8) then (some x8) else (slices_Index_int_int.l0 k x0 x1 x7 (wrap64 (x8 + 1)))) else (none)) else (none)) else (some (-1))
def slices_Index_int_int.f (k : Nat) (l0 : List Int) (a1 : Int) : Option (Int) := slices_Index_int_int.l0 k l0 a1 (l0.length : Int) 0
theorem slices_Index_int_int.mono_l : ∀ k, (∀ y0 y1 y2 y3, LeO (slices_Index_int_int.l0 k y0 y1 y2 y3) (slices_Index_int_int.l0 (k + 1) y0 y1 y2 y3))
  | 0 => fun _ _ _ _ r h => by simp [slices_Index_int_int.l0] at h
  | k + 1 => by
    have ih0 := slices_Index_int_int.mono_l k
    · intro y0 y1 y2 y3
      unfold slices_Index_int_int.l0
      repeat' first
      | (with_reducible exact ih0 _ _ _ _)
      | (with_reducible exact LeO.refl _)
      | (with_reducible exact LeO.none _)
      | (with_reducible refine LeO.ite ?_ ?_)
      | (with_reducible refine LeO.bind ?_ (fun _ => ?_))
      | exact ih0 _ _ _ _
      | exact LeO.none _
      | refine LeO.ite ?_ ?_
      | refine LeO.bind ?_ (fun _ => ?_)
theorem slices_Index_int_int.mono : ∀ a0 a1 k, LeO (slices_Index_int_int.f k a0 a1) (slices_Index_int_int.f (k + 1) a0 a1) := by
  intro a0 a1 k
  have ih0 := slices_Index_int_int.mono_l k
  unfold slices_Index_int_int.f
  repeat' first
      | (with_reducible exact ih0 _ _ _ _)
      | (with_reducible exact LeO.refl _)
      | (with_reducible exact LeO.none _)
      | (with_reducible refine LeO.ite ?_ ?_)
      | (with_reducible refine LeO.bind ?_ (fun _ => ?_))
      | exact ih0 _ _ _ _
      | exact LeO.none _
      | refine LeO.ite ?_ ?_
      | refine LeO.bind ?_ (fun _ => ?_)
set_option maxHeartbeats 8000000 in
set_option maxRecDepth 100000 in
theorem slices_Index_int_int.calls (k : Nat) (A0 : Option Addr) (c0 : Nat) (l0 : List Int) (a1 : Int) (r : Int) (w : World) (hr0 : Kd.C (Kd.int .i64) w A0 l0.length l0) (hc0 : l0.length ≤ c0) (h : slices_Index_int_int.f k l0 a1 = some r) :
    Calls Tryd.prog 75 #[.slice A0 l0.length c0, .int .i64 a1] w fun e w' => e = .returned (.int .i64 r) ∧ Drawn0 w w' := by
  have HR0 := Aside0.mk hr0
  have HC0 := Aside0.mk hc0
  clear hr0 hc0
  have H : (slices_Index_int_int.l0 k l0 a1 (l0.length : Int) 0) = some r := h
  clear h
  have H' := Aside0.mk H
  clear H
  go_enter Tryd.func75, Tryd.ntmps75
  go_wp2
  go_loopg [8] k (fun kq v8 w' => ∃ (x8_1 : Int), v8 = .int .i64 x8_1 ∧ Aside0 (slices_Index_int_int.l0 kq l0 a1 (l0.length : Int) x8_1 = some r) ∧ Aside0 (kq ≤ k) ∧ Drawn0 w w')
  case atStart => exact ⟨(0), (by first | rfl | (simp; done) | (simp [*]; done)), H', ⟨Nat.le_refl _⟩, by repeat (first | exact Drawn0.refl _ | apply Drawn0.step)⟩
  case round =>
    clear H'
    try clear p2
    obtain ⟨x8_1, rfl, HA, HK1, ⟨m1, rfl⟩⟩ := hrel
    cases gk with
    | zero => exact absurd HA.out (by simp [slices_Index_int_int.l0])
    | succ k1 =>
      have H := HA.out
      clear HA
      simp only [slices_Index_int_int.l0] at H
      by_cases c3 : x8_1 < (l0.length : Int)
      · rw [if_pos c3] at H
        have c3b0 : decide (x8_1 < (l0.length : Int)) = true := decide_eq_true c3
        clear c3
        by_cases c4 : 0 ≤ x8_1
        · rw [if_pos c4] at H
          have c4b0 : decide (0 ≤ x8_1) = true := decide_eq_true c4
          clear c4
          by_cases c5 : x8_1 < (l0.length : Int)
          · rw [if_pos c5] at H
            have c5b0 : decide (x8_1 < (l0.length : Int)) = true := decide_eq_true c5
            clear c5
            by_cases c6 : a1 = (rd l0 x8_1)
            · rw [if_pos c6] at H
              have c6b0 : (a1 == (rd l0 x8_1)) = true := beq_iff_eq.mpr c6
              have c6b1 : (a1 != (rd l0 x8_1)) = false := bne_eq_false_iff_eq.mpr c6
              clear c6
              obtain rfl := Option.some.inj H
              have p101 : 0 ≤ (x8_1 : Int) := of_decide_eq_true (by first | (with_reducible assumption) | assumption)
              have q101 : x8_1 < (l0.length : Int) := of_decide_eq_true (by first | (with_reducible assumption) | assumption)
              obtain ⟨ad101, e101, hx101_0⟩ := Kd.at_int HR0.out x8_1 p101 q101
              cases e101
              replace p101 := eq_true p101
              replace q101 := eq_true q101
              go_wp2
              go_ret
              exact ⟨by first | rfl | (simp; done) | (simp [*]; done), by repeat (first | exact Drawn0.refl _ | apply Drawn0.step)⟩
            · rw [if_neg c6] at H
              have c6b0 : (a1 == (rd l0 x8_1)) = false := beq_eq_false_iff_ne.mpr c6
              have c6b1 : (a1 != (rd l0 x8_1)) = true := bne_iff_ne.mpr c6
              have H' := Aside0.mk H
              clear H
              have p101 : 0 ≤ (x8_1 : Int) := of_decide_eq_true (by first | (with_reducible assumption) | assumption)
              have q101 : x8_1 < (l0.length : Int) := of_decide_eq_true (by first | (with_reducible assumption) | assumption)
              obtain ⟨ad101, e101, hx101_0⟩ := Kd.at_int HR0.out x8_1 p101 q101
              cases e101
              replace p101 := eq_true p101
              replace q101 := eq_true q101
              go_wp2
              go_roundg k1
              case measure => have := HK1.out; omega
              case rel => exact ⟨(wrap64 (x8_1 + 1)), (by first | rfl | (simp; done) | (simp [*]; done)), H', ⟨by have := HK1.out; omega⟩, by repeat (first | exact Drawn0.refl _ | apply Drawn0.step)⟩
          · rw [if_neg c5] at H
            exact absurd H (by simp)
        · rw [if_neg c4] at H
          exact absurd H (by simp)
      · rw [if_neg c3] at H
        have c3b0 : decide (x8_1 < (l0.length : Int)) = false := decide_eq_false c3
        clear c3
        obtain rfl := Option.some.inj H
        go_wp2
        go_ret
        exact ⟨by first | rfl | (simp; done) | (simp [*]; done), by repeat (first | exact Drawn0.refl _ | apply Drawn0.step)⟩

end Go.Proofs.YtbichbiiephmhaaDoor.P

-- printed by xprint.py
namespace Go.Proofs.YtbichbiiephmhaaDoor.P
open Go.RowKit Go.Proofs.YtbichbiiephmhaaDoorW.PrintWords Go.Proofs.YtbichbiiephmhaaDoorW.PrintLast Go.Proofs.YtbichbiiephmhaaDoorW.PrintMore
attribute [local go_sem] max2_int min2_int max_two min_two max_three min_three max_four min_four   -- for this text's walks alone
set_option linter.unusedVariables false
set_option linter.unusedSimpArgs false

/-! ### slices_Contains_int_int: function 65 -/
def slices_Contains_int_int.f (k : Nat) (l0 : List Int) (a1 : Int) : Option (Bool) := (slices_Index_int_int.f k l0 a1).bind fun t101 => (some (decide (t101 ≥ 0)))
theorem slices_Contains_int_int.mono : ∀ a0 a1 k, LeO (slices_Contains_int_int.f k a0 a1) (slices_Contains_int_int.f (k + 1) a0 a1) := by
  intro a0 a1 k
  unfold slices_Contains_int_int.f
  repeat' first
      | (with_reducible exact slices_Index_int_int.mono _ _ _)
      | (with_reducible exact LeO.refl _)
      | (with_reducible exact LeO.none _)
      | (with_reducible refine LeO.ite ?_ ?_)
      | (with_reducible refine LeO.bind ?_ (fun _ => ?_))
      | exact slices_Index_int_int.mono _ _ _
      | exact LeO.none _
      | refine LeO.ite ?_ ?_
      | refine LeO.bind ?_ (fun _ => ?_)
set_option maxHeartbeats 8000000 in
set_option maxRecDepth 100000 in
theorem slices_Contains_int_int.calls (k : Nat) (A0 : Option Addr) (c0 : Nat) (l0 : List Int) (a1 : Int) (r : Bool) (w : World) (hr0 : Kd.C (Kd.int .i64) w A0 l0.length l0) (hc0 : l0.length ≤ c0) (h : slices_Contains_int_int.f k l0 a1 = some r) :
    Calls Tryd.prog 65 #[.slice A0 l0.length c0, .int .i64 a1] w fun e w' => e = .returned (.bool r) ∧ Drawn0 w w' := by
  have HR0 := Aside0.mk hr0
  have HC0 := Aside0.mk hc0
  clear hr0 hc0
  have H : ((slices_Index_int_int.f k l0 a1).bind fun t101 => (some (decide (t101 ≥ 0)))) = some r := h
  clear h
  replace H := Option.bind_eq_some_iff.mp H
  obtain ⟨t101, A30, H⟩ := H
  replace H : (some (decide (t101 ≥ 0))) = some r := H
  have A3 := Aside0.mk A30
  clear A30
  obtain rfl := Option.some.inj H
  go_enter Tryd.func65, Tryd.ntmps65
  go_wp2_with (first | ((with_reducible refine gate_callee (f := 75) rfl ?_); refine goesL_ (some 7) rfl rfl Tryd.func75 (by kernel_rfl) rfl #[.slice A0 l0.length c0, .int .i64 a1] rfl (by (try simp only [List.map_toArray, List.map_cons, List.map_nil]); first | done | rfl | (simp only [List.length_drop, List.length_take]; rfl)) ?_; (with_reducible refine (slices_Index_int_int.calls k _ _ l0 a1 t101 _ ?side1 ?side2 A3.out).mono ?_); (case side1 => repeat (first | exact HR0.out | (with_reducible refine Kd.C_alloc ?_ _) | (with_reducible refine Kd.C_drewN ?_ _) | (with_reducible refine Kd.C_drew ?_))); (case side2 => exact HC0.out); rintro e w' ⟨rfl, ⟨nd, rfl⟩⟩; refine ⟨_, rfl, ?_⟩))
  go_ret
  exact ⟨by first | rfl | (simp; done) | (simp [*]; done), by repeat (first | exact Drawn0.refl _ | apply Drawn0.step)⟩

end Go.Proofs.YtbichbiiephmhaaDoor.P

namespace Go.Proofs.YtbichbiiephmhaaDoor
open Go.RowKit Go.Proofs.YtbichbiiephmhaaDoor.P Go.Proofs.YtbichbiiephmhaaDoorW.PrintWords
set_option linter.unusedSimpArgs false
set_option linter.unusedVariables false
/-- The next digits of all digits. -/
def tbl (p : ByteArray) : List (List Int) := (impl_moves.f 300 p).getD []
def isPc (p : ByteArray) : Prop := p = ⟨#[110]⟩ ∨ p = ⟨#[107]⟩ ∨ p = ⟨#[114]⟩ ∨ p = ⟨#[98]⟩
theorem isPc_of {s : ByteArray} (h : pieceB (bl s) = true) : isPc s := pieceB_of h
theorem tbl_n : (impl_moves.f 300 ⟨#[110]⟩).isSome = true := by decide +kernel
theorem tbl_k : (impl_moves.f 300 ⟨#[107]⟩).isSome = true := by decide +kernel
theorem tbl_r : (impl_moves.f 300 ⟨#[114]⟩).isSome = true := by decide +kernel
theorem tbl_b : (impl_moves.f 300 ⟨#[98]⟩).isSome = true := by decide +kernel
theorem moves_at {p : ByteArray} (h : isPc p) : impl_moves.f 300 p = some (tbl p) := by
  have : (impl_moves.f 300 p).isSome = true := by
    rcases h with rfl | rfl | rfl | rfl
    · exact tbl_n
    · exact tbl_k
    · exact tbl_r
    · exact tbl_b
  obtain ⟨l, hl⟩ := Option.isSome_iff_exists.1 this
  unfold tbl; rw [hl]; rfl
theorem moves_ev {p : ByteArray} (h : isPc p) : Ev (fun k => impl_moves.f k p) (tbl p) := Ev.of (impl_moves.mono _) (moves_at h)
theorem goes_n : ∀ d e : Fin 10, spec_wkGoes.f 100 ⟨#[110]⟩ (48 + d.val) (48 + e.val) = some (decide ((e.val : Int) ∈ (tbl ⟨#[110]⟩).getD d.val [])) := by decide +kernel
theorem goes_k : ∀ d e : Fin 10, spec_wkGoes.f 100 ⟨#[107]⟩ (48 + d.val) (48 + e.val) = some (decide ((e.val : Int) ∈ (tbl ⟨#[107]⟩).getD d.val [])) := by decide +kernel
theorem goes_r : ∀ d e : Fin 10, spec_wkGoes.f 100 ⟨#[114]⟩ (48 + d.val) (48 + e.val) = some (decide ((e.val : Int) ∈ (tbl ⟨#[114]⟩).getD d.val [])) := by decide +kernel
theorem goes_b : ∀ d e : Fin 10, spec_wkGoes.f 100 ⟨#[98]⟩ (48 + d.val) (48 + e.val) = some (decide ((e.val : Int) ∈ (tbl ⟨#[98]⟩).getD d.val [])) := by decide +kernel
theorem goes_ev {p : ByteArray} (h : isPc p) (d e : Nat) (hd : d < 10) (he : e < 10) : Ev (fun k => spec_wkGoes.f k p (48 + d) (48 + e)) (decide ((e : Int) ∈ (tbl p).getD d [])) := by
  refine Ev.of (k := 100) (spec_wkGoes.mono _ _ _) ?_
  rcases h with rfl | rfl | rfl | rfl
  · exact goes_n ⟨d, hd⟩ ⟨e, he⟩
  · exact goes_k ⟨d, hd⟩ ⟨e, he⟩
  · exact goes_r ⟨d, hd⟩ ⟨e, he⟩
  · exact goes_b ⟨d, hd⟩ ⟨e, he⟩
theorem tbl_shape {p : ByteArray} (h : isPc p) : (tbl p).length = 10 ∧ ∀ l ∈ tbl p, l.length ≤ 8 ∧ ∀ x ∈ l, 0 ≤ x ∧ x < 10 := by
  rcases h with rfl | rfl | rfl | rfl <;> decide +kernel
theorem idx_l0 (l : List Int) (x : Int) (hl : l.length ≤ 1000000) : ∀ (d i : Nat), i + d = l.length → ∃ r, Ev (fun k => slices_Index_int_int.l0 k l x (l.length : Int) i) r ∧ (0 ≤ r ↔ x ∈ l.drop i)
  | 0, i, hi => by
    refine ⟨-1, ?_, ?_⟩
    · apply Ev.succ; simp only [slices_Index_int_int.l0]; exact Ev.neg (by omega) (Ev.now _)
    · rw [List.drop_of_length_le (by omega)]; simp
  | d + 1, i, hi => by
    have hlt : i < l.length := by omega
    obtain ⟨r, hr, h⟩ := idx_l0 l x hl d (i + 1) (by omega)
    rw [List.drop_eq_getElem_cons hlt]
    by_cases e : x = l[i]
    · refine ⟨i, ?_, ?_⟩
      · apply Ev.succ; simp only [slices_Index_int_int.l0]
        rw [rd_nat l i hlt]
        exact Ev.yes (Ev.yes (Ev.yes (Ev.pos e (Ev.now _))))
      · exact ⟨fun _ => List.mem_cons.2 (.inl e), fun _ => by omega⟩
    · refine ⟨r, ?_, ?_⟩
      · apply Ev.succ; simp only [slices_Index_int_int.l0]
        rw [rd_nat l i hlt, wrap_id (by omega) (by omega)]
        refine Ev.yes (Ev.yes (Ev.yes (Ev.neg e ?_)))
        exact_mod_cast hr
      · rw [h, List.mem_cons]
        exact ⟨.inr, fun h' => h'.elim (fun h'' => absurd h'' e) id⟩
theorem contains_ev (l : List Int) (x : Int) (hl : l.length ≤ 1000000) : Ev (fun k => slices_Contains_int_int.f k l x) (decide (x ∈ l)) := by
  obtain ⟨r, hr, h⟩ := idx_l0 l x hl l.length 0 (by omega)
  unfold slices_Contains_int_int.f slices_Index_int_int.f
  refine Ev.bind hr (Ev.const ?_)
  congr 1
  rw [decide_eq_decide]
  rw [List.drop_zero] at h
  exact h
theorem rd_tbl {p : ByteArray} (h : isPc p) (d : Nat) (hd : d < 10) : (tbl p).getD d [] ∈ tbl p := by
  have := (tbl_shape h).1
  rw [List.getD_eq_getElem?_getD, List.getElem?_eq_getElem (by omega)]
  exact List.getElem_mem _
end Go.Proofs.YtbichbiiephmhaaDoor

namespace Go.Proofs.YtbichbiiephmhaaDoor
open Go.RowKit Go.Proofs.YtbichbiiephmhaaDoor.P Go.Proofs.YtbichbiiephmhaaDoorW.PrintWords
set_option linter.unusedSimpArgs false
set_option linter.unusedVariables false
/-! Numbers of walks, step by step: both sides lay the same rows. -/
/-- One key's number: the sum of the next keys' numbers, cut at the greatest. -/
def sumOf (row es : List Int) (a : Int) : Int := es.foldl (fun a e => mn (wrap64 (a + rd row e)) 1000000000000001) a
def stp (tb : List (List Int)) (row : List Int) : List Int := tb.map (fun es => sumOf row es 0)
/-- The row after n steps. -/
def itr (tb : List (List Int)) (row : List Int) : Nat → List Int
  | 0 => row
  | n + 1 => stp tb (itr tb row n)
theorem itr_len {tb : List (List Int)} {row : List Int} (ht : tb.length = 10) (hr : row.length = 10) : ∀ n, (itr tb row n).length = 10
  | 0 => hr
  | n + 1 => by simp [itr, stp, ht]
theorem mid_rd (P Z : List Int) (a : Int) : rd (P ++ a :: Z) (P.length : Int) = a := by
  unfold rd; simp [List.getD_eq_getElem?_getD]
theorem mid_set (P Z : List Int) (a b : Int) : (P ++ a :: Z).set P.length b = P ++ b :: Z := by
  simp [List.set_append]
theorem least_mn (a b : Int) : spec_l1Least.f a b = some (mn a b) := by
  unfold spec_l1Least.f mn; split <;> split <;> first | rfl | (congr 1; omega)
theorem sumOf_step (row es : List Int) (a : Int) (j : Nat) (h : j < es.length) : sumOf row (es.drop j) a = sumOf row (es.drop (j + 1)) (mn (wrap64 (a + rd row es[j])) 1000000000000001) := by
  rw [List.drop_eq_getElem_cons h]; rfl
theorem stepped_l1 (tb : List (List Int)) (row es P Z : List Int) (hr : row.length = 10) (hes : es.length ≤ 8) (hx : ∀ x ∈ es, 0 ≤ x ∧ x < 10) (hP : P.length < 10) (r : List Int) : ∀ (n j : Nat) (a : Int), j + n = es.length →
    Ev (fun k => impl_stepped.l0 k row (P ++ sumOf row (es.drop j) a :: Z) tb 10 ((P.length + 1 : Nat) : Int)) r →
    Ev (fun k => impl_stepped.l1 k row (P ++ a :: Z) P.length tb 10 P.length es (es.length : Int) j) r
  | 0, j, a, hj, h => by
    apply Ev.succ
    simp only [impl_stepped.l1]
    refine Ev.neg (by omega) ?_
    rw [wrap_id (by omega) (by omega)]
    rw [List.drop_of_length_le (by omega)] at h
    exact_mod_cast h
  | n + 1, j, a, hj, h => by
    have hlt : j < es.length := by omega
    have hxj := hx _ (List.getElem_mem hlt)
    apply Ev.succ
    simp only [impl_stepped.l1]
    rw [rd_nat es j hlt, mid_rd, Int.toNat_natCast, mid_set, wrap_id (n := (j : Int) + 1) (by omega) (by omega)]
    refine Ev.pos (by omega) (Ev.pos (by omega) (Ev.pos (by omega) (Ev.pos (by omega) (Ev.pos (by simp; omega) (Ev.pos hxj.1 (Ev.pos (by omega) ?_))))))
    rw [sumOf_step row es a j hlt] at h
    rw [show (j : Int) + 1 = ((j + 1 : Nat) : Int) by omega]
    exact stepped_l1 tb row es P Z hr hes hx hP r n (j + 1) _ (by omega) h
theorem stepped_l0 (tb : List (List Int)) (row : List Int) (ht : tb.length = 10) (htb : ∀ l ∈ tb, l.length ≤ 8 ∧ ∀ x ∈ l, 0 ≤ x ∧ x < 10) (hr : row.length = 10) : ∀ (n : Nat) (P : List Int), P.length + n = 10 →
    Ev (fun k => impl_stepped.l0 k row (P ++ List.replicate n 0) tb 10 P.length) (P ++ (tb.drop P.length).map (fun es => sumOf row es 0))
  | 0, P, hP => by
    apply Ev.succ
    simp only [impl_stepped.l0]
    refine Ev.neg (by omega) (Ev.const ?_)
    rw [List.drop_of_length_le (by omega)]; rfl
  | n + 1, P, hP => by
    have hlt : P.length < tb.length := by omega
    obtain ⟨h8, hx⟩ := htb _ (List.getElem_mem hlt)
    have e : tb.getD (P.length : Int).toNat [] = tb[P.length] := by rw [Int.toNat_natCast, List.getD_eq_getElem?_getD, List.getElem?_eq_getElem hlt]; rfl
    apply Ev.succ
    simp only [impl_stepped.l0]
    refine Ev.pos (by omega) (Ev.pos (by omega) (Ev.pos (by omega) ?_))
    have h := stepped_l0 tb row ht htb hr n (P ++ [sumOf row tb[P.length] 0]) (by simp; omega)
    have h1 := stepped_l1 tb row tb[P.length] P (List.replicate n 0) hr h8 hx (by omega) _ tb[P.length].length 0 0 (by omega) (by
      rw [List.drop_zero]
      simp only [List.append_assoc, List.singleton_append, List.length_append, List.length_cons, List.length_nil] at h
      exact_mod_cast h)
    rw [List.drop_eq_getElem_cons hlt, List.map_cons]
    rw [← e] at h1 ⊢
    rw [List.replicate_succ]
    exact_mod_cast h1
theorem stepped_ev {tb : List (List Int)} {row : List Int} (ht : tb.length = 10) (htb : ∀ l ∈ tb, l.length ≤ 8 ∧ ∀ x ∈ l, 0 ≤ x ∧ x < 10) (hr : row.length = 10) :
    Ev (fun k => impl_stepped.f k tb row) (stp tb row) := by
  unfold impl_stepped.f
  refine Ev.pos (by omega) ?_
  have := stepped_l0 tb row ht htb hr 10 [] (by simp)
  rw [ht]
  simpa [stp] using this
/-- Digits as a text. -/
def digsOf (l : List Int) : ByteArray := ⟨(l.map fun e => UInt8.ofNat (48 + e.toNat)).toArray⟩
theorem wkNext_n : ∀ d : Fin 10, spec_wkNext.f 200 ⟨#[110]⟩ (48 + d.val) = some (digsOf ((tbl ⟨#[110]⟩).getD d.val [])) := by decide +kernel
theorem wkNext_k : ∀ d : Fin 10, spec_wkNext.f 200 ⟨#[107]⟩ (48 + d.val) = some (digsOf ((tbl ⟨#[107]⟩).getD d.val [])) := by decide +kernel
theorem wkNext_r : ∀ d : Fin 10, spec_wkNext.f 200 ⟨#[114]⟩ (48 + d.val) = some (digsOf ((tbl ⟨#[114]⟩).getD d.val [])) := by decide +kernel
theorem wkNext_b : ∀ d : Fin 10, spec_wkNext.f 200 ⟨#[98]⟩ (48 + d.val) = some (digsOf ((tbl ⟨#[98]⟩).getD d.val [])) := by decide +kernel
theorem wkNext_ev {p : ByteArray} (h : isPc p) (d : Nat) (hd : d < 10) : Ev (fun k => spec_wkNext.f k p (48 + d)) (digsOf ((tbl p).getD d [])) := by
  refine Ev.of (k := 200) (spec_wkNext.mono _ _) ?_
  rcases h with rfl | rfl | rfl | rfl
  · exact wkNext_n ⟨d, hd⟩
  · exact wkNext_k ⟨d, hd⟩
  · exact wkNext_r ⟨d, hd⟩
  · exact wkNext_b ⟨d, hd⟩
theorem digsOf_len (l : List Int) : (digsOf l).size = l.length := by show (List.toArray _).size = _; simp
theorem digsOf_bt (l : List Int) (hx : ∀ x ∈ l, 0 ≤ x ∧ x < 10) (j : Nat) (h : j < l.length) : bt (digsOf l) (j : Int) = 48 + l[j] := by
  have hl : (bl (digsOf l)).length = l.length := by rw [← bl_len, digsOf_len]
  rw [bt_nat (digsOf l) j (by omega)]
  have e : (bl (digsOf l))[j]'(by omega) = UInt8.ofNat (48 + l[j].toNat) := by
    have : bl (digsOf l) = l.map fun e => UInt8.ofNat (48 + e.toNat) := by show (List.toArray _).toList = _; simp
    simp only [this, List.getElem_map]
  rw [e]
  have hx' := hx _ (List.getElem_mem h)
  rw [UInt8.toNat_ofNat']
  omega
theorem wkTable_l3 {p : ByteArray} (s : Int) (row es P Z : List Int) (x9 : List (List Int)) (hr : row.length = 10) (hes : es.length ≤ 8) (hx : ∀ x ∈ es, 0 ≤ x ∧ x < 10) (hP : P.length < 10) (hZ : P.length + 1 + Z.length = 10) (r : List (List Int)) : ∀ (n j : Nat) (a : Int), j + n = es.length →
    Ev (fun k => spec_wkTable.l2 k p s row x9 (P ++ sumOf row (es.drop j) a :: Z) 10 ((P.length + 1 : Nat) : Int)) r →
    Ev (fun k => spec_wkTable.l3 k p s row x9 (P ++ a :: Z) P.length (digsOf es) j 10 P.length) r
  | 0, j, a, hj, h => by
    apply Ev.succ
    simp only [spec_wkTable.l3]
    refine Ev.neg (by rw [digsOf_len]; omega) ?_
    rw [wrap_id (by omega) (by omega)]
    rw [List.drop_of_length_le (by omega)] at h
    exact_mod_cast h
  | n + 1, j, a, hj, h => by
    have hlt : j < es.length := by omega
    have hxj := hx _ (List.getElem_mem hlt)
    have e8 : (48 + es[j] - 48) % 256 = es[j] := by rw [show 48 + es[j] - 48 = es[j] by omega]; exact Int.emod_eq_of_lt (by omega) (by omega)
    apply Ev.succ
    simp only [spec_wkTable.l3]
    rw [digsOf_bt es hx j hlt, e8, mid_rd, Int.toNat_natCast, wrap_id (n := (j : Int) + 1) (by omega) (by omega)]
    refine Ev.pos (by rw [digsOf_len]; omega) (Ev.pos (by omega) (Ev.pos (by simp; omega) (Ev.pos (by omega) (Ev.pos hxj.1 (Ev.pos (by omega) (Ev.bindc (least_mn _ _) ?_))))))
    rw [mid_set]
    rw [sumOf_step row es a j hlt] at h
    rw [show (j : Int) + 1 = ((j + 1 : Nat) : Int) by omega]
    exact wkTable_l3 s row es P Z x9 hr hes hx hP hZ r n (j + 1) _ (by omega) h
theorem wkTable_l2 {p : ByteArray} (hp : isPc p) (s : Int) (row : List Int) (x9 : List (List Int)) (hr : row.length = 10) (h9 : x9.length < 1000000) (r : List (List Int))
    (h : Ev (fun k => spec_wkTable.l1 k p (wrap64 (s - 1)) (stp (tbl p) row) (x9 ++ [stp (tbl p) row])) r) : ∀ (n : Nat) (P : List Int), P.length + n = 10 → P = ((tbl p).take P.length).map (fun es => sumOf row es 0) →
    Ev (fun k => spec_wkTable.l2 k p s row x9 (P ++ List.replicate n 0) 10 P.length) r
  | 0, P, hP, hq => by
    have e : P = stp (tbl p) row := by
      rw [hq, List.take_of_length_le (by rw [(tbl_shape hp).1]; omega)]; rfl
    apply Ev.succ
    simp only [spec_wkTable.l2]
    refine Ev.neg (by omega) (Ev.pos (by omega) ?_)
    rw [List.replicate_zero, List.append_nil, e]
    exact h
  | n + 1, P, hP, hq => by
    obtain ⟨h10, htb⟩ := tbl_shape hp
    have hlt : P.length < (tbl p).length := by omega
    obtain ⟨h8, hx⟩ := htb _ (List.getElem_mem hlt)
    have e : (tbl p).getD P.length [] = (tbl p)[P.length] := by rw [List.getD_eq_getElem?_getD, List.getElem?_eq_getElem hlt]; rfl
    apply Ev.succ
    simp only [spec_wkTable.l2]
    refine Ev.pos (by omega) ?_
    have e1 : wrap64 (48 + (P.length : Int)) % 256 = 48 + (P.length : Int) := by rw [wrap_id (by omega) (by omega)]; exact Int.emod_eq_of_lt (by omega) (by omega)
    rw [e1]
    refine Ev.bind (wkNext_ev hp P.length (by omega)) ?_
    rw [e, List.replicate_succ]
    have h2 := wkTable_l2 hp s row x9 hr h9 r h n (P ++ [sumOf row (tbl p)[P.length] 0]) (by simp; omega) (by
      rw [List.length_append, List.length_singleton, List.take_succ_eq_append_getElem hlt, List.map_append, ← hq]; rfl)
    exact wkTable_l3 s row (tbl p)[P.length] P (List.replicate n 0) x9 hr h8 hx (by omega) (by simp; omega) r (tbl p)[P.length].length 0 0 (by omega) (by
      rw [List.drop_zero]
      simp only [List.append_assoc, List.singleton_append, List.length_append, List.length_cons, List.length_nil] at h2
      exact_mod_cast h2)
/-- The rows of so many steps. -/
def rowsOf (tb : List (List Int)) (row : List Int) (n : Nat) : List (List Int) := (List.range (n + 1)).map (itr tb row)
theorem rowsOf_succ (tb : List (List Int)) (row : List Int) (n : Nat) : rowsOf tb row (n + 1) = rowsOf tb row n ++ [itr tb row (n + 1)] := by
  unfold rowsOf; rw [List.range_succ, List.map_append]; rfl
theorem wkTable_l1 {p : ByteArray} (hp : isPc p) (row : List Int) (hr : row.length = 10) : ∀ (n i : Nat), i + n ≤ 1000 →
    Ev (fun k => spec_wkTable.l1 k p n (itr (tbl p) row i) (rowsOf (tbl p) row i)) (rowsOf (tbl p) row (i + n))
  | 0, i, hi => by
    apply Ev.succ
    simp only [spec_wkTable.l1]
    exact Ev.neg (by omega) (Ev.now _)
  | n + 1, i, hi => by
    apply Ev.succ
    simp only [spec_wkTable.l1]
    refine Ev.pos (by omega) (Ev.pos (by omega) (Ev.bindc rfl ?_))
    have h := wkTable_l1 hp row hr n (i + 1) (by omega)
    rw [rowsOf_succ] at h
    have e : wrap64 (((n + 1 : Nat) : Int) - 1) = n := by rw [wrap_id (by omega) (by omega)]; omega
    have := wkTable_l2 hp ((n + 1 : Nat) : Int) (itr (tbl p) row i) (rowsOf (tbl p) row i) (itr_len (tbl_shape hp).1 hr i) (by unfold rowsOf; simp; omega) _ (by rw [e]; exact h) 10 [] (by simp) (by simp)
    rw [show i + (n + 1) = i + 1 + n by omega]
    simpa using this
/-- The first row: to one digit (as a sign), or to any. -/
def row0 (t0 : Int) : List Int := (List.range 10).map fun d : Nat => if t0 = 0 ∨ (d : Int) = (t0 - 48) % 256 then 1 else 0
theorem wkTable_l0 {p : ByteArray} (s t0 : Int) (r : List (List Int)) (h : Ev (fun k => spec_wkTable.l1 k p s (row0 t0) [row0 t0]) r) : ∀ (n : Nat) (P : List Int), P.length + n = 10 → P = (List.range P.length).map (fun d : Nat => if t0 = 0 ∨ (d : Int) = (t0 - 48) % 256 then 1 else 0) →
    Ev (fun k => spec_wkTable.l0 k p s t0 (P ++ List.replicate n 0) 10 P.length) r
  | 0, P, hP, hq => by
    have e : P = row0 t0 := by rw [hq, show P.length = 10 by omega]; rfl
    apply Ev.succ
    simp only [spec_wkTable.l0]
    refine Ev.neg (by omega) ?_
    rw [List.replicate_zero, List.append_nil, e]
    exact h
  | n + 1, P, hP, hq => by
    apply Ev.succ
    simp only [spec_wkTable.l0]
    refine Ev.pos (by omega) ?_
    rw [List.replicate_succ, Int.toNat_natCast, mid_set, wrap_id (n := (P.length : Int) + 1) (by omega) (by omega)]
    have nx : ∀ v, v = (if t0 = 0 ∨ (P.length : Int) = (t0 - 48) % 256 then 1 else 0) → Ev (fun k => spec_wkTable.l0 k p s t0 (P ++ v :: List.replicate n 0) 10 ((P.length : Int) + 1)) r := by
      intro v hv
      have := wkTable_l0 s t0 r h n (P ++ [v]) (by simp; omega) (by
        rw [List.length_append, List.length_singleton, List.range_succ, List.map_append, ← hq, hv]; rfl)
      simp only [List.append_assoc, List.singleton_append, List.length_append, List.length_cons, List.length_nil] at this
      exact_mod_cast this
    by_cases c : t0 = 0
    · refine Ev.pos c (Ev.pos (by omega) (Ev.pos (by simp; omega) ?_))
      exact nx 1 (by rw [if_pos (.inl c)])
    · refine Ev.neg c ?_
      by_cases c2 : (P.length : Int) = (t0 - 48) % 256
      · refine Ev.pos c2 (Ev.pos (by omega) (Ev.pos (by simp; omega) ?_))
        exact nx 1 (by rw [if_pos (.inr c2)])
      · refine Ev.neg c2 ?_
        exact nx 0 (by rw [if_neg (fun h' => h'.elim c c2)])
theorem row0_len (t0 : Int) : (row0 t0).length = 10 := by simp [row0]
theorem wkTable_ev {p : ByteArray} (hp : isPc p) (n : Nat) (hn : n ≤ 1000) (t0 : Int) : Ev (fun k => spec_wkTable.f k p n t0) (rowsOf (tbl p) (row0 t0) n) := by
  unfold spec_wkTable.f
  refine Ev.pos (by omega) (Ev.bindc rfl ?_)
  have h := wkTable_l1 hp (row0 t0) (row0_len t0) n 0 (by omega)
  rw [Nat.zero_add] at h
  have := wkTable_l0 n t0 _ h 10 [] (by simp) (by simp)
  simpa using this
theorem rowsOf_at (tb : List (List Int)) (row : List Int) (n i : Nat) (h : i ≤ n) : (rowsOf tb row n).getD (i : Int).toNat [] = itr tb row i := by
  unfold rowsOf
  rw [Int.toNat_natCast, List.getD_eq_getElem?_getD, List.getElem?_eq_getElem (by simp; omega)]
  simp
theorem rowsOf_len (tb : List (List Int)) (row : List Int) (n : Nat) : (rowsOf tb row n).length = n + 1 := by simp [rowsOf]
end Go.Proofs.YtbichbiiephmhaaDoor

namespace Go.Proofs.YtbichbiiephmhaaDoor
open Go.RowKit Go.Proofs.YtbichbiiephmhaaDoor.P Go.Proofs.YtbichbiiephmhaaDoorW.PrintWords
set_option linter.unusedSimpArgs false
set_option linter.unusedVariables false
theorem row0_any : row0 0 = List.replicate 10 1 := by decide
theorem numbers_l0 {p : ByteArray} (hp : isPc p) (n : Nat) (hn : n ≤ 1000) : ∀ (d i : Nat), i + d = n →
    Ev (fun k => impl_numbers.l0 k (itr (tbl p) (row0 0) i) (tbl p) n i) (itr (tbl p) (row0 0) n)
  | 0, i, hi => by
    apply Ev.succ
    simp only [impl_numbers.l0]
    refine Ev.neg (by omega) (Ev.const ?_)
    rw [show i = n by omega]
  | d + 1, i, hi => by
    obtain ⟨h10, htb⟩ := tbl_shape hp
    apply Ev.succ
    simp only [impl_numbers.l0]
    refine Ev.pos (by omega) (Ev.bind (stepped_ev h10 htb (itr_len h10 (row0_len 0) i)) ?_)
    rw [wrap_id (by omega) (by omega), show (i : Int) + 1 = ((i + 1 : Nat) : Int) by omega]
    exact numbers_l0 hp n hn d (i + 1) (by omega)
theorem numbers_ev {p : ByteArray} (hp : isPc p) (n : Nat) (hn : n ≤ 1000) : Ev (fun k => impl_numbers.f k p ((n : Int) + 1)) (itr (tbl p) (row0 0) n) := by
  unfold impl_numbers.f
  refine Ev.bindc (x := List.replicate 10 1) rfl (Ev.bind (moves_ev hp) ?_)
  rw [show wrap64 ((n : Int) + 1 - 1) = n by rw [wrap_id (by omega) (by omega)]; omega, ← row0_any]
  exact numbers_l0 hp n hn n 0 (by omega)
end Go.Proofs.YtbichbiiephmhaaDoor

namespace Go.Proofs.YtbichbiiephmhaaDoor
open Go.RowKit Go.Proofs.YtbichbiiephmhaaDoor.P Go.Proofs.YtbichbiiephmhaaDoorW.PrintWords
set_option linter.unusedSimpArgs false
set_option linter.unusedVariables false
theorem mn_bd' (a b : Int) (ha : 0 ≤ a) (hb : 0 ≤ b) : 0 ≤ mn a b ∧ mn a b ≤ b := by unfold mn; split <;> omega
theorem rd_bd (row : List Int) (h : ∀ x ∈ row, 0 ≤ x ∧ x ≤ 1000000000000001) (e : Int) : 0 ≤ rd row e ∧ rd row e ≤ 1000000000000001 := by
  unfold rd
  rw [List.getD_eq_getElem?_getD]
  cases h' : row[e.toNat]? with
  | none => simp
  | some x => exact h x (List.mem_of_getElem? h')
theorem sumOf_bd (row : List Int) (h : ∀ x ∈ row, 0 ≤ x ∧ x ≤ 1000000000000001) : ∀ (es : List Int) (a : Int), 0 ≤ a → a ≤ 1000000000000001 → 0 ≤ sumOf row es a ∧ sumOf row es a ≤ 1000000000000001
  | [], a, h0, h1 => ⟨h0, h1⟩
  | e :: es, a, h0, h1 => by
    have hr := rd_bd row h e
    have hm := mn_bd' (wrap64 (a + rd row e)) 1000000000000001 (by rw [wrap_id (by omega) (by omega)]; omega) (by omega)
    exact sumOf_bd row h es _ hm.1 hm.2
theorem itr_bd (tb : List (List Int)) (row : List Int) (h : ∀ x ∈ row, 0 ≤ x ∧ x ≤ 1000000000000001) : ∀ n, ∀ x ∈ itr tb row n, 0 ≤ x ∧ x ≤ 1000000000000001
  | 0 => h
  | n + 1 => by
    intro x hx
    simp only [itr, stp, List.mem_map] at hx
    obtain ⟨es, _, rfl⟩ := hx
    exact sumOf_bd _ (itr_bd tb row h n) es 0 (by omega) (by omega)
theorem row0_bd : ∀ x ∈ row0 0, 0 ≤ x ∧ x ≤ 1000000000000001 := by decide
end Go.Proofs.YtbichbiiephmhaaDoor

namespace Go.Proofs.YtbichbiiephmhaaDoor
open Go.RowKit Go.Proofs.YtbichbiiephmhaaDoor.P Go.Proofs.YtbichbiiephmhaaDoorW.PrintWords
set_option linter.unusedSimpArgs false
set_option linter.unusedVariables false
theorem digitSign : ∀ d : Fin 10, bt (⟨#[48, 49, 50, 51, 52, 53, 54, 55, 56, 57]⟩ : ByteArray) (d.val : Int) = 48 + (d.val : Int) := by decide +kernel
theorem digitText_l0 (l : List Int) (hl : l.length ≤ 1000000) (hd : ∀ x ∈ l, 0 ≤ x ∧ x < 10) : ∀ (d i : Nat) (out : List Int), i + d = l.length → out.length + d ≤ 2000000 →
    Ev (fun k => impl_digitText.l0 k out l (l.length : Int) i) (strOfNums (out ++ (l.drop i).map (48 + ·)))
  | 0, i, out, hi, ho => by
    apply Ev.succ; simp only [impl_digitText.l0]
    refine Ev.neg (by omega) (Ev.const ?_)
    rw [List.drop_of_length_le (by omega)]; simp
  | d + 1, i, out, hi, ho => by
    have hlt : i < l.length := by omega
    have hb := hd _ (List.getElem_mem hlt)
    apply Ev.succ; simp only [impl_digitText.l0]
    rw [rd_nat l i hlt, wrap_id (by omega) (by omega)]
    refine Ev.yes (Ev.yes (Ev.yes (Ev.yes (Ev.yes (Ev.yes ?_)))))
    obtain ⟨n, hn⟩ := Int.eq_ofNat_of_zero_le hb.1
    have e := digitSign ⟨n, by omega⟩
    rw [List.drop_eq_getElem_cons hlt, List.map_cons, hn]
    simp only at e
    rw [e]
    have := digitText_l0 l hl hd d (i + 1) (out ++ [48 + (n : Int)]) (by omega) (by simp; omega)
    rw [List.append_assoc] at this
    exact_mod_cast this
theorem digitText_ev (l : List Int) (hl : l.length ≤ 1000000) (hd : ∀ x ∈ l, 0 ≤ x ∧ x < 10) : Ev (fun k => impl_digitText.f k l) (strOfNums (l.map (48 + ·))) := by
  unfold impl_digitText.f
  have := digitText_l0 l hl hd l.length 0 [] (by omega) (by simp; omega)
  simpa using this
end Go.Proofs.YtbichbiiephmhaaDoor

namespace Go.Proofs.YtbichbiiephmhaaDoor
open Go.RowKit Go.Proofs.YtbichbiiephmhaaDoor.P Go.Proofs.YtbichbiiephmhaaDoorW.PrintWords
set_option linter.unusedSimpArgs false
set_option linter.unusedVariables false
theorem nexts_n : ∀ d : Fin 10, impl_nexts.f 200 ⟨#[110]⟩ (d.val : Int) = some ((tbl ⟨#[110]⟩).getD d.val []) := by decide +kernel
theorem nexts_k : ∀ d : Fin 10, impl_nexts.f 200 ⟨#[107]⟩ (d.val : Int) = some ((tbl ⟨#[107]⟩).getD d.val []) := by decide +kernel
theorem nexts_r : ∀ d : Fin 10, impl_nexts.f 200 ⟨#[114]⟩ (d.val : Int) = some ((tbl ⟨#[114]⟩).getD d.val []) := by decide +kernel
theorem nexts_b : ∀ d : Fin 10, impl_nexts.f 200 ⟨#[98]⟩ (d.val : Int) = some ((tbl ⟨#[98]⟩).getD d.val []) := by decide +kernel
theorem nexts_ev {p : ByteArray} (h : isPc p) (d : Nat) (hd : d < 10) : Ev (fun k => impl_nexts.f k p d) ((tbl p).getD d []) := by
  refine Ev.of (k := 200) (impl_nexts.mono _ _) ?_
  rcases h with rfl | rfl | rfl | rfl
  · exact nexts_n ⟨d, hd⟩
  · exact nexts_k ⟨d, hd⟩
  · exact nexts_r ⟨d, hd⟩
  · exact nexts_b ⟨d, hd⟩
/-- The next digit for a rank, and the rank behind it (the digit itself if there is none). -/
def pickP (row : List Int) (d : Int) : List Int → Int → Int × Int
  | [], rk => (d, rk)
  | e :: es, rk => if rk < rd row e then (e, rk) else pickP row d es (wrap64 (rk - rd row e))
def walkR (tb : List (List Int)) : Nat → Int → Int → List Int
  | 0, _, _ => []
  | r + 1, d, rk => (pickP (itr tb (row0 0) r) d (tb.getD d.toNat []) rk).1 :: walkR tb r (pickP (itr tb (row0 0) r) d (tb.getD d.toNat []) rk).1 (pickP (itr tb (row0 0) r) d (tb.getD d.toNat []) rk).2
theorem pickP_dig (row : List Int) (d : Int) (hd : 0 ≤ d ∧ d < 10) : ∀ (es : List Int) (rk : Int), (∀ x ∈ es, 0 ≤ x ∧ x < 10) → 0 ≤ (pickP row d es rk).1 ∧ (pickP row d es rk).1 < 10
  | [], rk, _ => hd
  | e :: es, rk, h => by
    simp only [pickP]
    split
    · exact h e List.mem_cons_self
    · exact pickP_dig row d hd es _ (fun x hx => h x (List.mem_cons_of_mem _ hx))
theorem walkR_dig {p : ByteArray} (hp : isPc p) : ∀ (r : Nat) (d rk : Int), 0 ≤ d ∧ d < 10 → ∀ x ∈ walkR (tbl p) r d rk, 0 ≤ x ∧ x < 10
  | 0, d, rk, hd => by simp [walkR]
  | r + 1, d, rk, hd => by
    have hx := ((tbl_shape hp).2 _ (rd_tbl hp d.toNat (by omega))).2
    have h1 := pickP_dig (itr (tbl p) (row0 0) r) d hd _ rk hx
    intro x h
    simp only [walkR, List.mem_cons] at h
    rcases h with rfl | h
    · exact h1
    · exact walkR_dig hp r _ _ h1 x h
theorem walkR_len (tb : List (List Int)) : ∀ (r : Nat) (d rk : Int), (walkR tb r d rk).length = r
  | 0, _, _ => rfl
  | r + 1, d, rk => by simp [walkR, walkR_len tb r]
theorem impl_l1 {p : ByteArray} (d : Int) (lst : List Int) (r : Int) (row : List Int) (hr : row.length = 10) (es : List Int) (hes : es.length ≤ 8) (hx : ∀ x ∈ es, 0 ≤ x ∧ x < 10) (hl : lst.length ≤ 1000) (res : ByteArray × Bool) : ∀ (n j : Nat) (rk : Int), j + n = es.length →
    Ev (fun k => impl_NumberOfRank.l0 k p (pickP row d (es.drop j) rk).2 (pickP row d (es.drop j) rk).1 (lst ++ [(pickP row d (es.drop j) rk).1]) (wrap64 (r - 1))) res →
    Ev (fun k => impl_NumberOfRank.l1 k p rk d lst r row es (es.length : Int) j) res
  | 0, j, rk, hj, h => by
    apply Ev.succ
    simp only [impl_NumberOfRank.l1]
    refine Ev.neg (by omega) (Ev.pos (by omega) ?_)
    rw [List.drop_of_length_le (by omega)] at h
    exact h
  | n + 1, j, rk, hj, h => by
    have hlt : j < es.length := by omega
    have hxj := hx _ (List.getElem_mem hlt)
    apply Ev.succ
    simp only [impl_NumberOfRank.l1]
    rw [rd_nat es j hlt, wrap_id (n := (j : Int) + 1) (by omega) (by omega)]
    refine Ev.pos (by omega) (Ev.pos (by omega) (Ev.pos (by omega) (Ev.pos hxj.1 (Ev.pos (by omega) ?_))))
    rw [List.drop_eq_getElem_cons hlt, pickP] at h
    by_cases c : rk < rd row es[j]
    · rw [if_pos c] at h
      exact Ev.pos c (Ev.pos (by omega) h)
    · rw [if_neg c] at h
      refine Ev.neg c ?_
      rw [show (j : Int) + 1 = ((j + 1 : Nat) : Int) by omega]
      exact impl_l1 d lst r row hr es hes hx hl res n (j + 1) _ (by omega) h
theorem impl_l0 {p : ByteArray} (hp : isPc p) : ∀ (r : Nat) (d : Nat) (rk : Int) (lst : List Int), d < 10 → r + lst.length ≤ 1000 → (∀ x ∈ lst, 0 ≤ x ∧ x < 10) →
    Ev (fun k => impl_NumberOfRank.l0 k p rk d lst r) (strOfNums ((lst ++ walkR (tbl p) r d rk).map (48 + ·)), true)
  | 0, d, rk, lst, hd, hl, hx => by
    apply Ev.succ
    simp only [impl_NumberOfRank.l0]
    refine Ev.neg (by omega) ?_
    rw [walkR, List.append_nil]
    exact Ev.bind (digitText_ev lst (by omega) hx) (Ev.now _)
  | r + 1, d, rk, lst, hd, hl, hx => by
    obtain ⟨h8, hx8⟩ := (tbl_shape hp).2 _ (rd_tbl hp d hd)
    have hq := pickP_dig (itr (tbl p) (row0 0) r) (d : Int) ⟨by omega, by omega⟩ ((tbl p).getD d []) rk hx8
    obtain ⟨e, he⟩ : ∃ e : Nat, (pickP (itr (tbl p) (row0 0) r) (d : Int) ((tbl p).getD d []) rk).1 = e := ⟨_, (Int.toNat_of_nonneg hq.1).symm⟩
    apply Ev.succ
    simp only [impl_NumberOfRank.l0]
    refine Ev.pos (by omega) ?_
    rw [show (((r + 1 : Nat) : Int)) = (r : Int) + 1 by omega]
    refine Ev.bind (numbers_ev hp r (by omega)) (Ev.bind (nexts_ev hp d hd) ?_)
    refine impl_l1 (d : Int) lst ((r : Int) + 1) _ (itr_len (tbl_shape hp).1 (row0_len 0) r) _ h8 hx8 (by omega) _ ((tbl p).getD d []).length 0 rk (by omega) ?_
    rw [List.drop_zero, he, show wrap64 ((r : Int) + 1 - 1) = r by rw [wrap_id (by omega) (by omega)]; omega]
    have h := impl_l0 hp r e (pickP (itr (tbl p) (row0 0) r) (d : Int) ((tbl p).getD d []) rk).2 (lst ++ [(e : Int)]) (by omega) (by simp; omega) (by
      intro x hx'
      rcases List.mem_append.1 hx' with h' | h'
      · exact hx x h'
      · rw [List.mem_singleton] at h'; omega)
    have ew : lst ++ walkR (tbl p) (r + 1) d rk = lst ++ [(e : Int)] ++ walkR (tbl p) r e (pickP (itr (tbl p) (row0 0) r) (d : Int) ((tbl p).getD d []) rk).2 := by
      rw [walkR, Int.toNat_natCast, he, List.append_assoc]; rfl
    rw [ew]
    exact h
theorem sign_enc (e : Nat) (h : e < 10) : Utf8.encode (wrap32 (48 + (e : Int))) = ⟨#[UInt8.ofNat (48 + e)]⟩ := by
  have : ∀ e : Fin 10, Utf8.encode (wrap32 (48 + (e.val : Int))) = ⟨#[UInt8.ofNat (48 + e.val)]⟩ := by decide +kernel
  exact this ⟨e, h⟩
def signs (l : List Int) : List UInt8 := l.map fun e => UInt8.ofNat (48 + e.toNat)
theorem bl_snoc (out : ByteArray) (c : UInt8) : bl (out ++ ⟨#[c]⟩) = bl out ++ [c] := by
  show ((out ++ ⟨#[c]⟩ : ByteArray).data).toList = _
  rw [ByteArray.data_append, Array.toList_append]; rfl
theorem spec_l1 {p : ByteArray} (d : Nat) (hd : d < 10) (out : ByteArray) (ho : (bl out).length ≤ 1000) (r : Nat) (rows : List (List Int)) (row : List Int) (hrw : rows.getD r [] = row) (hrl : r < rows.length) (hr : row.length = 10) (hr1 : r ≤ 1000) (es : List Int) (hes : es.length ≤ 8) (hx : ∀ x ∈ es, 0 ≤ x ∧ x < 10) (Q : ByteArray × Bool → Prop) : ∀ (n j : Nat) (rk : Int), j + n = es.length →
    (∃ q, Ev (fun k => spec_NumberOfRank.l0 k p (pickP row d (es.drop j) rk).2 rows (out ++ Utf8.encode (wrap32 (48 + (pickP row d (es.drop j) rk).1))) (48 + (pickP row d (es.drop j) rk).1) (wrap64 (r - 1))) q ∧ Q q) →
    ∃ q, Ev (fun k => spec_NumberOfRank.l1 k p rk rows out (48 + d) r (digsOf es) j) q ∧ Q q
  | 0, j, rk, hj, h => by
    rw [List.drop_of_length_le (by omega)] at h
    obtain ⟨q, h1, h2⟩ := h
    refine ⟨q, ?_, h2⟩
    apply Ev.succ
    simp only [spec_NumberOfRank.l1]
    refine Ev.neg (by rw [digsOf_len]; omega) (Ev.pos ?_ h1)
    rw [sign_enc d hd]
    have : out.size = (bl out).length := rfl
    show out.size + 1 ≤ _
    omega
  | n + 1, j, rk, hj, h => by
    have hlt : j < es.length := by omega
    have hxj := hx _ (List.getElem_mem hlt)
    have e8 : (48 + es[j] - 48) % 256 = es[j] := by rw [show 48 + es[j] - 48 = es[j] by omega]; exact Int.emod_eq_of_lt (by omega) (by omega)
    have erow : rd_L4 rows (r : Int) = row := by unfold rd_L4; rw [Int.toNat_natCast]; exact hrw
    rw [List.drop_eq_getElem_cons hlt, pickP] at h
    have step : ∀ q, Ev (fun k => if rk < rd row es[j] then (if out.size + (Utf8.encode (wrap32 (48 + es[j]))).size ≤ 9223372036854775807 then (spec_NumberOfRank.l0 k p rk rows (out ++ (Utf8.encode (wrap32 (48 + es[j])))) (48 + es[j]) (wrap64 (r - 1))) else none) else (spec_NumberOfRank.l1 k p (wrap64 (rk - rd row es[j])) rows out (48 + d) r (digsOf es) (wrap64 ((j : Int) + 1)))) q → Ev (fun k => spec_NumberOfRank.l1 k p rk rows out (48 + d) r (digsOf es) j) q := by
      intro q hq
      apply Ev.succ
      simp only [spec_NumberOfRank.l1]
      rw [digsOf_bt es hx j hlt, e8, erow]
      exact Ev.pos (by rw [digsOf_len]; omega) (Ev.pos (by omega) (Ev.pos (by omega) (Ev.pos (by omega) (Ev.pos hxj.1 (Ev.pos (by omega) hq)))))
    by_cases c : rk < rd row es[j]
    · rw [if_pos c] at h
      obtain ⟨q, h1, h2⟩ := h
      refine ⟨q, step q (Ev.pos c (Ev.pos ?_ h1)), h2⟩
      obtain ⟨e, he⟩ : ∃ e : Nat, es[j] = e := ⟨_, (Int.toNat_of_nonneg hxj.1).symm⟩
      rw [he, sign_enc e (by omega)]
      have : out.size = (bl out).length := rfl
      show out.size + 1 ≤ _
      omega
    · rw [if_neg c] at h
      obtain ⟨q, h1, h2⟩ := spec_l1 d hd out ho r rows row hrw hrl hr hr1 es hes hx Q n (j + 1) _ (by omega) h
      refine ⟨q, step q (Ev.neg c ?_), h2⟩
      rw [wrap_id (n := (j : Int) + 1) (by omega) (by omega), show (j : Int) + 1 = ((j + 1 : Nat) : Int) by omega]
      exact h1
theorem spec_l0 {p : ByteArray} (hp : isPc p) (m : Nat) (hm : m ≤ 1000) : ∀ (r : Nat) (d : Nat) (rk : Int) (out : ByteArray), d < 10 → r ≤ m → r + (bl out).length ≤ 1000 →
    ∃ q, Ev (fun k => spec_NumberOfRank.l0 k p rk (rowsOf (tbl p) (row0 0) m) out (48 + d) ((r : Int) - 1)) q ∧ (bl q.1 = bl out ++ signs (walkR (tbl p) r d rk) ∧ q.2 = true)
  | 0, d, rk, out, hd, hr, hl => by
    refine ⟨(out, true), ?_, by simp [walkR, signs], rfl⟩
    apply Ev.succ
    simp only [spec_NumberOfRank.l0]
    exact Ev.neg (by omega) (Ev.now _)
  | r + 1, d, rk, out, hd, hr, hl => by
    obtain ⟨h8, hx8⟩ := (tbl_shape hp).2 _ (rd_tbl hp d hd)
    have hq := pickP_dig (itr (tbl p) (row0 0) r) (d : Int) ⟨by omega, by omega⟩ ((tbl p).getD d []) rk hx8
    obtain ⟨e, he⟩ : ∃ e : Nat, (pickP (itr (tbl p) (row0 0) r) (d : Int) ((tbl p).getD d []) rk).1 = e := ⟨_, (Int.toNat_of_nonneg hq.1).symm⟩
    have he10 : e < 10 := by omega
    have h := spec_l0 hp m hm r e (pickP (itr (tbl p) (row0 0) r) (d : Int) ((tbl p).getD d []) rk).2 (out ++ ⟨#[UInt8.ofNat (48 + e)]⟩) he10 (by omega) (by rw [bl_snoc]; simp; omega)
    have h2 := spec_l1 (p := p) d hd out (by omega) r (rowsOf (tbl p) (row0 0) m) (itr (tbl p) (row0 0) r) (by have := rowsOf_at (tbl p) (row0 0) m r (by omega); rwa [Int.toNat_natCast] at this) (by rw [rowsOf_len]; omega) (itr_len (tbl_shape hp).1 (row0_len 0) r) (by omega) _ h8 hx8
      (fun q => bl q.1 = bl out ++ signs (walkR (tbl p) (r + 1) d rk) ∧ q.2 = true) ((tbl p).getD d []).length 0 rk (by omega) (by
        rw [List.drop_zero, he, sign_enc e he10, wrap_id (n := (r : Int) - 1) (by omega) (by omega)]
        obtain ⟨q, h1, h2, h3⟩ := h
        refine ⟨q, h1, ?_, h3⟩
        rw [h2, bl_snoc, walkR, Int.toNat_natCast, he, List.append_assoc]; rfl)
    obtain ⟨q, h3, h4⟩ := h2
    refine ⟨q, ?_, h4⟩
    apply Ev.succ
    simp only [spec_NumberOfRank.l0]
    rw [show (((r + 1 : Nat) : Int) - 1) = (r : Int) by omega]
    exact Ev.pos (by omega) (Ev.bind (wkNext_ev hp d hd) h3)
theorem strOf_signs (l : List Int) (h : ∀ x ∈ l, 0 ≤ x ∧ x < 10) : bl (strOfNums (l.map (48 + ·))) = signs l := by
  unfold signs
  rw [bl_nums, List.map_map]
  apply List.map_congr_left
  intro x hx
  have := h x hx
  show UInt8.ofNat (48 + x).toNat = UInt8.ofNat (48 + x.toNat)
  congr 1; omega
end Go.Proofs.YtbichbiiephmhaaDoor

namespace Go.Proofs.YtbichbiiephmhaaDoor
open Go.RowKit Go.Proofs.YtbichbiiephmhaaDoor.P Go.Proofs.YtbichbiiephmhaaDoorW.PrintWords
set_option linter.unusedSimpArgs false
set_option linter.unusedVariables false
/-- A number that is not too great. -/
def fewP (n : Int) : Int × Bool := if n > 1000000000000000 then (0, false) else (n, true)
theorem few_eq (n : Int) : impl_few.f n = some (fewP n) := by unfold impl_few.f fewP; split <;> rfl
theorem wkCount_ev {p : ByteArray} (hp : isPc p) (e n : Nat) (he : e < 10) (hn : n ≤ 1000) (t0 : Int) : Ev (fun k => spec_wkCount.f k p (48 + e) t0 n) (fewP (rd (itr (tbl p) (row0 t0) n) e)) := by
  unfold spec_wkCount.f
  refine Ev.bind (wkTable_ev hp n hn t0) ?_
  have e1 : (48 + (e : Int) - 48) % 256 = e := by rw [show 48 + (e : Int) - 48 = e by omega]; exact Int.emod_eq_of_lt (by omega) (by omega)
  have e2 : rd_L4 (rowsOf (tbl p) (row0 t0) n) n = itr (tbl p) (row0 t0) n := rowsOf_at _ _ _ _ (Nat.le_refl _)
  rw [e1, e2]
  have hl := itr_len (tbl_shape hp).1 (row0_len t0) n
  refine Ev.pos (by omega) (Ev.pos (by rw [rowsOf_len]; omega) (Ev.pos (by omega) (Ev.pos (by omega) (Ev.const ?_))))
  unfold fewP; split <;> rfl
theorem sign_bt (d : Nat) (h : d < 10) : bt (⟨#[UInt8.ofNat (48 + d)]⟩ : ByteArray) 0 = 48 + d := by
  have : ∀ d : Fin 10, bt (⟨#[UInt8.ofNat (48 + d.val)]⟩ : ByteArray) 0 = 48 + d.val := by decide
  exact this ⟨d, h⟩
theorem sign_size (d : Nat) : (0 : Int) < ((⟨#[UInt8.ofNat (48 + d)]⟩ : ByteArray).size : Int) := by show (0 : Int) < ((1 : Nat) : Int); omega
theorem digit_sign (d : Nat) (h : d < 10) : ((48 + (d : Int)) - 48) % 256 = d := by rw [show 48 + (d : Int) - 48 = d by omega]; exact Int.emod_eq_of_lt (by omega) (by omega)
end Go.Proofs.YtbichbiiephmhaaDoor

namespace Go.Proofs.YtbichbiiephmhaaDoor
open Go.RowKit Go.Proofs.YtbichbiiephmhaaDoor.P Go.Proofs.YtbichbiiephmhaaDoorW.PrintWords
set_option linter.unusedSimpArgs false
set_option linter.unusedVariables false
theorem countNumbers_two (a s : ByteArray) (n : Int) (h1 : s.size ≤ 9223372036854775807) : ∃ r, Ev (fun k => spec_CountNumbers.f k a s n) r ∧ Ev (fun k => impl_CountNumbers.f k a s n) r ∧ (r.2 = true → ∃ (d m : Nat), isPc a ∧ d < 10 ∧ s = ⟨#[UInt8.ofNat (48 + d)]⟩ ∧ n = (m : Int) + 1 ∧ m < 40 ∧ 0 ≤ r.1 ∧ r.1 ≤ 1000000000000000 ∧ r = fewP (rd (itr (tbl a) (row0 0) m) d)) := by
  unfold spec_CountNumbers.f impl_CountNumbers.f
  have fi : Ev (fun k => impl_CountNumbers.j0 k a s n true) (0, false) := by
    apply Ev.succ; simp only [impl_CountNumbers.j0]; exact Ev.yes (Ev.now _)
  cases hp : pieceB (bl a) with
  | false => exact ⟨(0, false), Ev.bind (wkAsked_ev a s) (by rw [hp, Bool.false_and]; exact Ev.no (Ev.now _)), Ev.bindc (by rw [isPiece_eq, hp]) (Ev.no fi), fun h => by cases h⟩
  | true =>
    cases hd : digsB (bl s) 1 1 with
    | false => exact ⟨(0, false), Ev.bind (wkAsked_ev a s) (by rw [hp, hd, Bool.and_false]; exact Ev.no (Ev.now _)), Ev.bindc (by rw [isPiece_eq, hp]) (Ev.yes (Ev.bindc (by rw [isDigit_eq s h1, hd]) (Ev.no fi))), fun h => by cases h⟩
    | true =>
      cases hn : (decide (1 ≤ n) && decide (n ≤ 40)) with
      | false => exact ⟨(0, false), Ev.bind (wkAsked_ev a s) (by rw [hp, hd, Bool.and_true]; exact Ev.yes (Ev.bindc (by rw [l1In_eq, hn]) (Ev.no (Ev.now _)))), Ev.bindc (by rw [isPiece_eq, hp]) (Ev.yes (Ev.bindc (by rw [isDigit_eq s h1, hd]) (Ev.yes (Ev.bindc (x := false) (by unfold impl_longOk.f; rw [in_eq, hn]; rfl) fi)))), fun h => by cases h⟩
      | true =>
        have hpc := isPc_of hp
        obtain ⟨d, hd10, rfl⟩ := digit_of hd
        simp only [Bool.and_eq_true, decide_eq_true_eq] at hn
        obtain ⟨m, rfl⟩ : ∃ m : Nat, n = (m : Int) + 1 := ⟨(n - 1).toNat, by omega⟩
        have hr := itr_len (tbl_shape hpc).1 (row0_len 0) m
        have em : wrap64 ((m : Int) + 1 - 1) = m := by rw [wrap_id (by omega) (by omega)]; omega
        have hlo : (decide (1 ≤ (m : Int) + 1) && decide ((m : Int) + 1 ≤ 40)) = true := by simp; omega
        refine ⟨fewP (rd (itr (tbl a) (row0 0) m) d), Ev.bind (wkAsked_ev a _) ?_, Ev.bindc (by rw [isPiece_eq, hp]) (Ev.yes (Ev.bindc (by rw [isDigit_eq _ h1, hd]) (Ev.yes (Ev.bindc (by unfold impl_longOk.f; rw [in_eq, hlo]; rfl) (Ev.succ ?_))))), fun h => ⟨d, m, hpc, hd10, rfl, rfl, by omega, ?_, ?_, rfl⟩⟩
        · rw [hp, hd, Bool.and_true, em]
          refine Ev.yes (Ev.bindc (by rw [l1In_eq, hlo]) (Ev.yes (Ev.pos (sign_size d) ?_)))
          rw [sign_bt d hd10]
          exact Ev.bind (wkCount_ev hpc d m hd10 (by omega) 0) (Ev.now _)
        · simp only [impl_CountNumbers.j0]
          refine Ev.no (Ev.bind (numbers_ev hpc m (by omega)) (Ev.pos (sign_size d) ?_))
          rw [sign_bt d hd10]
          simp only [impl_digit.f, Option.bind_some, digit_sign d hd10]
          refine Ev.pos (by omega) (Ev.pos (by omega) (Ev.bindc (few_eq _) (Ev.now _)))
        · have hb := rd_bd _ (itr_bd (tbl a) (row0 0) row0_bd m) (d : Int)
          unfold fewP; split <;> simp only <;> omega
        · have hb := rd_bd _ (itr_bd (tbl a) (row0 0) row0_bd m) (d : Int)
          unfold fewP; split <;> simp only <;> omega
end Go.Proofs.YtbichbiiephmhaaDoor

/- FnExactNumberOfRank: both sides tell the same number: over the functions that the walk computes. -/
namespace Go.Proofs.YtbichbiiephmhaaDoor
open Go.RowKit Go.Proofs.YtbichbiiephmhaaDoor.P Go.Proofs.YtbichbiiephmhaaDoorW.PrintWords
set_option linter.unusedSimpArgs false
theorem pure_FnExactNumberOfRank : PureFnExactNumberOfRank := by
  intro a s n rk h0 h1 h2 h3
  refine Ev.rounds (g := fun k => laws_FnExactNumberOfRank.f k a s n rk) ?_
  unfold laws_FnExactNumberOfRank.f
  rcases Nat.lt_or_ge 1048576 a.size with c0 | c0
  · exact Ev.pos (by omega) (Ev.now _)
  refine Ev.neg (by omega) ?_
  rcases Nat.lt_or_ge 1048576 s.size with c1 | c1
  · exact Ev.pos (by omega) (Ev.now _)
  refine Ev.neg (by omega) ?_
  have key : ∃ q q', Ev (fun k => spec_NumberOfRank.f k a s n rk) q ∧ Ev (fun k => impl_NumberOfRank.f k a s n rk) q' ∧ bl q'.1 = bl q.1 ∧ q'.2 = q.2 := by
    have fs : Ev (fun k => spec_NumberOfRank.j0 k a s n rk true) (⟨#[]⟩, false) := by
      apply Ev.succ; simp only [spec_NumberOfRank.j0]; exact Ev.yes (Ev.now _)
    have fi : Ev (fun k => impl_NumberOfRank.j0 k a s n rk true) (⟨#[]⟩, false) := by
      apply Ev.succ; simp only [impl_NumberOfRank.j0]; exact Ev.yes (Ev.now _)
    obtain ⟨⟨r, ok⟩, hs, hi, hok⟩ := countNumbers_two a s n h1
    unfold spec_NumberOfRank.f impl_NumberOfRank.f
    cases ok with
    | false => exact ⟨_, _, Ev.bind hs (Ev.no fs), Ev.bind hi (Ev.no fi), rfl, rfl⟩
    | true =>
      obtain ⟨d, m, hp, hd, rfl, rfl, hm, b0, b1, hr⟩ := hok rfl
      dsimp only at b0 b1
      have ew : wrap64 (r - 1) = r - 1 := wrap_id (by omega) (by omega)
      by_cases e1 : rk < 0
      · have ei : (decide (0 ≤ rk) && decide (rk ≤ wrap64 (r - 1))) = false := by rw [decide_eq_false (by omega)]; rfl
        exact ⟨_, _, Ev.bind hs (Ev.yes (Ev.pos e1 fs)), Ev.bind hi (Ev.yes (Ev.bindc (x := false) (by rw [in_eq, ei]) fi)), rfl, rfl⟩
      · by_cases e2 : rk ≥ r
        · have ei : (decide (0 ≤ rk) && decide (rk ≤ wrap64 (r - 1))) = false := by rw [ew, decide_eq_false (p := rk ≤ r - 1) (by omega)]; simp
          exact ⟨_, _, Ev.bind hs (Ev.yes (Ev.neg e1 (by rw [decide_eq_true e2]; exact fs))), Ev.bind hi (Ev.yes (Ev.bindc (x := false) (by rw [in_eq, ei]) fi)), rfl, rfl⟩
        · have ei : (decide (0 ≤ rk) && decide (rk ≤ wrap64 (r - 1))) = true := by rw [ew, decide_eq_true (p := 0 ≤ rk) (by omega), decide_eq_true (p := rk ≤ r - 1) (by omega)]; rfl
          obtain ⟨q, hq, hq1, hq2⟩ := spec_l0 hp m (by omega) m d rk ⟨#[UInt8.ofNat (48 + d)]⟩ hd (Nat.le_refl _) (by show m + 1 ≤ 1000; omega)
          have em : wrap64 ((m : Int) + 1 - 1) = m := by rw [wrap_id (by omega) (by omega)]; omega
          have em2 : wrap64 ((m : Int) + 1 - 2) = (m : Int) - 1 := by rw [wrap_id (by omega) (by omega)]; omega
          have hdd : ∀ x ∈ [(d : Int)], 0 ≤ x ∧ x < 10 := by intro x hx; rw [List.mem_singleton] at hx; omega
          refine ⟨q, (strOfNums (([(d : Int)] ++ walkR (tbl a) m d rk).map (48 + ·)), true), Ev.bind hs (Ev.yes (Ev.neg e1 ?_)), Ev.bind hi (Ev.yes (Ev.bindc (x := true) (by rw [in_eq, ei]) ?_)), ?_, hq2.symm⟩
          · rw [decide_eq_false e2]
            apply Ev.succ; simp only [spec_NumberOfRank.j0]
            refine Ev.no ?_
            rw [em, em2]
            refine Ev.bind (wkTable_ev hp m (by omega) 0) (Ev.pos (sign_size d) ?_)
            rw [sign_bt d hd]
            exact hq
          · apply Ev.succ; simp only [impl_NumberOfRank.j0]
            refine Ev.no (Ev.pos (sign_size d) ?_)
            rw [sign_bt d hd, em]
            simp only [impl_digit.f, Option.bind_some, digit_sign d hd]
            exact impl_l0 hp m d rk [(d : Int)] hd (by simp; omega) hdd
          · dsimp only
            rw [strOf_signs _ (by
              intro x hx
              rcases List.mem_append.1 hx with h | h
              · exact hdd x h
              · exact walkR_dig hp m d rk ⟨by omega, by omega⟩ x h), hq1]
            rfl
  obtain ⟨q, q', hs, hi, e1, e2⟩ := key
  refine Ev.bind hs (Ev.bind hi ?_)
  refine Ev.pos (by rw [bl_toList, bl_toList]; exact e1) (Ev.neg (by rw [e2]; simp) (Ev.now _))
end Go.Proofs.YtbichbiiephmhaaDoor

namespace Go.Proofs.YtbichbiiephmhaaDoor
open Go.RowKit Go.Proofs.YtbichbiiephmhaaDoorW.PrintWords Go.ChangeShapes Go.WideShapes

theorem C_scalar {α : Type} {enc : α → Value} {h1 : ∀ x, (enc x).oneCell' = true} {w : World} {A : Option Addr} {l : List α} (hn : l.length ≤ 9223372036854775807)
    (hcell : 0 < l.length → ∃ ad, A = some ad ∧ ∀ j x, l[j]? = some x → w.cell? (ad.add j) = some (enc x)) : (Kd.scalar enc h1).C w A l.length l := by
  refine ⟨rfl, hn, fun hp => ?_⟩
  obtain ⟨ad, hA, hc⟩ := hcell hp
  refine ⟨ad, hA, fun j x hx => ⟨[enc x], rfl, rfl, fun i u hu => ?_⟩⟩
  match i, hu with
  | 0, hu =>
    have : enc x = u := by simpa using hu
    subst this
    show w.cell? (ad.add (j * 1 + 0)) = _
    rw [Nat.mul_one, Nat.add_zero]
    exact hc j x hx
  | i + 1, hu => simp at hu

section
variable {H : Type} {enc : TypeId × Value → H} {P : Program} {w : World} {base : Nat} {spare : Nat → Bool} {held : Bool}

/-- A cell that reads at a slice of whole numbers. -/
theorem read_ints {t e : TypeId} {k : IntKind} {fuel : Nat} {v : Value} {y : DataW H × List MemPlace} (ht : P.underlying t = some (.slice e)) (he : P.underlying e = some (.int k)) (hc : P.cellsOf e = 1)
    (hf : DataW.trod enc P w base spare held fuel t [v] = some y) :
    ∃ (A : Option Addr) (c : Nat) (l : List Int), v = .slice A l.length c ∧ l.length ≤ c ∧ (∀ x ∈ l, (Lit.int k x).wf = true) ∧ (Kd.int k).C w A l.length l := by
  rcases open_ints ht he hc hf with ⟨hcs, _⟩ | ⟨a, len, cap, zs, hcs, _, hl, hm, hz, _, hcell, hwf⟩
  · obtain rfl : v = .slice none 0 0 := by simpa using hcs
    exact ⟨none, 0, [], rfl, Nat.le_refl _, fun x hx => by simp at hx, rfl, by simp, fun h => absurd h (by simp)⟩
  · obtain rfl : v = .slice (some a) len cap := by simpa using hcs
    have hlz : len ≤ zs.length := by rw [hz]; split <;> omega
    have hlen : (zs.take len).length = len := by rw [List.length_take]; omega
    refine ⟨some a, cap, zs.take len, by rw [hlen], by rw [hlen]; exact hl, fun x hx => hwf x (List.mem_of_mem_take hx), ?_⟩
    refine C_scalar (by rw [hlen]; unfold maxLen at hm; omega) (fun hp => ⟨a, rfl, fun j x hj => ?_⟩)
    have hj' : j < len := by have := (List.getElem?_eq_some_iff.1 hj).1; rw [hlen] at this; exact this
    rw [hcell j (by omega)]
    rw [List.getElem?_take_of_lt hj'] at hj
    rw [List.getD_eq_getElem?_getD, hj]; rfl

/-- A cell that reads at a slice of strings. -/
theorem read_strs {t e : TypeId} {fuel : Nat} {v : Value} {y : DataW H × List MemPlace} (ht : P.underlying t = some (.slice e)) (he : P.underlying e = some .string) (hc : P.cellsOf e = 1)
    (hf : DataW.trod enc P w base spare held fuel t [v] = some y) :
    ∃ (A : Option Addr) (c : Nat) (l : List ByteArray), v = .slice A l.length c ∧ l.length ≤ c ∧ (∀ s ∈ l, s.size ≤ 9223372036854775807) ∧ Kd.string.C w A l.length l := by
  rcases open_strings ht he hc hf with ⟨hcs, _⟩ | ⟨a, len, cap, zs, hcs, _, hl, hm, hz, _, hcell, hwf⟩
  · obtain rfl : v = .slice none 0 0 := by simpa using hcs
    exact ⟨none, 0, [], rfl, Nat.le_refl _, fun x hx => by simp at hx, rfl, by simp, fun h => absurd h (by simp)⟩
  · obtain rfl : v = .slice (some a) len cap := by simpa using hcs
    have hlz : len ≤ zs.length := by rw [hz]; split <;> omega
    have hlen : (zs.take len).length = len := by rw [List.length_take]; omega
    refine ⟨some a, cap, zs.take len, by rw [hlen], by rw [hlen]; exact hl, fun x hx => by have := hwf x (List.mem_of_mem_take hx); unfold maxLen at this; omega, ?_⟩
    refine C_scalar (by rw [hlen]; unfold maxLen at hm; omega) (fun hp => ⟨a, rfl, fun j x hj => ?_⟩)
    have hj' : j < len := by have := (List.getElem?_eq_some_iff.1 hj).1; rw [hlen] at this; exact this
    rw [hcell j (by omega)]
    rw [List.getElem?_take_of_lt hj'] at hj
    rw [List.getD_eq_getElem?_getD, hj]; rfl

theorem read_int {t : TypeId} {k : IntKind} {fuel : Nat} {v : Value} {y : DataW H × List MemPlace} (ht : P.underlying t = some (.int k))
    (hf : DataW.trod enc P w base spare held fuel t [v] = some y) : ∃ n : Int, v = .int k n ∧ (Lit.int k n).wf = true := by
  obtain ⟨n, e1, _, h⟩ := DataW.trod_int ht hf
  exact ⟨n, by simpa using e1, h⟩
end

/-- The cells of a datum that holds numbers alone, an array's elements being numbers or structs of numbers. -/
def litsOf : DataW Unit → List Value
  | .lit (.int k n) => [.int k n]
  | .agg l => l.flatMap fun
    | .lit (.int k n) => [.int k n]
    | .agg l2 => l2.flatMap fun
      | .lit (.int k n) => [.int k n]
      | _ => []
    | _ => []
  | _ => []
end Go.Proofs.YtbichbiiephmhaaDoor

/- FnExactNumberOfRankCardSaid: the law 'FnExactNumberOfRank' answers true for every input, and leaves its arguments as they were. The row and its tied card, over the walk of its calls and the pure statement. -/
namespace Go.Proofs.YtbichbiiephmhaaDoor.fnExactNumberOfRank
open Go.ChangeShapes Go.WideShapes Go.ChangeAt Go.RowKit Go.Proofs.YtbichbiiephmhaaDoor.P Go.Proofs.YtbichbiiephmhaaDoorW.PrintWords
open Go.ChangeMaps (open_string shut_string)
set_option linter.unusedVariables false
theorem own : ownKnob Tryd.prog.godebug = none := by kernel_rfl
/-- What the row lists of package-level variables. -/
noncomputable def laidList : List (String × DataW Unit) := [("unicode/utf8.acceptRanges", Rows.laid_unicode_utf8_acceptRanges), ("unicode/utf8.first", Rows.laid_unicode_utf8_first)]
/-- A world that meets it: the settled one, the listed variables laid. -/
noncomputable def laidWorld (os : Os) : World :=
  let w0 := World.holding Tryd.prog os ⟨#[], #[], []⟩
  { w0 with heap := ((w0.heap.modify 2 fun o => match o with | .cells _ t frozen => .cells (litsOf Rows.laid_unicode_utf8_acceptRanges).toArray t frozen | o => o).modify 1 fun o => match o with | .cells _ t frozen => .cells (litsOf Rows.laid_unicode_utf8_first).toArray t frozen | o => o) }
theorem laidWorld_met (os : Os) (args : Array Value) : laidMetH Tryd.prog laidList ((laidWorld os).forCall (fun _ _ => 0) ⟨#[], args, []⟩).memory :=
  laidMetH_of_parts3 (fuel := 8) (laidMet_of_run' 8 (by kernel_rfl) (by kernel_rfl)) (by kernel_rfl) (by kernel_rfl)
set_option maxRecDepth 100000 in
theorem lifted (os : Os) (started : os.Started) (H : Type) (enc : TypeId × Value → H) :
    ReturnsInHanded {} Tryd.checked os 10 .any (fun w args => (Rows.fnExactNumberOfRankSpec.pre enc Tryd.prog Tryd.f10 [] false w args ∧ laidMetH Tryd.prog laidList w) ∧ sizedMet enc Tryd.prog Tryd.f10 (OpenSpec.ofChange Rows.fnExactNumberOfRankSpec) false w args)
      (Rows.fnExactNumberOfRankSpec.post enc Tryd.prog Tryd.f10 false true false false) := by
  refine returnsInHanded_of_change_and (C := Tryd.checked) (X := fun w _ => laidMetH Tryd.prog laidList w) (fun _ _ _ hh h => h.of_heap hh) own started (by kernel_rfl) Tryd.func10
    (ChangeSpec.witness_at (enc := enc) (C := Tryd.checked) (os := os) (X := fun w _ => laidMetH Tryd.prog laidList w) false (laidWorld os) #[.string ByteArray.empty, .string ByteArray.empty, .int .i64 0, .int .i64 0] 8 rfl (by kernel_rfl) (by kernel_rfl) (by kernel_rfl) (by kernel_rfl) (by kernel_rfl) (laidWorld_met os _)) ?_
  intro W base args ds gs before hval0 hW _ _ hL _
  have hval : ∀ (j : Nat) t v, Tryd.f10.params[j]? = some t → args[j]? = some v → Value.okWide Tryd.prog W .any base t v := hval0
  have hW' := hW
  obtain ⟨p, q, hA0, hV, rfl, hfz, hnd⟩ := hW
  have hA : DataW.TrodAll enc Tryd.prog W 0 (fun _ => true) true Tryd.f10.params.toList args.toList ds p := hA0
  rw [Tryd.params10] at hA hval
  obtain ⟨v0, vs0, d0, ds0, p0, q0, hargs, rfl, rfl, h0, r0⟩ := trodAll_cons hA
  obtain ⟨v1, vs1, d1, ds1, p1, q1, rfl, rfl, rfl, h1, r1⟩ := trodAll_cons r0
  obtain ⟨v2, vs2, d2, ds2, p2, q2, rfl, rfl, rfl, h2, r2⟩ := trodAll_cons r1
  obtain ⟨v3, vs3, d3, ds3, p3, q3, rfl, rfl, rfl, h3, r3⟩ := trodAll_cons r2
  obtain ⟨rfl, rfl, rfl⟩ := trodAll_nil r3
  obtain rfl : args = #[v0, v1, v2, v3] := by cases args; simp_all
  obtain ⟨rfl, rfl⟩ := trodVars_none hV
  obtain ⟨a0, rfl, rfl, rfl, y0⟩ := open_string Tryd.underlying9 (hval 0 9 v0 rfl rfl) h0
  have z0 : a0.size ≤ 9223372036854775807 := by unfold maxLen at y0; omega
  obtain ⟨a1, rfl, rfl, rfl, y1⟩ := open_string Tryd.underlying9 (hval 1 9 v1 rfl rfl) h1
  have z1 : a1.size ≤ 9223372036854775807 := by unfold maxLen at y1; omega
  obtain ⟨a2, rfl, rfl, rfl, w2⟩ := open_int Tryd.underlying3 (hval 2 3 v2 rfl rfl) h2
  obtain ⟨a3, rfl, rfl, rfl, w3⟩ := open_int Tryd.underlying3 (hval 3 3 v3 rfl rfl) h3
  clear hA0 hval0
  simp only [List.append_nil] at hW'
  obtain ⟨k, hk⟩ := pure_FnExactNumberOfRank a0 a1 a2 a3 z0 z1 w2 w3
  refine (laws_FnExactNumberOfRank.calls k a0 a1 a2 a3 true W  hk).mono fun e W' ⟨he, bel0⟩ => ?_
  have bel : Below W.heap.size W W' := bel0
  subst he
  exact ⟨_, rfl, _, _, _, [], [], [], hW', trodAll_mk1 (shut_bool Tryd.underlying4 _), (trodAll_cons_mk (shut_string Tryd.underlying9 y0) (trodAll_cons_mk (shut_string Tryd.underlying9 y1) (trodAll_cons_mk (shut_int Tryd.underlying3 w2) (trodAll_cons_mk (shut_int Tryd.underlying3 w3) trodAll_mk0)))), rfl, bel.frame _, fun h => by cases h⟩
theorem over : Rows.fnExactNumberOfRankRow.holds Tryd.pinned (OpenSpec.ofChange Rows.fnExactNumberOfRankSpec) :=
  OpenClaim.holds_of_wide 10 Tryd.f10 rfl rfl rfl rfl rfl rfl rfl ⟨rfl, rfl, rfl, rfl, rfl⟩ rfl rfl rfl rfl rfl (by kernel_rfl) Tryd.func10 (by kernel_rfl)
    (of_decide_eq_true (by kernel_rfl)) (by unfold Func.isWrapper; first | (rw [if_pos (by decide +kernel)]; kernel_rfl) | (rw [if_neg (by decide +kernel)]; exact ⟨rfl, rfl⟩))
    (fun os started H enc _ => lifted os started H enc)
theorem proved : Rows.FnExactNumberOfRankSaid := over
theorem card : Rows.FnExactNumberOfRankCardSaid :=
  Claim7.holds_tied_plain_at .later [] [.data, .pinned] true (true, "60c4429d754dc42039e1069a9847a88d69239606673fb917d8fd30c9a49ea671") false
    proved (fun _ h => by cases h) (by kernel_rfl) (fun _ h => by cases h) fnExactNumberOfRank_row_tie rfl ⟨rfl, rfl⟩ (by kernel_rfl) rfl
    (fun f fn hf hfn => by
      obtain rfl : f = 10 := Option.some.inj ((show Tryd.prog.funcNamed "loop.example/g01350/laws.FnExactNumberOfRank" = some 10 by kernel_rfl).symm.trans hf) |>.symm
      obtain rfl : fn = Tryd.f10 := (Option.some.inj (Tryd.func10.symm.trans hfn)).symm
      exact ⟨by kernel_rfl, fun j t ht => by
        rw [Tryd.params10] at ht
        have hm : t ∈ #[9, 9, 3, 3] := Array.mem_of_getElem? ht
        have hm : t ∈ [9, 9, 3, 3] := by simpa using hm
        have hall : ([9, 9, 3, 3].all fun u => !Tryd.prog.wantsStandIn u) = true := by kernel_rfl
        exact (show Tryd.prog.wantsStandIn t = false by simpa using List.all_eq_true.1 hall t hm)⟩)
    (by kernel_rfl)
#print axioms card
end Go.Proofs.YtbichbiiephmhaaDoor.fnExactNumberOfRank
namespace Go.Proofs.YtbichbiiephmhaaDoor
theorem fnExactNumberOfRank_holds : Rows.FnExactNumberOfRankCardSaid := fnExactNumberOfRank.card
end Go.Proofs.YtbichbiiephmhaaDoor

