/- Part 4 of 4 of the proof of: FnExactFirstCommonCardSaid: the law 'FnExactFirstCommon' answers true for every input, and leaves its arguments as they were. The row and its tied card, over the walk of its calls and the pure statement. -/
import Derived.Test.YtamhlbdjjfdbiaaDoorMFnExactFirstCommon1
import Derived.Test.YtamhlbdjjfdbiaaDoorMFnExactFirstCommon3
import Derived.Test.YtamhlbdjjfdbiaaDoorMFnExactFirstCommon2
import Derived.Test.YtamhlbdjjfdbiaaDoorWMore
import Derived.WalkKit
import Derived.ProofKit
import Derived.OpenShut
import Derived.ShutString
import Derived.ChangeOld
import Derived.Below
import Derived.SizedLaws
import Derived.ChangeSlices
import Derived.SliceStrings
import Derived.Lib.SmallJoins
import Derived.LaidLaws
import Derived.LaidHandle
import Derived.LaidMore
import Derived.Test.YtamhlbdjjfdbiaaDoorRows
import Derived.Test.YtamhlbdjjfdbiaaDoorCards
import Derived.Test.YtamhlbdjjfdbiaaDoorTie
import Derived.Handed
import Derived.SevenTiedAt
import Derived.Stop.Joined
-- printed by xprint.py
namespace Go.Proofs.YtamhlbdjjfdbiaaDoor.P
open Go.RowKit Go.Proofs.YtamhlbdjjfdbiaaDoorW.PrintWords Go.Proofs.YtamhlbdjjfdbiaaDoorW.PrintLast Go.Proofs.YtamhlbdjjfdbiaaDoorW.PrintMore
attribute [local go_sem] max2_int min2_int max_two min_two max_three min_three max_four min_four   -- for this text's walks alone
set_option linter.unusedVariables false
set_option linter.unusedSimpArgs false

/-! ### impl_distances: function 38 -/
mutual
def impl_distances.l0 : Nat → ByteArray → ByteArray → List (List Int) → Int → Option ((List (List Int)))
 | 0, _, _, _, _ => none
 | k + 1, x0, x1, x5, x6 => if x6 ≥ 0 then (if 0 ≤ (wrap64 ((x1.size : Int) + 1)) then (if (wrap64 ((x1.size : Int) + 1) : Int).toNat ≤ 35184372088832 then (if 0 ≤ x6 then (if x6 < (x5.length : Int) then (impl_distances.l1 k x0 x1 (x5.set (x6 : Int).toNat (List.replicate (wrap64 ((x1.size : Int) + 1) : Int).toNat 0)) x6 (x1.size : Int)) else (none)) else (none)) else (none)) else (none)) else (some x5)
def impl_distances.l1 : Nat → ByteArray → ByteArray → List (List Int) → Int → Int → Option ((List (List Int)))
 | 0, _, _, _, _, _ => none
 | k + 1, x0, x1, x5, x6, x7 => if x7 ≥ 0 then (if x6 = (x0.size : Int) then (if 0 ≤ x6 then (if x6 < (x5.length : Int) then (if 0 ≤ x7 then (if x7 < ((rd_L1 x5 x6).length : Int) then (impl_distances.l1 k x0 x1 (x5.set (x6 : Int).toNat ((rd_L1 x5 x6).set (x7 : Int).toNat (wrap64 ((x1.size : Int) - x7)))) x6 (wrap64 (x7 - 1))) else (none)) else (none)) else (none)) else (none)) else (if x7 = (x1.size : Int) then (if 0 ≤ x6 then (if x6 < (x5.length : Int) then (if 0 ≤ x7 then (if x7 < ((rd_L1 x5 x6).length : Int) then (impl_distances.l1 k x0 x1 (x5.set (x6 : Int).toNat ((rd_L1 x5 x6).set (x7 : Int).toNat (wrap64 ((x0.size : Int) - x6)))) x6 (wrap64 (x7 - 1))) else (none)) else (none)) else (none)) else (none)) else (if 0 ≤ x6 then (if x6 < (x0.size : Int) then (if 0 ≤ x7 then (if x7 < (x1.size : Int) then (if (bt x0 x6) = (bt x1 x7) then (if x6 < (x5.length : Int) then (if 0 ≤ (wrap64 (x6 + 1)) then (if (wrap64 (x6 + 1)) < (x5.length : Int) then (if 0 ≤ (wrap64 (x7 + 1)) then (if (wrap64 (x7 + 1)) < ((rd_L1 x5 (wrap64 (x6 + 1))).length : Int) then (if x7 < ((rd_L1 x5 x6).length : Int) then (impl_distances.l1 k x0 x1 (x5.set (x6 : Int).toNat ((rd_L1 x5 x6).set (x7 : Int).toNat (rd (rd_L1 x5 (wrap64 (x6 + 1))) (wrap64 (x7 + 1))))) x6 (wrap64 (x7 - 1))) else (none)) else (none)) else (none)) else (none)) else (none)) else (none)) else (if x6 < (x5.length : Int) then (if 0 ≤ (wrap64 (x6 + 1)) then (if (wrap64 (x6 + 1)) < (x5.length : Int) then (if 0 ≤ (wrap64 (x7 + 1)) then (if (wrap64 (x7 + 1)) < ((rd_L1 x5 (wrap64 (x6 + 1))).length : Int) then (if x7 < ((rd_L1 x5 (wrap64 (x6 + 1))).length : Int) then (if (wrap64 (x7 + 1)) < ((rd_L1 x5 x6).length : Int) then (if x7 < ((rd_L1 x5 x6).length : Int) then (impl_distances.l1 k x0 x1 (x5.set (x6 : Int).toNat ((rd_L1 x5 x6).set (x7 : Int).toNat (wrap64 (1 + (mn (mn (rd (rd_L1 x5 (wrap64 (x6 + 1))) (wrap64 (x7 + 1))) (rd (rd_L1 x5 (wrap64 (x6 + 1))) x7)) (rd (rd_L1 x5 x6) (wrap64 (x7 + 1)))))))) x6 (wrap64 (x7 - 1))) else (none)) else (none)) else (none)) else (none)) else (none)) else (none)) else (none)) else (none))) else (none)) else (none)) else (none)) else (none)))) else (impl_distances.l0 k x0 x1 x5 (wrap64 (x6 - 1)))
end
def impl_distances.f (k : Nat) (a0 : ByteArray) (a1 : ByteArray) : Option ((List (List Int))) := if 0 ≤ (wrap64 ((a0.size : Int) + 1)) then (if (wrap64 ((a0.size : Int) + 1) : Int).toNat ≤ 11728124029610 then (impl_distances.l0 k a0 a1 (List.replicate (wrap64 ((a0.size : Int) + 1) : Int).toNat []) (a0.size : Int)) else (none)) else (none)
theorem impl_distances.mono_l : ∀ k, (∀ y0 y1 y2 y3, LeO (impl_distances.l0 k y0 y1 y2 y3) (impl_distances.l0 (k + 1) y0 y1 y2 y3)) ∧ (∀ y0 y1 y2 y3 y4, LeO (impl_distances.l1 k y0 y1 y2 y3 y4) (impl_distances.l1 (k + 1) y0 y1 y2 y3 y4))
 | 0 => ⟨by intros; intro r h; simp [impl_distances.l0] at h, by intros; intro r h; simp [impl_distances.l1] at h⟩
 | k + 1 => by
  obtain ⟨ih0, ih1⟩ := impl_distances.mono_l k
  refine ⟨?_, ?_⟩
  ·
   intro y0 y1 y2 y3
   unfold impl_distances.l0
   repeat' first
   | (with_reducible exact ih0 _ _ _ _)
   | (with_reducible exact ih1 _ _ _ _ _)
   | (with_reducible exact LeO.refl _)
   | (with_reducible exact LeO.none _)
   | (with_reducible refine LeO.ite ?_ ?_)
   | (with_reducible refine LeO.bind ?_ (fun _ => ?_))
   | exact ih0 _ _ _ _
   | exact ih1 _ _ _ _ _
   | exact LeO.none _
   | refine LeO.ite ?_ ?_
   | refine LeO.bind ?_ (fun _ => ?_)
  ·
   intro y0 y1 y2 y3 y4
   unfold impl_distances.l1
   repeat' first
   | (with_reducible exact ih0 _ _ _ _)
   | (with_reducible exact ih1 _ _ _ _ _)
   | (with_reducible exact LeO.refl _)
   | (with_reducible exact LeO.none _)
   | (with_reducible refine LeO.ite ?_ ?_)
   | (with_reducible refine LeO.bind ?_ (fun _ => ?_))
   | exact ih0 _ _ _ _
   | exact ih1 _ _ _ _ _
   | exact LeO.none _
   | refine LeO.ite ?_ ?_
   | refine LeO.bind ?_ (fun _ => ?_)
theorem impl_distances.mono : ∀ y0 y1 k, LeO (impl_distances.f k y0 y1) (impl_distances.f (k + 1) y0 y1) := by
 intro y0 y1 k
 obtain ⟨ih0, ih1⟩ := impl_distances.mono_l k
 unfold impl_distances.f
 repeat' first
   | (with_reducible exact ih0 _ _ _ _)
   | (with_reducible exact ih1 _ _ _ _ _)
   | (with_reducible exact LeO.refl _)
   | (with_reducible exact LeO.none _)
   | (with_reducible refine LeO.ite ?_ ?_)
   | (with_reducible refine LeO.bind ?_ (fun _ => ?_))
   | exact ih0 _ _ _ _
   | exact ih1 _ _ _ _ _
   | exact LeO.none _
   | refine LeO.ite ?_ ?_
   | refine LeO.bind ?_ (fun _ => ?_)
def impl_distances.T9 : Bool × List (List Nat × List Nat) := (true, [([], []), ([], []), ([0, 1], [0, 1]), ([2], [2]), ([], []), ([], []), ([], []), ([6], [6]), ([5, 7], [5, 7]), ([8], [8]), ([], []), ([10], [10]), ([9, 11], [9, 11]), ([12], [12]), ([], []), ([], []), ([15], [15]), ([14, 16], [14, 16]), ([17], [17]), ([], []), ([18, 19], [18, 19]), ([20], [20]), ([], []), ([], []), ([22, 23], [22, 23]), ([24], [24]), ([], []), ([26], [26]), ([25, 27], [25, 27]), ([28], [28]), ([13, 21, 29], [13, 21, 29]), ([30], [30]), ([3, 4, 0, 1, 2, 3, 4, 5, 6, 7, 8, 9, 10, 11, 12, 13, 14, 15, 16, 17, 18, 19, 20, 21, 22, 23, 24, 25, 26, 27, 28, 29, 30, 31], [3, 4]), ([32, 31, 0, 1, 2, 3, 4, 5, 6, 7, 8, 9, 10, 11, 12, 13, 14, 15, 16, 17, 18, 19, 20, 21, 22, 23, 24, 25, 26, 27, 28, 29, 30, 31], [31, 32])])
def impl_distances.B9 : List Nat := [0, 0, 3, 7, 0, 0, 0, 64, 224, 480, 0, 1024, 4064, 8160, 0, 0, 32768, 114688, 245760, 0, 1032192, 2080768, 0, 0, 12582912, 29360128, 0, 67108864, 264241152, 532676608, 1073741792, 2147483616, 4294967295, 8589934591]
theorem impl_distances.tab9 : rtab .any (opsOf Tryd.f38 9) = impl_distances.T9 := by kernel_rfl
theorem impl_distances.bits9 : waitsOk impl_distances.T9.2 impl_distances.B9 = true := by kernel_rfl
def impl_distances.T14 : Bool × List (List Nat × List Nat) := (true, [([], []), ([], []), ([0, 1], [0, 1]), ([], []), ([], []), ([3, 4], [3, 4]), ([2, 5], [2, 5]), ([6], [6])])
def impl_distances.B14 : List Nat := [0, 0, 3, 0, 0, 24, 63, 127]
theorem impl_distances.tab14 : rtab .any (opsOf Tryd.f38 14) = impl_distances.T14 := by kernel_rfl
theorem impl_distances.bits14 : waitsOk impl_distances.T14.2 impl_distances.B14 = true := by kernel_rfl
def impl_distances.T15 : Bool × List (List Nat × List Nat) := (true, [([], []), ([], []), ([0, 1], [0, 1]), ([2], [2]), ([], []), ([], []), ([], []), ([6], [6]), ([5, 7], [5, 7]), ([8], [8]), ([], []), ([10], [10]), ([9, 11], [9, 11]), ([12], [12]), ([3, 4, 0, 1, 2, 3, 4, 5, 6, 7, 8, 9, 10, 11, 12, 13], [3, 4]), ([14, 13, 0, 1, 2, 3, 4, 5, 6, 7, 8, 9, 10, 11, 12, 13], [13, 14])])
def impl_distances.B15 : List Nat := [0, 0, 3, 7, 0, 0, 0, 64, 224, 480, 0, 1024, 4064, 8160, 16383, 32767]
theorem impl_distances.tab15 : rtab .any (opsOf Tryd.f38 15) = impl_distances.T15 := by kernel_rfl
theorem impl_distances.bits15 : waitsOk impl_distances.T15.2 impl_distances.B15 = true := by kernel_rfl
set_option maxHeartbeats 8000000 in
set_option maxRecDepth 100000 in
theorem impl_distances.calls (k : Nat) (a0 : ByteArray) (a1 : ByteArray) (r : List (List Int)) (w : World) (h : impl_distances.f k a0 a1 = some r) :
  Calls Tryd.prog 38 #[.string a0, .string a1] w fun e w' => ∃ v0_ : Value, e = .returned (v0_) ∧ Kd.S (Kd.slice 3 (Kd.int .i64)) 43 w' w.heap.size (fun _ => True) v0_ r ∧ Below w.heap.size w w' := by
 have HB := Aside0.mk (Below.refl w.heap.size w)
 have H : (if 0 ≤ (wrap64 ((a0.size : Int) + 1)) then (if (wrap64 ((a0.size : Int) + 1) : Int).toNat ≤ 11728124029610 then (impl_distances.l0 k a0 a1 (List.replicate (wrap64 ((a0.size : Int) + 1) : Int).toNat []) (a0.size : Int)) else (none)) else (none)) = some r := h
 clear h
 obtain ⟨ji3, hji3⟩ : ∃ j_ : Int, (wrap64 ((a0.size : Int) + 1)) = j_ := ⟨_, rfl⟩
 replace H : (if 0 ≤ (ji3) then (if (ji3 : Int).toNat ≤ 11728124029610 then (impl_distances.l0 k a0 a1 (List.replicate (ji3 : Int).toNat []) (a0.size : Int)) else (none)) else (none)) = some r := by first | (rw [hji3] at H; exact H) | (simp only [hji3] at H ⊢; exact H)
 have hji3w : (IntKind.i64.wrap ((a0.size : Int) + 1)) = ji3 := (i64_w _).trans hji3
 by_cases c4 : 0 ≤ (ji3)
 ·
  rw [if_pos c4] at H
  have c4b0 := eq_true c4
  have c4b1 : decide (0 ≤ (ji3)) = true := decide_eq_true c4
  clear c4
  by_cases c5 : (ji3 : Int).toNat ≤ 11728124029610
  ·
   rw [if_pos c5] at H
   have c5b0 := eq_true c5
   have c5b1 : decide ((ji3 : Int).toNat ≤ 11728124029610) = true := decide_eq_true c5
   clear c5
   obtain ⟨y101, hy101⟩ : ∃ y_ : List (List Int), y_ = (List.replicate (ji3 : Int).toNat []) := ⟨_, rfl⟩
   replace H : (impl_distances.l0 k a0 a1 y101 (a0.size : Int)) = some r := by first | (rw [hy101]; with_reducible exact H) | (have H2_ := (Option.bind_some _ _).symm.trans H; rw [hy101]; with_reducible exact H2_) | (have H2_ := (Option.bind_some _ _).symm.trans H; with_reducible exact H2_) | with_reducible exact H | (rw [hy101]; exact H) | exact H
   have Ny101 := Aside0.mk hy101
   clear hy101
   have H' := Aside0.mk H
   clear H
   go_enter Tryd.func38, Tryd.ntmps38
   go_wp2_with (first | ((with_reducible refine gate_dst (N := 11) rfl ?_); refine Kd.S_make (Kd.slice 3 (Kd.int .i64)) _ 43 rfl (N := 11) rfl 44 _ _ rfl ji3 rfl rfl Tryd.underlying44 (.slice none 0 0) 24 info43 rfl (by decide) (by omega) [] (ok := fun _ => True) (okp := fun _ => True) ⟨_, rfl, Kd.R_nil _ _ _ _ _⟩ (fun _ hk => hk) trivial (of_decide_eq_true (by first | (with_reducible assumption) | assumption)) (Nat.le_trans (Nat.mul_le_mul_right _ (of_decide_eq_true (by first | (with_reducible assumption) | assumption) : ji3.toNat ≤ 11728124029610)) (by omega)) (Below.refl _ _) (Nat.le_refl _) ?_; intro v102 w6 ho7 hb hg_ hnew_; clear hg_ hnew_; (first | rw [← Ny101.out] at ho7 | (simp only [Int.reduceToNat] at ho7; rw [← Ny101.out] at ho7)); have n0_ := Aside0.mk (Kd.S_lower ho7 (below_size (by repeat (first | (with_reducible first | exact HB.out | apply below_alloc | apply pw_below_drewN | apply below_drew1) | exact HB.out)))); have n1_ := Aside0.mk (below_step (by repeat (first | (with_reducible first | exact HB.out | apply below_alloc | apply pw_below_drewN | apply below_drew1) | exact HB.out)) hb); clear HB; have HO103 := n0_; have HB := n1_; clear n0_ n1_; clear hb ho7))
   go_loopg [6] k (fun kq v6 w' => ∃ (x5_1 : List (List Int)) (x6_1 : Int), v6 = .int .i64 x6_1 ∧ Aside0 (impl_distances.l0 kq a0 a1 x5_1 x6_1 = some r) ∧ Aside0 (kq ≤ k) ∧ Aside0 (Kd.S (Kd.slice 3 (Kd.int .i64)) 43 w' w.heap.size (fun _ => True) v102 x5_1) ∧ Aside0 (Below w.heap.size w w'))
   case atStart => exact ⟨(y101), ((a0.size : Int)), (by first | rfl | (simp; done) | (simp [*]; done)), H', ⟨Nat.le_refl _⟩, ⟨by (with_reducible repeat (first | apply Kd.S_alloc | apply Kd.S_drewN | apply Kd.S_drew)); exact HO103.out⟩, ⟨by repeat (first | (with_reducible first | exact HB.out | apply below_alloc | apply pw_below_drewN | apply below_drew1) | exact HB.out)⟩⟩
   case round =>
    clear H'
    try clear p2
    try clear c3
    try clear c4
    try clear c4b0
    try clear c4b1
    try clear c5
    try clear c5b0
    try clear c5b1
    try clear p6
    obtain ⟨x5_1, x6_1, rfl, HA, HK1, HO_5, HB⟩ := hrel
    cases gk with
    | zero => exact absurd HA.out (by simp [impl_distances.l0])
    | succ k1 =>
     have H := HA.out
     clear HA
     simp only [impl_distances.l0] at H
     by_cases c8 : x6_1 ≥ 0
     ·
      rw [if_pos c8] at H
      have c8b0 : decide (0 ≤ x6_1) = true := decide_eq_true c8
      clear c8
      obtain ⟨ji9, hji9⟩ : ∃ j_ : Int, (wrap64 ((a1.size : Int) + 1)) = j_ := ⟨_, rfl⟩
      replace H : (if 0 ≤ (ji9) then (if (ji9 : Int).toNat ≤ 35184372088832 then (if 0 ≤ x6_1 then (if x6_1 < (x5_1.length : Int) then (impl_distances.l1 k1 a0 a1 (x5_1.set (x6_1 : Int).toNat (List.replicate (ji9 : Int).toNat 0)) x6_1 (a1.size : Int)) else (none)) else (none)) else (none)) else (none)) = some r := by first | (rw [hji9] at H; exact H) | (simp only [hji9] at H ⊢; exact H)
      have hji9w : (IntKind.i64.wrap ((a1.size : Int) + 1)) = ji9 := (i64_w _).trans hji9
      by_cases c10 : 0 ≤ (ji9)
      ·
       rw [if_pos c10] at H
       have c10b0 := eq_true c10
       have c10b1 : decide (0 ≤ (ji9)) = true := decide_eq_true c10
       clear c10
       by_cases c11 : (ji9 : Int).toNat ≤ 35184372088832
       ·
        rw [if_pos c11] at H
        have c11b0 := eq_true c11
        have c11b1 : decide ((ji9 : Int).toNat ≤ 35184372088832) = true := decide_eq_true c11
        clear c11
        obtain ⟨y104, hy104⟩ : ∃ y_ : List Int, y_ = (List.replicate (ji9 : Int).toNat 0) := ⟨_, rfl⟩
        replace H : (if 0 ≤ x6_1 then (if x6_1 < (x5_1.length : Int) then (impl_distances.l1 k1 a0 a1 (x5_1.set (x6_1 : Int).toNat y104) x6_1 (a1.size : Int)) else (none)) else (none)) = some r := by first | (rw [hy104]; with_reducible exact H) | (have H2_ := (Option.bind_some _ _).symm.trans H; rw [hy104]; with_reducible exact H2_) | (have H2_ := (Option.bind_some _ _).symm.trans H; with_reducible exact H2_) | with_reducible exact H | (rw [hy104]; exact H) | exact H
        have Ny104 := Aside0.mk hy104
        clear hy104
        by_cases c12 : 0 ≤ x6_1
        ·
         rw [if_pos c12] at H
         have c12b0 : decide (0 ≤ x6_1) = true := decide_eq_true c12
         clear c12
         by_cases c13 : x6_1 < (x5_1.length : Int)
         ·
          rw [if_pos c13] at H
          have c13b0 : decide (x6_1 < (x5_1.length : Int)) = true := decide_eq_true c13
          clear c13
          obtain ⟨y107, hy107⟩ : ∃ y_ : List (List Int), y_ = (x5_1.set (x6_1 : Int).toNat y104) := ⟨_, rfl⟩
          replace H : (impl_distances.l1 k1 a0 a1 y107 x6_1 (a1.size : Int)) = some r := by first | (rw [hy107]; with_reducible exact H) | (have H2_ := (Option.bind_some _ _).symm.trans H; rw [hy107]; with_reducible exact H2_) | (have H2_ := (Option.bind_some _ _).symm.trans H; with_reducible exact H2_) | with_reducible exact H | (rw [hy107]; exact H) | exact H
          have Ny107 := Aside0.mk hy107
          clear hy107
          have H' := Aside0.mk H
          clear H
          go_wp2_with (first | ((with_reducible refine gate_dst (N := 23) rfl ?_); refine Kd.R_make (Kd.int .i64) _ 3 rfl (N := 23) rfl 43 _ _ rfl ji9 rfl rfl Tryd.underlying43 (.int .i64 0) 8 info3 rfl (by decide) (by omega) 0 (ok := fun _ => True) (okp := fun _ => True) rfl (fun _ hk => hk) trivial (of_decide_eq_true (by first | (with_reducible assumption) | assumption)) (Nat.le_trans (Nat.mul_le_mul_right _ (of_decide_eq_true (by first | (with_reducible assumption) | assumption) : ji9.toNat ≤ 35184372088832)) (by omega)) (Below.refl _ _) (Nat.le_refl _) ?_; intro v105 w15 ho16 hb hg_ hnew_; clear hg_ hnew_; (first | rw [← Ny104.out] at ho16 | (simp only [Int.reduceToNat] at ho16; rw [← Ny104.out] at ho16)); have n0_ := Aside0.mk (Kd.S_elder' (by (with_reducible repeat (first | apply Kd.S_alloc | apply Kd.S_drewN | apply Kd.S_drew)); exact HO_5.out) (Kd.R_base ho16) hb); have n1_ := Aside0.mk (Kd.R_lower ho16 (below_size (by repeat (first | (with_reducible first | exact HB.out | apply below_alloc | apply pw_below_drewN | apply below_drew1) | exact HB.out)))); have n2_ := Aside0.mk (below_step (by repeat (first | (with_reducible first | exact HB.out | apply below_alloc | apply pw_below_drewN | apply below_drew1) | exact HB.out)) hb); clear HO_5; clear HB; have HO_5 := n0_; have HO106 := n1_; have HB := n2_; clear n0_ n1_ n2_; clear hb ho16; have p14 : 0 ≤ (x6_1 : Int) := of_decide_eq_true (by first | (with_reducible assumption) | assumption); have q14 : (x6_1 : Int) < ((x5_1.length : Int) : Int) := of_decide_eq_true (by first | (with_reducible assumption) | assumption); obtain ⟨go14, co14, eo14, gb14, gl14, cl14, HG14⟩ := Kd.S_form HO_5.out (by omega); (first | cases eo14 | (injection eo14 with ea_ en_ ec_; (first | subst ea_ | (injection ea_ with ea_; subst ea_)); subst ec_; clear en_)); have GB14 := Aside0.mk gb14; have GG14 := Aside0.mk HG14; clear gb14 gl14 HG14; obtain ⟨_, ce14, hcl14, hM14, hcc14, hfr14, _, _⟩ := Kd.S_elem HO_5.out [] (x6_1 : Int) p14 q14; obtain ⟨ve14_0, rfl, ge14_0⟩ := hM14; have hx14_0 := hcc14 0 _ rfl; have hf14_0 := hfr14 0; (try simp only [show ((Kd.slice 3 (Kd.int .i64))).sz = 1 from rfl, Nat.mul_one, Nat.add_zero] at hx14_0); (try simp only [show ((Kd.slice 3 (Kd.int .i64))).sz = 1 from rfl, Nat.mul_one, Nat.add_zero] at hf14_0); (try clear hM14); clear hcl14 hcc14 hfr14; replace p14 := eq_true p14; replace q14 := eq_true q14; have n_ := Aside0.mk (Kd.S_mono (ok' := (fun k_ => some k_ ≠ (v105 : Value).ownBlock)) HO_5.out (fun k_ hk => hk.2)); clear HO_5; have HO_5 := n_; clear n_; have HX17 := Aside0.mk (show Kd.S (Kd.slice 3 (Kd.int .i64)) 43 w15 w.heap.size (fun k_ => ((fun _ => True)) k_ ∧ ¬ ((fun k_ => some k_ = (v105 : Value).ownBlock)) k_) (.slice (some ⟨go14, 0, none⟩) x5_1.length co14) x5_1 from (by (with_reducible repeat (first | apply Kd.S_alloc | apply Kd.S_drewN | apply Kd.S_drew)); exact Kd.S_mono HO_5.out (fun k_ hk => ⟨trivial, fun e_ => hk e_⟩))); obtain ⟨oki17, ce17, hcl17, hM17, hcc17, hfr17, hoki17, hH17⟩ := Kd.S_elem HX17.out [] (x6_1 : Int) (of_decide_eq_true (by first | (with_reducible assumption) | assumption)) (by have h_ : (x6_1 : Int) < ((x5_1.length : Int) : Int) := of_decide_eq_true (by first | (with_reducible assumption) | assumption); first | exact h_ | (have e_ := (Kd.S_reads' HO_5.out).1; omega) | simpa using h_); obtain ⟨ve17_0, rfl, ge17_0⟩ := hM17; have HP17 := Kd.S_seg hH17 (of_decide_eq_true (by first | (with_reducible assumption) | assumption)) (by have h_ : (x6_1 : Int) < ((x5_1.length : Int) : Int) := of_decide_eq_true (by first | (with_reducible assumption) | assumption); first | exact h_ | (have e_ := (Kd.S_reads' HO_5.out).1; omega) | simpa using h_) (seg := [v105]) (j := 0) (show 1 ≤ 1 from by decide) (x' := y104) (Kd.M_row (Kd.R_mono (Kd.R_tight rfl (Kd.R_mono (ok' := fun k_ => ((fun _ => True)) k_ ∧ k_ ≠ go14) (Kd.R_apart' (HO106.out) (Kd.S_typed HO_5.out) (by decide)) (fun k_ hk => ⟨trivial, fun e_ => (hk.2) (by rw [e_]; rfl)⟩))) (fun _ h_ => Or.inr (h_)))) (fun _ hk => hk) (fun k_ hk_ => ((Kd.R_mono (ok' := fun k_ => ((fun _ => True)) k_ ∧ k_ ≠ go14) (Kd.R_apart' (HO106.out) (Kd.S_typed HO_5.out) (by decide)) (fun k_ hk => ⟨trivial, fun e_ => (hk.2) (by rw [e_]; rfl)⟩))).1 k_ hk_.symm); have hx17_0 := hcc17 0 _ rfl; (try simp only [show ((Kd.slice 3 (Kd.int .i64))).sz = 1 from rfl, Nat.mul_one, Nat.add_zero] at hx17_0); have hf17_0 := hfr17 0; (try simp only [show ((Kd.slice 3 (Kd.int .i64))).sz = 1 from rfl, Nat.mul_one, Nat.add_zero] at hf17_0); (try clear hM17); clear hcl17 hcc17 hfr17 hoki17 hH17; (try simp only [show ((Kd.slice 3 (Kd.int .i64))).sz = 1 from rfl, Nat.mul_one, Nat.add_zero] at HP17)) | ((with_reducible refine gate_store (t := 43) (p := 24) rfl ?_); refine store_event (t := 43) (p := 24) (v := ?vo_w18) (w1 := (w15.setCell ⟨go14, (x6_1 : Int).toNat, none⟩ (v105))) ?hg ?ho ?hn ?hr ?_; (case ho => rfl); (case hg => rfl); (case hn => rfl); (case hr => (obtain ⟨Av_, cv_, ev_⟩ := Kd.R_slice HO106.out; first | (rw [ev_]; go_simp; done) | (rw [ev_]; go_simp; rfl))); intro w18 hw; have hg : w15.grownBy w18 (some go14) := (by rw [hw]; exact HP17.2); have hp_ : Kd.S (Kd.slice 3 (Kd.int .i64)) 43 w18 w.heap.size (fun _ => True) (.slice (some ⟨go14, 0, none⟩) x5_1.length co14) y107 := (by rw [hw, Ny107.out]; exact HP17.1); clear HP17; have n0_ := Aside0.mk (hp_); have n1_ := Aside0.mk ((by rw [hw]; exact below_set (HB.out) GB14.out : Below w.heap.size w w18)); clear HO_5; clear HB; clear HO106; have HO_5 := n0_; have HB := n1_; clear n0_ n1_; clear hg hw hp_))
          go_loopg [7] k1 (fun kq v7 w' => ∃ (x5_2 : List (List Int)) (x7_2 : Int), v7 = .int .i64 x7_2 ∧ Aside0 (impl_distances.l1 kq a0 a1 x5_2 x6_1 x7_2 = some r) ∧ Aside0 (kq ≤ k1) ∧ Aside0 (Kd.S (Kd.slice 3 (Kd.int .i64)) 43 w' w.heap.size (fun _ => True) (.slice (some ⟨go14, 0, none⟩) x5_1.length co14) x5_2) ∧ Aside0 (Below w.heap.size w w'))
          case atStart => exact ⟨(y107), ((a1.size : Int)), (by first | rfl | (simp; done) | (simp [*]; done)), H', ⟨Nat.le_refl _⟩, ⟨by (with_reducible repeat (first | apply Kd.S_alloc | apply Kd.S_drewN | apply Kd.S_drew)); exact HO_5.out⟩, ⟨by repeat (first | (with_reducible first | exact HB.out | apply below_alloc | apply pw_below_drewN | apply below_drew1) | exact HB.out)⟩⟩
          case round =>
           clear H'
           try clear c1
           try clear p1
           try clear q1
           try clear hx1
           try clear p2
           try clear c3
           try clear c4
           try clear c4b0
           try clear c4b1
           try clear c5
           try clear c5b0
           try clear c5b1
           try clear p6
           try clear c8
           try clear c8b0
           try clear c10
           try clear c10b0
           try clear c10b1
           try clear c11
           try clear c11b0
           try clear c11b1
           try clear c12
           try clear c12b0
           try clear c13
           try clear c13b0
           try clear c14
           try clear p14
           try clear q14
           try clear hx14
           try clear hf14
           try clear c17
           try clear hx17
           try clear hf17
           try clear hx14_0
           try clear hx17_0
           try clear p14
           try clear p2
           try clear p6
           try clear q14
           obtain ⟨x5_2, x7_2, rfl, HA, HK2, HO_5, HB⟩ := hrel
           have hl5_2 := (Kd.S_reads' HO_5.out).1
           rw [hl5_2] at HO_5
           (try simp only [hl5_2])
           cases gk with
           | zero => exact absurd HA.out (by simp [impl_distances.l1])
           | succ k2 =>
            have H := HA.out
            clear HA
            simp only [impl_distances.l1] at H
            by_cases c19 : x7_2 ≥ 0
            ·
             rw [if_pos c19] at H
             have c19b0 : decide (0 ≤ x7_2) = true := decide_eq_true c19
             clear c19
             by_cases c20 : x6_1 = (a0.size : Int)
             ·
              rw [if_pos c20] at H
              have c20b0 : (x6_1 == (a0.size : Int)) = true := beq_iff_eq.mpr c20
              have c20b1 : (x6_1 != (a0.size : Int)) = false := bne_eq_false_iff_eq.mpr c20
              clear c20
              by_cases c21 : 0 ≤ x6_1
              ·
               rw [if_pos c21] at H
               have c21b0 : decide (0 ≤ x6_1) = true := decide_eq_true c21
               clear c21
               by_cases c22 : x6_1 < (x5_2.length : Int)
               ·
                rw [if_pos c22] at H
                have c22b0 : decide (x6_1 < (x5_2.length : Int)) = true := decide_eq_true c22
                (try (have c22b0_ := c22b0; rw [hl5_2] at c22b0_))
                clear c22
                by_cases c23 : 0 ≤ x7_2
                ·
                 rw [if_pos c23] at H
                 have c23b0 : decide (0 ≤ x7_2) = true := decide_eq_true c23
                 clear c23
                 by_cases c24 : x7_2 < ((rd_L1 x5_2 x6_1).length : Int)
                 ·
                  rw [if_pos c24] at H
                  have c24b0 : decide (x7_2 < ((rd_L1 x5_2 x6_1).length : Int)) = true := decide_eq_true c24
                  (try (have c24b0_ := c24b0; rw [hl5_2] at c24b0_))
                  clear c24
                  obtain ⟨y109, hy109⟩ : ∃ y_ : List Int, y_ = ((rd_L1 x5_2 x6_1).set (x7_2 : Int).toNat (wrap64 ((a1.size : Int) - x7_2))) := ⟨_, rfl⟩
                  replace H : (impl_distances.l1 k2 a0 a1 (x5_2.set (x6_1 : Int).toNat y109) x6_1 (wrap64 (x7_2 - 1))) = some r := by first | (rw [hy109]; with_reducible exact H) | (have H2_ := (Option.bind_some _ _).symm.trans H; rw [hy109]; with_reducible exact H2_) | (have H2_ := (Option.bind_some _ _).symm.trans H; with_reducible exact H2_) | with_reducible exact H | (rw [hy109]; exact H) | exact H
                  have Ny109 := Aside0.mk hy109
                  clear hy109
                  obtain ⟨y111, hy111⟩ : ∃ y_ : List (List Int), y_ = (x5_2.set (x6_1 : Int).toNat y109) := ⟨_, rfl⟩
                  replace H : (impl_distances.l1 k2 a0 a1 y111 x6_1 (wrap64 (x7_2 - 1))) = some r := by first | (rw [hy111]; with_reducible exact H) | (have H2_ := (Option.bind_some _ _).symm.trans H; rw [hy111]; with_reducible exact H2_) | (have H2_ := (Option.bind_some _ _).symm.trans H; with_reducible exact H2_) | with_reducible exact H | (rw [hy111]; exact H) | exact H
                  have Ny111 := Aside0.mk hy111
                  clear hy111
                  have H' := Aside0.mk H
                  clear H
                  have p108 : 0 ≤ (x6_1 : Int) := of_decide_eq_true (by first | (with_reducible assumption) | assumption)
                  have q108 : x6_1 < (x5_2.length : Int) := of_decide_eq_true (by first | (with_reducible assumption) | assumption)
                  obtain ⟨ad108, A108_0, c108_0, e108, hx108_0, hl108_0, hi108_0⟩ := at_L1 (Kd.S_reads' HO_5.out).2.2 x6_1 p108 q108
                  obtain rfl : (⟨go14, 0, none⟩ : Addr) = ad108 := (by injection e108)
                  obtain ⟨ce108, hce108, hMe108, hcc108⟩ := Kd.S_get HO_5.out [] x6_1 p108 (by first | exact q108 | exact of_decide_eq_true (by first | (with_reducible assumption) | assumption) | (have e_ := (Kd.S_reads' HO_5.out).1; omega))
                  obtain ⟨ve108_0, rfl, ge108_0⟩ := hMe108
                  have hv108_0 := hcc108 0 _ rfl
                  rw [Nat.add_zero, show ((Kd.slice 3 (Kd.int .i64))).sz = 1 from rfl, Nat.mul_one] at hv108_0
                  replace hv108_0 := Option.some.inj (hv108_0.symm.trans hx108_0)
                  rw [hv108_0] at ge108_0
                  have HL108_0 := Aside0.mk (show Kd.R (Kd.int .i64) 3 _ _ _ _ (rd_L1 x5_2 x6_1) from ge108_0)
                  clear hv108_0 ge108_0
                  have HX108_0 := Aside0.mk hx108_0
                  clear hcc108 hce108
                  (first | simp only [add_plain] at hx108_0 | simp only [add_at] at hx108_0 | simp only [Addr.add, Nat.zero_add] at hx108_0 | skip)
                  have HR108_0 := Aside0.mk hi108_0
                  have HC108_0 := Aside0.mk hl108_0
                  clear hi108_0 hl108_0
                  replace p108 := eq_true p108
                  replace q108 := eq_true q108
                  have p25 : 0 ≤ (x7_2 : Int) := of_decide_eq_true (by first | (with_reducible assumption) | assumption)
                  have q25 : (x7_2 : Int) < (((rd_L1 x5_2 x6_1).length : Int) : Int) := of_decide_eq_true (by first | (with_reducible assumption) | assumption)
                  obtain ⟨go25, co25, eo25, gb25, gl25, cl25, HG25⟩ := Kd.R_form HL108_0.out (by omega)
                  (first | cases eo25 | (injection eo25 with ea_ en_ ec_; (first | subst ea_ | (injection ea_ with ea_; subst ea_)); subst ec_; clear en_))
                  have GB25 := Aside0.mk gb25
                  have GG25 := Aside0.mk HG25
                  clear gb25 gl25 HG25
                  obtain ⟨hx25_0, hf25_0⟩ := Kd.R_celln 0 HL108_0.out (x7_2 : Int) p25 q25
                  replace p25 := eq_true p25
                  replace q25 := eq_true q25
                  have hq26 : (x6_1 : Int) < (x5_2.length : Int) := (by have h_ : (x6_1 : Int) < ((x5_2.length : Int) : Int) := of_decide_eq_true (by first | (with_reducible assumption) | assumption); first | exact h_ | (have e_ := (Kd.S_reads' HO_5.out).1; omega) | simpa only [List.length_set, List.length_set] using h_)
                  obtain ⟨oki26, ce26, hcl26, hM26, hcc26, hok26, hbk26⟩ := Kd.S_borrow HO_5.out [] (x6_1 : Int) (of_decide_eq_true (by first | (with_reducible assumption) | assumption)) hq26
                  obtain ⟨ve26_0, rfl, ge26_0⟩ := hM26
                  have hv26 := hcc26 0 _ rfl
                  rw [Nat.add_zero, show ((Kd.slice 3 (Kd.int .i64))).sz = 1 from rfl, Nat.mul_one] at hv26
                  replace hv26 := Option.some.inj (hv26.symm.trans HX108_0.out)
                  subst hv26
                  clear hcc26 hcl26
                  replace ge26_0 := (show Kd.R (Kd.int .i64) 3 _ _ _ _ (rd_L1 x5_2 x6_1) from ge26_0)
                  have HP26 := Kd.R_putg ge26_0 (x7_2 : Int) (wrap64 ((a1.size : Int) - x7_2))
                  go_wp2_with (first | ((with_reducible refine gate_store (t := 3) (p := 78) rfl ?_); refine store_event (t := 3) (p := 78) (v := ?vo_w27) (w1 := (wr.setCell ⟨go25, (x7_2 : Int).toNat, none⟩ (.int .i64 (wrap64 ((a1.size : Int) - x7_2))))) ?hg ?ho ?hn ?hr ?_; (case ho => rfl); (case hg => rfl); (case hn => rfl); (case hr => first | (go_simp; done) | (go_simp; rfl)); intro w27 hw; have hg : wr.grownBy w27 (some go25) := (by rw [hw]; exact HP26.2); have hz_ : Kd.R (Kd.int .i64) 3 w27 w.heap.size oki26 (.slice (some ⟨go25, 0, none⟩) (rd_L1 x5_2 x6_1).length c108_0) y109 := (by rw [hw, Ny109.out]; exact HP26.1); have hp_ : Kd.S (Kd.slice 3 (Kd.int .i64)) 43 w27 w.heap.size (fun _ => True) (.slice (some ⟨go14, 0, none⟩) x5_2.length co14) y111 := (by rw [Ny111.out]; exact hbk26 hg (fun k_ e_ => by injection e_ with e_; subst e_; exact ge26_0.1 _ rfl) (Kd.M_row hz_)); have hm_ := Kd.R_mono hz_ hok26; clear HP26 hbk26; have n0_ := Aside0.mk (hp_); have n1_ := Aside0.mk ((by rw [hw]; exact below_set (HB.out) GB25.out : Below w.heap.size w w27)); have n2_ := Aside0.mk (hm_); have n3_ := Aside0.mk ((Kd.R_reads' hm_).2.1); clear HO_5; clear HB; clear HL108_0; have HO_5 := n0_; have HB := n1_; have HL132 := n2_; have HC110 := n3_; clear n0_ n1_ n2_ n3_; clear hg hw hp_ hz_ hm_ hok26))
                  (try simp only [← hl5_2])
                  go_roundg k2
                  case measure => have := HK1.out; have := HK2.out; omega
                  case rel => exact ⟨(y111), (wrap64 (x7_2 - 1)), (by first | rfl | (simp; done) | (simp [*]; done)), H', ⟨by have := HK1.out; have := HK2.out; omega⟩, ⟨by (try simp only [hl5_2]); (with_reducible repeat (first | apply Kd.S_alloc | apply Kd.S_drewN | apply Kd.S_drew)); exact HO_5.out⟩, ⟨by repeat (first | (with_reducible first | exact HB.out | apply below_alloc | apply pw_below_drewN | apply below_drew1) | exact HB.out)⟩⟩
                 ·
                  rw [if_neg c24] at H
                  exact absurd H (by simp)
                ·
                 rw [if_neg c23] at H
                 exact absurd H (by simp)
               ·
                rw [if_neg c22] at H
                exact absurd H (by simp)
              ·
               rw [if_neg c21] at H
               exact absurd H (by simp)
             ·
              rw [if_neg c20] at H
              have c20b0 : (x6_1 == (a0.size : Int)) = false := beq_eq_false_iff_ne.mpr c20
              have c20b1 : (x6_1 != (a0.size : Int)) = true := bne_iff_ne.mpr c20
              by_cases c28 : x7_2 = (a1.size : Int)
              ·
               rw [if_pos c28] at H
               have c28b0 : (x7_2 == (a1.size : Int)) = true := beq_iff_eq.mpr c28
               have c28b1 : (x7_2 != (a1.size : Int)) = false := bne_eq_false_iff_eq.mpr c28
               clear c28
               by_cases c29 : 0 ≤ x6_1
               ·
                rw [if_pos c29] at H
                have c29b0 : decide (0 ≤ x6_1) = true := decide_eq_true c29
                clear c29
                by_cases c30 : x6_1 < (x5_2.length : Int)
                ·
                 rw [if_pos c30] at H
                 have c30b0 : decide (x6_1 < (x5_2.length : Int)) = true := decide_eq_true c30
                 (try (have c30b0_ := c30b0; rw [hl5_2] at c30b0_))
                 clear c30
                 by_cases c31 : 0 ≤ x7_2
                 ·
                  rw [if_pos c31] at H
                  have c31b0 : decide (0 ≤ x7_2) = true := decide_eq_true c31
                  clear c31
                  by_cases c32 : x7_2 < ((rd_L1 x5_2 x6_1).length : Int)
                  ·
                   rw [if_pos c32] at H
                   have c32b0 : decide (x7_2 < ((rd_L1 x5_2 x6_1).length : Int)) = true := decide_eq_true c32
                   (try (have c32b0_ := c32b0; rw [hl5_2] at c32b0_))
                   clear c32
                   obtain ⟨y113, hy113⟩ : ∃ y_ : List Int, y_ = ((rd_L1 x5_2 x6_1).set (x7_2 : Int).toNat (wrap64 ((a0.size : Int) - x6_1))) := ⟨_, rfl⟩
                   replace H : (impl_distances.l1 k2 a0 a1 (x5_2.set (x6_1 : Int).toNat y113) x6_1 (wrap64 (x7_2 - 1))) = some r := by first | (rw [hy113]; with_reducible exact H) | (have H2_ := (Option.bind_some _ _).symm.trans H; rw [hy113]; with_reducible exact H2_) | (have H2_ := (Option.bind_some _ _).symm.trans H; with_reducible exact H2_) | with_reducible exact H | (rw [hy113]; exact H) | exact H
                   have Ny113 := Aside0.mk hy113
                   clear hy113
                   obtain ⟨y115, hy115⟩ : ∃ y_ : List (List Int), y_ = (x5_2.set (x6_1 : Int).toNat y113) := ⟨_, rfl⟩
                   replace H : (impl_distances.l1 k2 a0 a1 y115 x6_1 (wrap64 (x7_2 - 1))) = some r := by first | (rw [hy115]; with_reducible exact H) | (have H2_ := (Option.bind_some _ _).symm.trans H; rw [hy115]; with_reducible exact H2_) | (have H2_ := (Option.bind_some _ _).symm.trans H; with_reducible exact H2_) | with_reducible exact H | (rw [hy115]; exact H) | exact H
                   have Ny115 := Aside0.mk hy115
                   clear hy115
                   have H' := Aside0.mk H
                   clear H
                   have p112 : 0 ≤ (x6_1 : Int) := of_decide_eq_true (by first | (with_reducible assumption) | assumption)
                   have q112 : x6_1 < (x5_2.length : Int) := of_decide_eq_true (by first | (with_reducible assumption) | assumption)
                   obtain ⟨ad112, A112_0, c112_0, e112, hx112_0, hl112_0, hi112_0⟩ := at_L1 (Kd.S_reads' HO_5.out).2.2 x6_1 p112 q112
                   obtain rfl : (⟨go14, 0, none⟩ : Addr) = ad112 := (by injection e112)
                   obtain ⟨ce112, hce112, hMe112, hcc112⟩ := Kd.S_get HO_5.out [] x6_1 p112 (by first | exact q112 | exact of_decide_eq_true (by first | (with_reducible assumption) | assumption) | (have e_ := (Kd.S_reads' HO_5.out).1; omega))
                   obtain ⟨ve112_0, rfl, ge112_0⟩ := hMe112
                   have hv112_0 := hcc112 0 _ rfl
                   rw [Nat.add_zero, show ((Kd.slice 3 (Kd.int .i64))).sz = 1 from rfl, Nat.mul_one] at hv112_0
                   replace hv112_0 := Option.some.inj (hv112_0.symm.trans hx112_0)
                   rw [hv112_0] at ge112_0
                   have HL112_0 := Aside0.mk (show Kd.R (Kd.int .i64) 3 _ _ _ _ (rd_L1 x5_2 x6_1) from ge112_0)
                   clear hv112_0 ge112_0
                   have HX112_0 := Aside0.mk hx112_0
                   clear hcc112 hce112
                   (first | simp only [add_plain] at hx112_0 | simp only [add_at] at hx112_0 | simp only [Addr.add, Nat.zero_add] at hx112_0 | skip)
                   have HR112_0 := Aside0.mk hi112_0
                   have HC112_0 := Aside0.mk hl112_0
                   clear hi112_0 hl112_0
                   replace p112 := eq_true p112
                   replace q112 := eq_true q112
                   have p33 : 0 ≤ (x7_2 : Int) := of_decide_eq_true (by first | (with_reducible assumption) | assumption)
                   have q33 : (x7_2 : Int) < (((rd_L1 x5_2 x6_1).length : Int) : Int) := of_decide_eq_true (by first | (with_reducible assumption) | assumption)
                   obtain ⟨go33, co33, eo33, gb33, gl33, cl33, HG33⟩ := Kd.R_form HL112_0.out (by omega)
                   (first | cases eo33 | (injection eo33 with ea_ en_ ec_; (first | subst ea_ | (injection ea_ with ea_; subst ea_)); subst ec_; clear en_))
                   have GB33 := Aside0.mk gb33
                   have GG33 := Aside0.mk HG33
                   clear gb33 gl33 HG33
                   obtain ⟨hx33_0, hf33_0⟩ := Kd.R_celln 0 HL112_0.out (x7_2 : Int) p33 q33
                   replace p33 := eq_true p33
                   replace q33 := eq_true q33
                   have hq34 : (x6_1 : Int) < (x5_2.length : Int) := (by have h_ : (x6_1 : Int) < ((x5_2.length : Int) : Int) := of_decide_eq_true (by first | (with_reducible assumption) | assumption); first | exact h_ | (have e_ := (Kd.S_reads' HO_5.out).1; omega) | simpa only [List.length_set, List.length_set] using h_)
                   obtain ⟨oki34, ce34, hcl34, hM34, hcc34, hok34, hbk34⟩ := Kd.S_borrow HO_5.out [] (x6_1 : Int) (of_decide_eq_true (by first | (with_reducible assumption) | assumption)) hq34
                   obtain ⟨ve34_0, rfl, ge34_0⟩ := hM34
                   have hv34 := hcc34 0 _ rfl
                   rw [Nat.add_zero, show ((Kd.slice 3 (Kd.int .i64))).sz = 1 from rfl, Nat.mul_one] at hv34
                   replace hv34 := Option.some.inj (hv34.symm.trans HX112_0.out)
                   subst hv34
                   clear hcc34 hcl34
                   replace ge34_0 := (show Kd.R (Kd.int .i64) 3 _ _ _ _ (rd_L1 x5_2 x6_1) from ge34_0)
                   have HP34 := Kd.R_putg ge34_0 (x7_2 : Int) (wrap64 ((a0.size : Int) - x6_1))
                   go_wp2_with (first | ((with_reducible refine gate_store (t := 3) (p := 93) rfl ?_); refine store_event (t := 3) (p := 93) (v := ?vo_w35) (w1 := (wr.setCell ⟨go33, (x7_2 : Int).toNat, none⟩ (.int .i64 (wrap64 ((a0.size : Int) - x6_1))))) ?hg ?ho ?hn ?hr ?_; (case ho => rfl); (case hg => rfl); (case hn => rfl); (case hr => first | (go_simp; done) | (go_simp; rfl)); intro w35 hw; have hg : wr.grownBy w35 (some go33) := (by rw [hw]; exact HP34.2); have hz_ : Kd.R (Kd.int .i64) 3 w35 w.heap.size oki34 (.slice (some ⟨go33, 0, none⟩) (rd_L1 x5_2 x6_1).length c112_0) y113 := (by rw [hw, Ny113.out]; exact HP34.1); have hp_ : Kd.S (Kd.slice 3 (Kd.int .i64)) 43 w35 w.heap.size (fun _ => True) (.slice (some ⟨go14, 0, none⟩) x5_2.length co14) y115 := (by rw [Ny115.out]; exact hbk34 hg (fun k_ e_ => by injection e_ with e_; subst e_; exact ge34_0.1 _ rfl) (Kd.M_row hz_)); have hm_ := Kd.R_mono hz_ hok34; clear HP34 hbk34; have n0_ := Aside0.mk (hp_); have n1_ := Aside0.mk ((by rw [hw]; exact below_set (HB.out) GB33.out : Below w.heap.size w w35)); have n2_ := Aside0.mk (hm_); have n3_ := Aside0.mk ((Kd.R_reads' hm_).2.1); clear HO_5; clear HB; clear HL112_0; have HO_5 := n0_; have HB := n1_; have HL133 := n2_; have HC114 := n3_; clear n0_ n1_ n2_ n3_; clear hg hw hp_ hz_ hm_ hok34))
                   (try simp only [← hl5_2])
                   go_roundg k2
                   case measure => have := HK1.out; have := HK2.out; omega
                   case rel => exact ⟨(y115), (wrap64 (x7_2 - 1)), (by first | rfl | (simp; done) | (simp [*]; done)), H', ⟨by have := HK1.out; have := HK2.out; omega⟩, ⟨by (try simp only [hl5_2]); (with_reducible repeat (first | apply Kd.S_alloc | apply Kd.S_drewN | apply Kd.S_drew)); exact HO_5.out⟩, ⟨by repeat (first | (with_reducible first | exact HB.out | apply below_alloc | apply pw_below_drewN | apply below_drew1) | exact HB.out)⟩⟩
                  ·
                   rw [if_neg c32] at H
                   exact absurd H (by simp)
                 ·
                  rw [if_neg c31] at H
                  exact absurd H (by simp)
                ·
                 rw [if_neg c30] at H
                 exact absurd H (by simp)
               ·
                rw [if_neg c29] at H
                exact absurd H (by simp)
              ·
               rw [if_neg c28] at H
               have c28b0 : (x7_2 == (a1.size : Int)) = false := beq_eq_false_iff_ne.mpr c28
               have c28b1 : (x7_2 != (a1.size : Int)) = true := bne_iff_ne.mpr c28
               by_cases c36 : 0 ≤ x6_1
               ·
                rw [if_pos c36] at H
                have c36b0 : decide (0 ≤ x6_1) = true := decide_eq_true c36
                clear c36
                by_cases c37 : x6_1 < (a0.size : Int)
                ·
                 rw [if_pos c37] at H
                 have c37b0 : decide (x6_1 < (a0.size : Int)) = true := decide_eq_true c37
                 clear c37
                 by_cases c39 : 0 ≤ x7_2
                 ·
                  rw [if_pos c39] at H
                  have c39b0 : decide (0 ≤ x7_2) = true := decide_eq_true c39
                  clear c39
                  by_cases c40 : x7_2 < (a1.size : Int)
                  ·
                   rw [if_pos c40] at H
                   have c40b0 : decide (x7_2 < (a1.size : Int)) = true := decide_eq_true c40
                   clear c40
                   by_cases c42 : (bt a0 x6_1) = (bt a1 x7_2)
                   ·
                    rw [if_pos c42] at H
                    have c42b0 : ((bt a0 x6_1) == (bt a1 x7_2)) = true := beq_iff_eq.mpr c42
                    have c42b1 : ((bt a0 x6_1) != (bt a1 x7_2)) = false := bne_eq_false_iff_eq.mpr c42
                    clear c42
                    by_cases c43 : x6_1 < (x5_2.length : Int)
                    ·
                     rw [if_pos c43] at H
                     have c43b0 : decide (x6_1 < (x5_2.length : Int)) = true := decide_eq_true c43
                     (try (have c43b0_ := c43b0; rw [hl5_2] at c43b0_))
                     clear c43
                     obtain ⟨ji44, hji44⟩ : ∃ j_ : Int, (wrap64 (x6_1 + 1)) = j_ := ⟨_, rfl⟩
                     replace H : (if 0 ≤ (ji44) then (if (ji44) < (x5_2.length : Int) then (if 0 ≤ (wrap64 (x7_2 + 1)) then (if (wrap64 (x7_2 + 1)) < ((rd_L1 x5_2 (ji44)).length : Int) then (if x7_2 < ((rd_L1 x5_2 x6_1).length : Int) then (impl_distances.l1 k2 a0 a1 (x5_2.set (x6_1 : Int).toNat ((rd_L1 x5_2 x6_1).set (x7_2 : Int).toNat (rd (rd_L1 x5_2 (ji44)) (wrap64 (x7_2 + 1))))) x6_1 (wrap64 (x7_2 - 1))) else (none)) else (none)) else (none)) else (none)) else (none)) = some r := by first | (rw [hji44] at H; exact H) | (simp only [hji44] at H ⊢; exact H)
                     have hji44w : (IntKind.i64.wrap (x6_1 + 1)) = ji44 := (i64_w _).trans hji44
                     by_cases c45 : 0 ≤ (ji44)
                     ·
                      rw [if_pos c45] at H
                      have c45b0 : decide (0 ≤ (ji44)) = true := decide_eq_true c45
                      clear c45
                      by_cases c46 : (ji44) < (x5_2.length : Int)
                      ·
                       rw [if_pos c46] at H
                       have c46b0 : decide ((ji44) < (x5_2.length : Int)) = true := decide_eq_true c46
                       (try (have c46b0_ := c46b0; rw [hl5_2] at c46b0_))
                       clear c46
                       obtain ⟨ji47, hji47⟩ : ∃ j_ : Int, (wrap64 (x7_2 + 1)) = j_ := ⟨_, rfl⟩
                       replace H : (if 0 ≤ (ji47) then (if (ji47) < ((rd_L1 x5_2 (ji44)).length : Int) then (if x7_2 < ((rd_L1 x5_2 x6_1).length : Int) then (impl_distances.l1 k2 a0 a1 (x5_2.set (x6_1 : Int).toNat ((rd_L1 x5_2 x6_1).set (x7_2 : Int).toNat (rd (rd_L1 x5_2 (ji44)) (ji47)))) x6_1 (wrap64 (x7_2 - 1))) else (none)) else (none)) else (none)) = some r := by first | (rw [hji47] at H; exact H) | (simp only [hji47] at H ⊢; exact H)
                       have hji47w : (IntKind.i64.wrap (x7_2 + 1)) = ji47 := (i64_w _).trans hji47
                       by_cases c48 : 0 ≤ (ji47)
                       ·
                        rw [if_pos c48] at H
                        have c48b0 : decide (0 ≤ (ji47)) = true := decide_eq_true c48
                        clear c48
                        by_cases c49 : (ji47) < ((rd_L1 x5_2 (ji44)).length : Int)
                        ·
                         rw [if_pos c49] at H
                         have c49b0 : decide ((ji47) < ((rd_L1 x5_2 (ji44)).length : Int)) = true := decide_eq_true c49
                         (try (have c49b0_ := c49b0; rw [hl5_2] at c49b0_))
                         clear c49
                         by_cases c50 : x7_2 < ((rd_L1 x5_2 x6_1).length : Int)
                         ·
                          rw [if_pos c50] at H
                          have c50b0 : decide (x7_2 < ((rd_L1 x5_2 x6_1).length : Int)) = true := decide_eq_true c50
                          (try (have c50b0_ := c50b0; rw [hl5_2] at c50b0_))
                          clear c50
                          obtain ⟨y119, hy119⟩ : ∃ y_ : List Int, y_ = ((rd_L1 x5_2 x6_1).set (x7_2 : Int).toNat (rd (rd_L1 x5_2 (ji44)) (ji47))) := ⟨_, rfl⟩
                          replace H : (impl_distances.l1 k2 a0 a1 (x5_2.set (x6_1 : Int).toNat y119) x6_1 (wrap64 (x7_2 - 1))) = some r := by first | (rw [hy119]; with_reducible exact H) | (have H2_ := (Option.bind_some _ _).symm.trans H; rw [hy119]; with_reducible exact H2_) | (have H2_ := (Option.bind_some _ _).symm.trans H; with_reducible exact H2_) | with_reducible exact H | (rw [hy119]; exact H) | exact H
                          have Ny119 := Aside0.mk hy119
                          clear hy119
                          obtain ⟨y121, hy121⟩ : ∃ y_ : List (List Int), y_ = (x5_2.set (x6_1 : Int).toNat y119) := ⟨_, rfl⟩
                          replace H : (impl_distances.l1 k2 a0 a1 y121 x6_1 (wrap64 (x7_2 - 1))) = some r := by first | (rw [hy121]; with_reducible exact H) | (have H2_ := (Option.bind_some _ _).symm.trans H; rw [hy121]; with_reducible exact H2_) | (have H2_ := (Option.bind_some _ _).symm.trans H; with_reducible exact H2_) | with_reducible exact H | (rw [hy121]; exact H) | exact H
                          have Ny121 := Aside0.mk hy121
                          clear hy121
                          have H' := Aside0.mk H
                          clear H
                          try go_wp2
                          have n0_ := Aside0.mk (Kd.S_drew HO_5.out)
                          have n1_ := Aside0.mk (below_drew1 HB.out)
                          clear HO_5
                          clear HB
                          have HO_5 := n0_
                          have HB := n1_
                          clear n0_ n1_
                          have p38 : 0 ≤ (x6_1 : Int) := of_decide_eq_true (by first | (with_reducible assumption) | assumption)
                          have q38 : x6_1 < (a0.size : Int) := of_decide_eq_true (by first | (with_reducible assumption) | assumption)
                          have hx38 := bt_at a0 x6_1
                          replace p38 := eq_true p38
                          replace q38 := eq_true q38
                          have p41 : 0 ≤ (x7_2 : Int) := of_decide_eq_true (by first | (with_reducible assumption) | assumption)
                          have q41 : x7_2 < (a1.size : Int) := of_decide_eq_true (by first | (with_reducible assumption) | assumption)
                          have hx41 := bt_at a1 x7_2
                          replace p41 := eq_true p41
                          replace q41 := eq_true q41
                          refine start_ (n := 8) (S := fun w' => True) (ds := []) #[false, false, false, false, false, false, false, false] (by kernel_rfl) rfl rfl trivial (fun hHeld => ?_); refine with_tabW impl_distances.tab14 impl_distances.bits14 (fun HT_ HW_ => ?_)
                          generalize wr.drew = w52 at HO_5 HB hHeld ⊢
                          refine pure_ (i := 0) (N := some 95) (v := ?_) (a' := ?_) #[true, false, false, false, false, false, false, false] rfl rfl (any_of HT_.out (by kernel_rfl)) (fun _ _ _ h => h) (Or.inl ⟨by rfl, ?_⟩) ?_ ?_
                          rotate_left
                          ·
                           intro w'
                           go_simp
                           with_reducible rfl
                          rotate_left
                          ·
                           simp only [Act.put, List.setIfInBounds_toArray, List.set_cons_zero, List.set_cons_succ, i64_w, i32_w]
                           rfl
                          refine pure_ (i := 1) (N := some 96) (v := ?_) (a' := ?_) #[true, true, false, false, false, false, false, false] rfl rfl (any_of HT_.out (by kernel_rfl)) (fun _ _ _ h => h) (Or.inl ⟨by rfl, ?_⟩) ?_ ?_
                          rotate_left
                          ·
                           intro w'
                           go_simp
                           with_reducible rfl
                          rotate_left
                          ·
                           simp only [Act.put, List.setIfInBounds_toArray, List.set_cons_zero, List.set_cons_succ, i64_w, i32_w]
                           rfl
                          refine pure_ (i := 3) (N := some 98) (v := ?_) (a' := ?_) #[true, true, false, true, false, false, false, false] rfl rfl (any_of HT_.out (by kernel_rfl)) (fun _ _ _ h => h) (Or.inl ⟨by rfl, ?_⟩) ?_ ?_
                          rotate_left
                          ·
                           intro w'
                           go_simp
                           with_reducible rfl
                          rotate_left
                          ·
                           simp only [Act.put, List.setIfInBounds_toArray, List.set_cons_zero, List.set_cons_succ, i64_w, i32_w]
                           rfl
                          refine pure_ (i := 4) (N := some 99) (v := ?_) (a' := ?_) #[true, true, false, true, true, false, false, false] rfl rfl (any_of HT_.out (by kernel_rfl)) (fun _ _ _ h => h) (Or.inl ⟨by rfl, ?_⟩) ?_ ?_
                          rotate_left
                          ·
                           intro w'
                           go_simp
                           with_reducible rfl
                          rotate_left
                          ·
                           simp only [Act.put, List.setIfInBounds_toArray, List.set_cons_zero, List.set_cons_succ, i64_w, i32_w]
                           rfl
                          refine take_ (i := 2) (N := some 97) (v := ?_) (a' := ?_) #[true, true, true, true, true, false, false, false] rfl rfl (take_ofW HT_.out HW_.out (by kernel_rfl)) (fun _ _ _ h => h) (Or.inl ⟨by rfl, ?_⟩) hHeld ?_ ?_
                          rotate_left
                          ·
                           intro w' _
                           go_simp
                           with_reducible rfl
                          rotate_left
                          ·
                           simp only [Act.put, List.setIfInBounds_toArray, List.set_cons_zero, List.set_cons_succ, i64_w, i32_w]
                           rfl
                          refine take_ (i := 5) (N := some 100) (v := ?_) (a' := ?_) #[true, true, true, true, true, true, false, false] rfl rfl (take_ofW HT_.out HW_.out (by kernel_rfl)) (fun _ _ _ h => h) (Or.inl ⟨by rfl, ?_⟩) hHeld ?_ ?_
                          rotate_left
                          ·
                           intro w' _
                           go_simp
                           with_reducible rfl
                          rotate_left
                          ·
                           simp only [Act.put, List.setIfInBounds_toArray, List.set_cons_zero, List.set_cons_succ, i64_w, i32_w]
                           rfl
                          refine pure_ (i := 6) (N := some 101) (v := ?_) (a' := ?_) #[true, true, true, true, true, true, true, false] rfl rfl (any_of HT_.out (by kernel_rfl)) (fun _ _ _ h => h) (Or.inl ⟨by rfl, ?_⟩) ?_ ?_
                          rotate_left
                          ·
                           intro w'
                           go_simp
                           with_reducible rfl
                          rotate_left
                          ·
                           simp only [Act.put, List.setIfInBounds_toArray, List.set_cons_zero, List.set_cons_succ, i64_w, i32_w]
                           rfl
                          refine pure_ (i := 7) (N := some 94) (v := ?_) (a' := ?_) #[true, true, true, true, true, true, true, true] rfl rfl (any_of HT_.out (by kernel_rfl)) (fun _ _ _ h => h) (Or.inl ⟨by rfl, ?_⟩) ?_ ?_
                          rotate_left
                          ·
                           intro w'
                           go_simp
                           with_reducible rfl
                          rotate_left
                          ·
                           simp only [Act.put, List.setIfInBounds_toArray, List.set_cons_zero, List.set_cons_succ, i64_w, i32_w]
                           rfl
                          refine done_ (done_of HT_.out (by kernel_rfl)) ?_
                          try go_wp2
                          have n0_ := Aside0.mk (Kd.S_drew HO_5.out)
                          have n1_ := Aside0.mk (below_drew1 HB.out)
                          clear HO_5
                          clear HB
                          have HO_5 := n0_
                          have HB := n1_
                          clear n0_ n1_
                          have p116 : 0 ≤ (x6_1 : Int) := of_decide_eq_true (by first | (with_reducible assumption) | assumption)
                          have q116 : x6_1 < (x5_2.length : Int) := of_decide_eq_true (by first | (with_reducible assumption) | assumption)
                          obtain ⟨ad116, A116_0, c116_0, e116, hx116_0, hl116_0, hi116_0⟩ := at_L1 (Kd.S_reads' HO_5.out).2.2 x6_1 p116 q116
                          obtain rfl : (⟨go14, 0, none⟩ : Addr) = ad116 := (by injection e116)
                          obtain ⟨ce116, hce116, hMe116, hcc116⟩ := Kd.S_get HO_5.out [] x6_1 p116 (by first | exact q116 | exact of_decide_eq_true (by first | (with_reducible assumption) | assumption) | (have e_ := (Kd.S_reads' HO_5.out).1; omega))
                          obtain ⟨ve116_0, rfl, ge116_0⟩ := hMe116
                          have hv116_0 := hcc116 0 _ rfl
                          rw [Nat.add_zero, show ((Kd.slice 3 (Kd.int .i64))).sz = 1 from rfl, Nat.mul_one] at hv116_0
                          replace hv116_0 := Option.some.inj (hv116_0.symm.trans hx116_0)
                          rw [hv116_0] at ge116_0
                          have HL116_0 := Aside0.mk (show Kd.R (Kd.int .i64) 3 _ _ _ _ (rd_L1 x5_2 x6_1) from ge116_0)
                          clear hv116_0 ge116_0
                          have HX116_0 := Aside0.mk hx116_0
                          clear hcc116 hce116
                          (first | simp only [add_plain] at hx116_0 | simp only [add_at] at hx116_0 | simp only [Addr.add, Nat.zero_add] at hx116_0 | skip)
                          have HR116_0 := Aside0.mk hi116_0
                          have HC116_0 := Aside0.mk hl116_0
                          clear hi116_0 hl116_0
                          replace p116 := eq_true p116
                          replace q116 := eq_true q116
                          have p117 : 0 ≤ ((ji44) : Int) := of_decide_eq_true (by first | (with_reducible assumption) | assumption)
                          have q117 : (ji44) < (x5_2.length : Int) := of_decide_eq_true (by first | (with_reducible assumption) | assumption)
                          obtain ⟨ad117, A117_0, c117_0, e117, hx117_0, hl117_0, hi117_0⟩ := at_L1 (Kd.S_reads' HO_5.out).2.2 (ji44) p117 q117
                          obtain rfl : (⟨go14, 0, none⟩ : Addr) = ad117 := (by injection e117)
                          obtain ⟨ce117, hce117, hMe117, hcc117⟩ := Kd.S_get HO_5.out [] (ji44) p117 (by first | exact q117 | exact of_decide_eq_true (by first | (with_reducible assumption) | assumption) | (have e_ := (Kd.S_reads' HO_5.out).1; omega))
                          obtain ⟨ve117_0, rfl, ge117_0⟩ := hMe117
                          have hv117_0 := hcc117 0 _ rfl
                          rw [Nat.add_zero, show ((Kd.slice 3 (Kd.int .i64))).sz = 1 from rfl, Nat.mul_one] at hv117_0
                          replace hv117_0 := Option.some.inj (hv117_0.symm.trans hx117_0)
                          rw [hv117_0] at ge117_0
                          have HL117_0 := Aside0.mk (show Kd.R (Kd.int .i64) 3 _ _ _ _ (rd_L1 x5_2 (ji44)) from ge117_0)
                          clear hv117_0 ge117_0
                          have HX117_0 := Aside0.mk hx117_0
                          clear hcc117 hce117
                          (first | simp only [add_plain] at hx117_0 | simp only [add_at] at hx117_0 | simp only [Addr.add, Nat.zero_add] at hx117_0 | skip)
                          have HR117_0 := Aside0.mk hi117_0
                          have HC117_0 := Aside0.mk hl117_0
                          clear hi117_0 hl117_0
                          replace p117 := eq_true p117
                          replace q117 := eq_true q117
                          have p118 : 0 ≤ ((ji47) : Int) := of_decide_eq_true (by first | (with_reducible assumption) | assumption)
                          have q118 : (ji47) < ((rd_L1 x5_2 (ji44)).length : Int) := of_decide_eq_true (by first | (with_reducible assumption) | assumption)
                          obtain ⟨ad118, e118, hx118_0⟩ := Kd.at_int (by repeat (first | (with_reducible exact HR117_0.out) | (with_reducible refine Kd.C_alloc ?_ _) | (with_reducible refine Kd.C_drewN ?_ _) | (with_reducible refine Kd.C_drew ?_) | exact HR117_0.out)) (ji47) p118 q118
                          cases e118
                          replace p118 := eq_true p118
                          replace q118 := eq_true q118
                          have p51 : 0 ≤ (x7_2 : Int) := of_decide_eq_true (by first | (with_reducible assumption) | assumption)
                          have q51 : (x7_2 : Int) < (((rd_L1 x5_2 x6_1).length : Int) : Int) := of_decide_eq_true (by first | (with_reducible assumption) | assumption)
                          obtain ⟨go51, co51, eo51, gb51, gl51, cl51, HG51⟩ := Kd.R_form HL116_0.out (by omega)
                          (first | cases eo51 | (injection eo51 with ea_ en_ ec_; (first | subst ea_ | (injection ea_ with ea_; subst ea_)); subst ec_; clear en_))
                          have GB51 := Aside0.mk gb51
                          have GG51 := Aside0.mk HG51
                          clear gb51 gl51 HG51
                          obtain ⟨hx51_0, hf51_0⟩ := Kd.R_celln 0 HL116_0.out (x7_2 : Int) p51 q51
                          replace p51 := eq_true p51
                          replace q51 := eq_true q51
                          have hq54 : (x6_1 : Int) < (x5_2.length : Int) := (by have h_ : (x6_1 : Int) < ((x5_2.length : Int) : Int) := of_decide_eq_true (by first | (with_reducible assumption) | assumption); first | exact h_ | (have e_ := (Kd.S_reads' HO_5.out).1; omega) | simpa only [List.length_set, List.length_set] using h_)
                          obtain ⟨oki54, ce54, hcl54, hM54, hcc54, hok54, hbk54⟩ := Kd.S_borrow HO_5.out [] (x6_1 : Int) (of_decide_eq_true (by first | (with_reducible assumption) | assumption)) hq54
                          obtain ⟨ve54_0, rfl, ge54_0⟩ := hM54
                          have hv54 := hcc54 0 _ rfl
                          rw [Nat.add_zero, show ((Kd.slice 3 (Kd.int .i64))).sz = 1 from rfl, Nat.mul_one] at hv54
                          replace hv54 := Option.some.inj (hv54.symm.trans HX116_0.out)
                          subst hv54
                          clear hcc54 hcl54
                          replace ge54_0 := (show Kd.R (Kd.int .i64) 3 _ _ _ _ (rd_L1 x5_2 x6_1) from ge54_0)
                          have HP54 := Kd.R_putg ge54_0 (x7_2 : Int) (rd (rd_L1 x5_2 (ji44)) (ji47))
                          rw [← Ny119.out] at HP54
                          have HS54 := hbk54 HP54.2 (fun k_ e_ => by injection e_ with e_; subst e_; exact ge54_0.1 _ rfl) (x' := y119) (Kd.M_row HP54.1)
                          rw [← Ny121.out] at HS54
                          have HQ54 := Aside0.mk HS54
                          clear HP54 HS54 hbk54 hok54
                          refine start_ (n := 16) (S := fun w' => w'.cell? ⟨go14, (x6_1).toNat, none⟩ = some (.slice (some ⟨go51, 0, none⟩) (rd_L1 x5_2 x6_1).length c116_0) ∧ w'.cell? ⟨go14, ((ji44)).toNat, none⟩ = some (.slice (some ad118) (rd_L1 x5_2 (ji44)).length c117_0) ∧ w'.cell? (ad118.add ((ji47)).toNat) = some (.int .i64 (rd (rd_L1 x5_2 (ji44)) (ji47)))) (ds := [15]) #[false, false, false, false, false, false, false, false, false, false, false, false, false, false, false, false] (by kernel_rfl) rfl rfl ⟨hx116_0, hx117_0, hx118_0⟩ (fun hHeld => ?_); refine with_tabW impl_distances.tab15 impl_distances.bits15 (fun HT_ HW_ => ?_)
                          generalize w52.drew = w53 at HO_5 HB GG51 HL116_0 HL117_0 HQ54 HR116_0 HR117_0 HX116_0 HX117_0 hf51_0 hx116_0 hx117_0 hx118_0 hx51_0 hHeld ⊢
                          refine pure_ (i := 0) (N := some 102) (v := ?_) (a' := ?_) #[true, false, false, false, false, false, false, false, false, false, false, false, false, false, false, false] rfl rfl (any_of HT_.out (by kernel_rfl)) (fun _ _ _ h => h) (Or.inl ⟨by rfl, ?_⟩) ?_ ?_
                          rotate_left
                          ·
                           intro w'
                           go_simp
                           with_reducible rfl
                          rotate_left
                          ·
                           simp only [Act.put, List.setIfInBounds_toArray, List.set_cons_zero, List.set_cons_succ, i64_w, i32_w]
                           rfl
                          refine pure_ (i := 1) (N := some 103) (v := ?_) (a' := ?_) #[true, true, false, false, false, false, false, false, false, false, false, false, false, false, false, false] rfl rfl (any_of HT_.out (by kernel_rfl)) (fun _ _ _ h => h) (Or.inl ⟨by rfl, ?_⟩) ?_ ?_
                          rotate_left
                          ·
                           intro w'
                           go_simp
                           with_reducible rfl
                          rotate_left
                          ·
                           simp only [Act.put, List.setIfInBounds_toArray, List.set_cons_zero, List.set_cons_succ, i64_w, i32_w]
                           rfl
                          refine pure_ (i := 2) (N := some 104) (v := ?_) (a' := ?_) #[true, true, true, false, false, false, false, false, false, false, false, false, false, false, false, false] rfl rfl (any_of HT_.out (by kernel_rfl)) (fun _ _ _ h => h) (Or.inl ⟨by rfl, ?_⟩) ?_ ?_
                          rotate_left
                          ·
                           intro w'
                           go_simp
                           with_reducible rfl
                          rotate_left
                          ·
                           simp only [Act.put, List.setIfInBounds_toArray, List.set_cons_zero, List.set_cons_succ, i64_w, i32_w]
                           rfl
                          refine pure_ (i := 4) (N := some 106) (v := ?_) (a' := ?_) #[true, true, true, false, true, false, false, false, false, false, false, false, false, false, false, false] rfl rfl (any_of HT_.out (by kernel_rfl)) (fun _ _ _ h => h) (Or.inl ⟨by rfl, ?_⟩) ?_ ?_
                          rotate_left
                          ·
                           intro w'
                           go_simp
                           with_reducible rfl
                          rotate_left
                          ·
                           simp only [Act.put, List.setIfInBounds_toArray, List.set_cons_zero, List.set_cons_succ, i64_w, i32_w]
                           rfl
                          refine pure_ (i := 5) (N := some 107) (v := ?_) (a' := ?_) #[true, true, true, false, true, true, false, false, false, false, false, false, false, false, false, false] rfl rfl (any_of HT_.out (by kernel_rfl)) (fun _ _ _ h => h) (Or.inl ⟨by rfl, ?_⟩) ?_ ?_
                          rotate_left
                          ·
                           intro w'
                           go_simp
                           with_reducible rfl
                          rotate_left
                          ·
                           simp only [Act.put, List.setIfInBounds_toArray, List.set_cons_zero, List.set_cons_succ, i64_w, i32_w]
                           rfl
                          refine pure_ (i := 6) (N := some 108) (v := ?_) (a' := ?_) #[true, true, true, false, true, true, true, false, false, false, false, false, false, false, false, false] rfl rfl (any_of HT_.out (by kernel_rfl)) (fun _ _ _ h => h) (Or.inl ⟨by rfl, ?_⟩) ?_ ?_
                          rotate_left
                          ·
                           intro w'
                           go_simp
                           with_reducible rfl
                          rotate_left
                          ·
                           simp only [Act.put, List.setIfInBounds_toArray, List.set_cons_zero, List.set_cons_succ, i64_w, i32_w]
                           rfl
                          refine pure_ (i := 7) (N := some 109) (v := ?_) (a' := ?_) #[true, true, true, false, true, true, true, true, false, false, false, false, false, false, false, false] rfl rfl (any_of HT_.out (by kernel_rfl)) (fun _ _ _ h => h) (Or.inl ⟨by rfl, ?_⟩) ?_ ?_
                          rotate_left
                          ·
                           intro w'
                           go_simp
                           with_reducible rfl
                          rotate_left
                          ·
                           simp only [Act.put, List.setIfInBounds_toArray, List.set_cons_zero, List.set_cons_succ, i64_w, i32_w]
                           rfl
                          refine pure_ (i := 8) (N := some 110) (v := ?_) (a' := ?_) #[true, true, true, false, true, true, true, true, true, false, false, false, false, false, false, false] rfl rfl (any_of HT_.out (by kernel_rfl)) (fun _ _ _ h => h) (Or.inl ⟨by rfl, ?_⟩) ?_ ?_
                          rotate_left
                          ·
                           intro w'
                           go_simp
                           with_reducible rfl
                          rotate_left
                          ·
                           simp only [Act.put, List.setIfInBounds_toArray, List.set_cons_zero, List.set_cons_succ, i64_w, i32_w]
                           rfl
                          refine pure_ (i := 10) (N := some 112) (v := ?_) (a' := ?_) #[true, true, true, false, true, true, true, true, true, false, true, false, false, false, false, false] rfl rfl (any_of HT_.out (by kernel_rfl)) (fun _ _ _ h => h) (Or.inl ⟨by rfl, ?_⟩) ?_ ?_
                          rotate_left
                          ·
                           intro w'
                           go_simp
                           with_reducible rfl
                          rotate_left
                          ·
                           simp only [Act.put, List.setIfInBounds_toArray, List.set_cons_zero, List.set_cons_succ, i64_w, i32_w]
                           rfl
                          refine pure_ (i := 11) (N := some 113) (v := ?_) (a' := ?_) #[true, true, true, false, true, true, true, true, true, false, true, true, false, false, false, false] rfl rfl (any_of HT_.out (by kernel_rfl)) (fun _ _ _ h => h) (Or.inl ⟨by rfl, ?_⟩) ?_ ?_
                          rotate_left
                          ·
                           intro w'
                           go_simp
                           with_reducible rfl
                          rotate_left
                          ·
                           simp only [Act.put, List.setIfInBounds_toArray, List.set_cons_zero, List.set_cons_succ, i64_w, i32_w]
                           rfl
                          refine take_ (i := 3) (N := some 105) (v := ?_) (a' := ?_) #[true, true, true, true, true, true, true, true, true, false, true, true, false, false, false, false] rfl rfl (take_ofW HT_.out HW_.out (by kernel_rfl)) (fun _ _ _ h => h) (Or.inl ⟨by rfl, ?_⟩) hHeld ?_ ?_
                          rotate_left
                          ·
                           rintro w' ⟨s0, s1, s2⟩
                           go_simp
                           with_reducible rfl
                          rotate_left
                          ·
                           simp only [Act.put, List.setIfInBounds_toArray, List.set_cons_zero, List.set_cons_succ, i64_w, i32_w]
                           rfl
                          refine take_ (i := 9) (N := some 111) (v := ?_) (a' := ?_) #[true, true, true, true, true, true, true, true, true, true, true, true, false, false, false, false] rfl rfl (take_ofW HT_.out HW_.out (by kernel_rfl)) (fun _ _ _ h => h) (Or.inl ⟨by rfl, ?_⟩) hHeld ?_ ?_
                          rotate_left
                          ·
                           rintro w' ⟨s0, s1, s2⟩
                           go_simp
                           with_reducible rfl
                          rotate_left
                          ·
                           simp only [Act.put, List.setIfInBounds_toArray, List.set_cons_zero, List.set_cons_succ, i64_w, i32_w]
                           rfl
                          refine pure_ (i := 12) (N := some 114) (v := ?_) (a' := ?_) #[true, true, true, true, true, true, true, true, true, true, true, true, true, false, false, false] rfl rfl (any_of HT_.out (by kernel_rfl)) (fun _ _ _ h => h) (Or.inl ⟨by rfl, ?_⟩) ?_ ?_
                          rotate_left
                          ·
                           intro w'
                           go_simp
                           with_reducible rfl
                          rotate_left
                          ·
                           simp only [Act.put, List.setIfInBounds_toArray, List.set_cons_zero, List.set_cons_succ, i64_w, i32_w]
                           rfl
                          refine take_ (i := 13) (N := some 115) (v := ?_) (a' := ?_) #[true, true, true, true, true, true, true, true, true, true, true, true, true, true, false, false] rfl rfl (take_ofW HT_.out HW_.out (by kernel_rfl)) (fun _ _ _ h => h) (Or.inl ⟨by rfl, ?_⟩) hHeld ?_ ?_
                          rotate_left
                          ·
                           rintro w' ⟨s0, s1, s2⟩
                           go_simp
                           with_reducible rfl
                          rotate_left
                          ·
                           simp only [Act.put, List.setIfInBounds_toArray, List.set_cons_zero, List.set_cons_succ, i64_w, i32_w]
                           rfl
                          refine pure_ (i := 14) (N := some 116) (v := ?_) (a' := ?_) #[true, true, true, true, true, true, true, true, true, true, true, true, true, true, true, false] rfl rfl (any_of HT_.out (by kernel_rfl)) (fun _ _ _ h => h) (Or.inl ⟨by rfl, ?_⟩) ?_ ?_
                          rotate_left
                          ·
                           intro w'
                           go_simp
                           with_reducible rfl
                          rotate_left
                          ·
                           simp only [Act.put, List.setIfInBounds_toArray, List.set_cons_zero, List.set_cons_succ, i64_w, i32_w]
                           rfl
                          refine last_ (i := 15) (N := none) #[true, true, true, true, true, true, true, true, true, true, true, true, true, true, true, true] rfl rfl (one_of HT_.out (by kernel_rfl)) (by decide) (fun K hK => ?_)
                          refine skip_ (w1 := ?_) (by rfl) rfl ?_ ?_
                          rotate_left
                          ·
                           go_simp
                           rfl
                          refine hK.out _ _ ?_
                          clear hK K
                          refine done_ (done_of HT_.out (by kernel_rfl)) ?_
                          try go_wp2
                          (try simp only [← hl5_2])
                          go_roundg k2
                          case measure => have := HK1.out; have := HK2.out; omega
                          case rel => exact ⟨(y121), (wrap64 (x7_2 - 1)), (by first | rfl | (simp; done) | (simp [*]; done)), H', ⟨by have := HK1.out; have := HK2.out; omega⟩, ⟨by (try simp only [hl5_2]); (with_reducible repeat (first | apply Kd.S_alloc | apply Kd.S_drewN | apply Kd.S_drew)); exact HQ54.out⟩, ⟨by repeat (first | (with_reducible first | exact HB.out | apply below_alloc | apply pw_below_drewN | apply below_drew1 | refine below_set ?_ GB51.out) | exact HB.out)⟩⟩
                         ·
                          rw [if_neg c50] at H
                          exact absurd H (by simp)
                        ·
                         rw [if_neg c49] at H
                         exact absurd H (by simp)
                       ·
                        rw [if_neg c48] at H
                        exact absurd H (by simp)
                      ·
                       rw [if_neg c46] at H
                       exact absurd H (by simp)
                     ·
                      rw [if_neg c45] at H
                      exact absurd H (by simp)
                    ·
                     rw [if_neg c43] at H
                     exact absurd H (by simp)
                   ·
                    rw [if_neg c42] at H
                    have c42b0 : ((bt a0 x6_1) == (bt a1 x7_2)) = false := beq_eq_false_iff_ne.mpr c42
                    have c42b1 : ((bt a0 x6_1) != (bt a1 x7_2)) = true := bne_iff_ne.mpr c42
                    by_cases c56 : x6_1 < (x5_2.length : Int)
                    ·
                     rw [if_pos c56] at H
                     have c56b0 : decide (x6_1 < (x5_2.length : Int)) = true := decide_eq_true c56
                     (try (have c56b0_ := c56b0; rw [hl5_2] at c56b0_))
                     clear c56
                     obtain ⟨ji57, hji57⟩ : ∃ j_ : Int, (wrap64 (x6_1 + 1)) = j_ := ⟨_, rfl⟩
                     replace H : (if 0 ≤ (ji57) then (if (ji57) < (x5_2.length : Int) then (if 0 ≤ (wrap64 (x7_2 + 1)) then (if (wrap64 (x7_2 + 1)) < ((rd_L1 x5_2 (ji57)).length : Int) then (if x7_2 < ((rd_L1 x5_2 (ji57)).length : Int) then (if (wrap64 (x7_2 + 1)) < ((rd_L1 x5_2 x6_1).length : Int) then (if x7_2 < ((rd_L1 x5_2 x6_1).length : Int) then (impl_distances.l1 k2 a0 a1 (x5_2.set (x6_1 : Int).toNat ((rd_L1 x5_2 x6_1).set (x7_2 : Int).toNat (wrap64 (1 + (mn (mn (rd (rd_L1 x5_2 (ji57)) (wrap64 (x7_2 + 1))) (rd (rd_L1 x5_2 (ji57)) x7_2)) (rd (rd_L1 x5_2 x6_1) (wrap64 (x7_2 + 1)))))))) x6_1 (wrap64 (x7_2 - 1))) else (none)) else (none)) else (none)) else (none)) else (none)) else (none)) else (none)) = some r := by first | (rw [hji57] at H; exact H) | (simp only [hji57] at H ⊢; exact H)
                     have hji57w : (IntKind.i64.wrap (x6_1 + 1)) = ji57 := (i64_w _).trans hji57
                     by_cases c58 : 0 ≤ (ji57)
                     ·
                      rw [if_pos c58] at H
                      have c58b0 : decide (0 ≤ (ji57)) = true := decide_eq_true c58
                      clear c58
                      by_cases c59 : (ji57) < (x5_2.length : Int)
                      ·
                       rw [if_pos c59] at H
                       have c59b0 : decide ((ji57) < (x5_2.length : Int)) = true := decide_eq_true c59
                       (try (have c59b0_ := c59b0; rw [hl5_2] at c59b0_))
                       clear c59
                       obtain ⟨ji60, hji60⟩ : ∃ j_ : Int, (wrap64 (x7_2 + 1)) = j_ := ⟨_, rfl⟩
                       replace H : (if 0 ≤ (ji60) then (if (ji60) < ((rd_L1 x5_2 (ji57)).length : Int) then (if x7_2 < ((rd_L1 x5_2 (ji57)).length : Int) then (if (ji60) < ((rd_L1 x5_2 x6_1).length : Int) then (if x7_2 < ((rd_L1 x5_2 x6_1).length : Int) then (impl_distances.l1 k2 a0 a1 (x5_2.set (x6_1 : Int).toNat ((rd_L1 x5_2 x6_1).set (x7_2 : Int).toNat (wrap64 (1 + (mn (mn (rd (rd_L1 x5_2 (ji57)) (ji60)) (rd (rd_L1 x5_2 (ji57)) x7_2)) (rd (rd_L1 x5_2 x6_1) (ji60))))))) x6_1 (wrap64 (x7_2 - 1))) else (none)) else (none)) else (none)) else (none)) else (none)) = some r := by first | (rw [hji60] at H; exact H) | (simp only [hji60] at H ⊢; exact H)
                       have hji60w : (IntKind.i64.wrap (x7_2 + 1)) = ji60 := (i64_w _).trans hji60
                       by_cases c61 : 0 ≤ (ji60)
                       ·
                        rw [if_pos c61] at H
                        have c61b0 : decide (0 ≤ (ji60)) = true := decide_eq_true c61
                        clear c61
                        by_cases c62 : (ji60) < ((rd_L1 x5_2 (ji57)).length : Int)
                        ·
                         rw [if_pos c62] at H
                         have c62b0 : decide ((ji60) < ((rd_L1 x5_2 (ji57)).length : Int)) = true := decide_eq_true c62
                         (try (have c62b0_ := c62b0; rw [hl5_2] at c62b0_))
                         clear c62
                         by_cases c63 : x7_2 < ((rd_L1 x5_2 (ji57)).length : Int)
                         ·
                          rw [if_pos c63] at H
                          have c63b0 : decide (x7_2 < ((rd_L1 x5_2 (ji57)).length : Int)) = true := decide_eq_true c63
                          (try (have c63b0_ := c63b0; rw [hl5_2] at c63b0_))
                          clear c63
                          by_cases c64 : (ji60) < ((rd_L1 x5_2 x6_1).length : Int)
                          ·
                           rw [if_pos c64] at H
                           have c64b0 : decide ((ji60) < ((rd_L1 x5_2 x6_1).length : Int)) = true := decide_eq_true c64
                           (try (have c64b0_ := c64b0; rw [hl5_2] at c64b0_))
                           clear c64
                           obtain ⟨ji65, hji65⟩ : ∃ j_ : Int, (mn (rd (rd_L1 x5_2 (ji57)) (ji60)) (rd (rd_L1 x5_2 (ji57)) x7_2)) = j_ := ⟨_, rfl⟩
                           replace H : (if x7_2 < ((rd_L1 x5_2 x6_1).length : Int) then (impl_distances.l1 k2 a0 a1 (x5_2.set (x6_1 : Int).toNat ((rd_L1 x5_2 x6_1).set (x7_2 : Int).toNat (wrap64 (1 + (mn (ji65) (rd (rd_L1 x5_2 x6_1) (ji60))))))) x6_1 (wrap64 (x7_2 - 1))) else (none)) = some r := by first | (rw [hji65] at H; exact H) | (simp only [hji65] at H ⊢; exact H)
                           have hji65_ : (if (rd (rd_L1 x5_2 (ji57)) x7_2) < (rd (rd_L1 x5_2 (ji57)) (ji60)) then (rd (rd_L1 x5_2 (ji57)) x7_2) else (rd (rd_L1 x5_2 (ji57)) (ji60))) = ji65 := hji65
                           obtain ⟨ji66, hji66⟩ : ∃ j_ : Int, (mn (ji65) (rd (rd_L1 x5_2 x6_1) (ji60))) = j_ := ⟨_, rfl⟩
                           replace H : (if x7_2 < ((rd_L1 x5_2 x6_1).length : Int) then (impl_distances.l1 k2 a0 a1 (x5_2.set (x6_1 : Int).toNat ((rd_L1 x5_2 x6_1).set (x7_2 : Int).toNat (wrap64 (1 + (ji66))))) x6_1 (wrap64 (x7_2 - 1))) else (none)) = some r := by first | (rw [hji66] at H; exact H) | (simp only [hji66] at H ⊢; exact H)
                           have hji66_ : (if (rd (rd_L1 x5_2 x6_1) (ji60)) < (ji65) then (rd (rd_L1 x5_2 x6_1) (ji60)) else (ji65)) = ji66 := hji66
                           by_cases c67 : x7_2 < ((rd_L1 x5_2 x6_1).length : Int)
                           ·
                            rw [if_pos c67] at H
                            have c67b0 : decide (x7_2 < ((rd_L1 x5_2 x6_1).length : Int)) = true := decide_eq_true c67
                            (try (have c67b0_ := c67b0; rw [hl5_2] at c67b0_))
                            clear c67
                            obtain ⟨y129, hy129⟩ : ∃ y_ : List Int, y_ = ((rd_L1 x5_2 x6_1).set (x7_2 : Int).toNat (wrap64 (1 + (ji66)))) := ⟨_, rfl⟩
                            replace H : (impl_distances.l1 k2 a0 a1 (x5_2.set (x6_1 : Int).toNat y129) x6_1 (wrap64 (x7_2 - 1))) = some r := by first | (rw [hy129]; with_reducible exact H) | (have H2_ := (Option.bind_some _ _).symm.trans H; rw [hy129]; with_reducible exact H2_) | (have H2_ := (Option.bind_some _ _).symm.trans H; with_reducible exact H2_) | with_reducible exact H | (rw [hy129]; exact H) | exact H
                            have Ny129 := Aside0.mk hy129
                            clear hy129
                            obtain ⟨y131, hy131⟩ : ∃ y_ : List (List Int), y_ = (x5_2.set (x6_1 : Int).toNat y129) := ⟨_, rfl⟩
                            replace H : (impl_distances.l1 k2 a0 a1 y131 x6_1 (wrap64 (x7_2 - 1))) = some r := by first | (rw [hy131]; with_reducible exact H) | (have H2_ := (Option.bind_some _ _).symm.trans H; rw [hy131]; with_reducible exact H2_) | (have H2_ := (Option.bind_some _ _).symm.trans H; with_reducible exact H2_) | with_reducible exact H | (rw [hy131]; exact H) | exact H
                            have Ny131 := Aside0.mk hy131
                            clear hy131
                            have H' := Aside0.mk H
                            clear H
                            try go_wp2
                            have n0_ := Aside0.mk (Kd.S_drew HO_5.out)
                            have n1_ := Aside0.mk (below_drew1 HB.out)
                            clear HO_5
                            clear HB
                            have HO_5 := n0_
                            have HB := n1_
                            clear n0_ n1_
                            have p38 : 0 ≤ (x6_1 : Int) := of_decide_eq_true (by first | (with_reducible assumption) | assumption)
                            have q38 : x6_1 < (a0.size : Int) := of_decide_eq_true (by first | (with_reducible assumption) | assumption)
                            have hx38 := bt_at a0 x6_1
                            replace p38 := eq_true p38
                            replace q38 := eq_true q38
                            have p41 : 0 ≤ (x7_2 : Int) := of_decide_eq_true (by first | (with_reducible assumption) | assumption)
                            have q41 : x7_2 < (a1.size : Int) := of_decide_eq_true (by first | (with_reducible assumption) | assumption)
                            have hx41 := bt_at a1 x7_2
                            replace p41 := eq_true p41
                            replace q41 := eq_true q41
                            refine start_ (n := 8) (S := fun w' => True) (ds := []) #[false, false, false, false, false, false, false, false] (by kernel_rfl) rfl rfl trivial (fun hHeld => ?_); refine with_tabW impl_distances.tab14 impl_distances.bits14 (fun HT_ HW_ => ?_)
                            generalize wr.drew = w69 at HO_5 HB hHeld ⊢
                            refine pure_ (i := 0) (N := some 95) (v := ?_) (a' := ?_) #[true, false, false, false, false, false, false, false] rfl rfl (any_of HT_.out (by kernel_rfl)) (fun _ _ _ h => h) (Or.inl ⟨by rfl, ?_⟩) ?_ ?_
                            rotate_left
                            ·
                             intro w'
                             go_simp
                             with_reducible rfl
                            rotate_left
                            ·
                             simp only [Act.put, List.setIfInBounds_toArray, List.set_cons_zero, List.set_cons_succ, i64_w, i32_w]
                             rfl
                            refine pure_ (i := 1) (N := some 96) (v := ?_) (a' := ?_) #[true, true, false, false, false, false, false, false] rfl rfl (any_of HT_.out (by kernel_rfl)) (fun _ _ _ h => h) (Or.inl ⟨by rfl, ?_⟩) ?_ ?_
                            rotate_left
                            ·
                             intro w'
                             go_simp
                             with_reducible rfl
                            rotate_left
                            ·
                             simp only [Act.put, List.setIfInBounds_toArray, List.set_cons_zero, List.set_cons_succ, i64_w, i32_w]
                             rfl
                            refine pure_ (i := 3) (N := some 98) (v := ?_) (a' := ?_) #[true, true, false, true, false, false, false, false] rfl rfl (any_of HT_.out (by kernel_rfl)) (fun _ _ _ h => h) (Or.inl ⟨by rfl, ?_⟩) ?_ ?_
                            rotate_left
                            ·
                             intro w'
                             go_simp
                             with_reducible rfl
                            rotate_left
                            ·
                             simp only [Act.put, List.setIfInBounds_toArray, List.set_cons_zero, List.set_cons_succ, i64_w, i32_w]
                             rfl
                            refine pure_ (i := 4) (N := some 99) (v := ?_) (a' := ?_) #[true, true, false, true, true, false, false, false] rfl rfl (any_of HT_.out (by kernel_rfl)) (fun _ _ _ h => h) (Or.inl ⟨by rfl, ?_⟩) ?_ ?_
                            rotate_left
                            ·
                             intro w'
                             go_simp
                             with_reducible rfl
                            rotate_left
                            ·
                             simp only [Act.put, List.setIfInBounds_toArray, List.set_cons_zero, List.set_cons_succ, i64_w, i32_w]
                             rfl
                            refine take_ (i := 2) (N := some 97) (v := ?_) (a' := ?_) #[true, true, true, true, true, false, false, false] rfl rfl (take_ofW HT_.out HW_.out (by kernel_rfl)) (fun _ _ _ h => h) (Or.inl ⟨by rfl, ?_⟩) hHeld ?_ ?_
                            rotate_left
                            ·
                             intro w' _
                             go_simp
                             with_reducible rfl
                            rotate_left
                            ·
                             simp only [Act.put, List.setIfInBounds_toArray, List.set_cons_zero, List.set_cons_succ, i64_w, i32_w]
                             rfl
                            refine take_ (i := 5) (N := some 100) (v := ?_) (a' := ?_) #[true, true, true, true, true, true, false, false] rfl rfl (take_ofW HT_.out HW_.out (by kernel_rfl)) (fun _ _ _ h => h) (Or.inl ⟨by rfl, ?_⟩) hHeld ?_ ?_
                            rotate_left
                            ·
                             intro w' _
                             go_simp
                             with_reducible rfl
                            rotate_left
                            ·
                             simp only [Act.put, List.setIfInBounds_toArray, List.set_cons_zero, List.set_cons_succ, i64_w, i32_w]
                             rfl
                            refine pure_ (i := 6) (N := some 101) (v := ?_) (a' := ?_) #[true, true, true, true, true, true, true, false] rfl rfl (any_of HT_.out (by kernel_rfl)) (fun _ _ _ h => h) (Or.inl ⟨by rfl, ?_⟩) ?_ ?_
                            rotate_left
                            ·
                             intro w'
                             go_simp
                             with_reducible rfl
                            rotate_left
                            ·
                             simp only [Act.put, List.setIfInBounds_toArray, List.set_cons_zero, List.set_cons_succ, i64_w, i32_w]
                             rfl
                            refine pure_ (i := 7) (N := some 94) (v := ?_) (a' := ?_) #[true, true, true, true, true, true, true, true] rfl rfl (any_of HT_.out (by kernel_rfl)) (fun _ _ _ h => h) (Or.inl ⟨by rfl, ?_⟩) ?_ ?_
                            rotate_left
                            ·
                             intro w'
                             go_simp
                             with_reducible rfl
                            rotate_left
                            ·
                             simp only [Act.put, List.setIfInBounds_toArray, List.set_cons_zero, List.set_cons_succ, i64_w, i32_w]
                             rfl
                            refine done_ (done_of HT_.out (by kernel_rfl)) ?_
                            try go_wp2
                            have n0_ := Aside0.mk (Kd.S_drew HO_5.out)
                            have n1_ := Aside0.mk (below_drew1 HB.out)
                            clear HO_5
                            clear HB
                            have HO_5 := n0_
                            have HB := n1_
                            clear n0_ n1_
                            have p122 : 0 ≤ (x6_1 : Int) := of_decide_eq_true (by first | (with_reducible assumption) | assumption)
                            have q122 : x6_1 < (x5_2.length : Int) := of_decide_eq_true (by first | (with_reducible assumption) | assumption)
                            obtain ⟨ad122, A122_0, c122_0, e122, hx122_0, hl122_0, hi122_0⟩ := at_L1 (Kd.S_reads' HO_5.out).2.2 x6_1 p122 q122
                            obtain rfl : (⟨go14, 0, none⟩ : Addr) = ad122 := (by injection e122)
                            obtain ⟨ce122, hce122, hMe122, hcc122⟩ := Kd.S_get HO_5.out [] x6_1 p122 (by first | exact q122 | exact of_decide_eq_true (by first | (with_reducible assumption) | assumption) | (have e_ := (Kd.S_reads' HO_5.out).1; omega))
                            obtain ⟨ve122_0, rfl, ge122_0⟩ := hMe122
                            have hv122_0 := hcc122 0 _ rfl
                            rw [Nat.add_zero, show ((Kd.slice 3 (Kd.int .i64))).sz = 1 from rfl, Nat.mul_one] at hv122_0
                            replace hv122_0 := Option.some.inj (hv122_0.symm.trans hx122_0)
                            rw [hv122_0] at ge122_0
                            have HL122_0 := Aside0.mk (show Kd.R (Kd.int .i64) 3 _ _ _ _ (rd_L1 x5_2 x6_1) from ge122_0)
                            clear hv122_0 ge122_0
                            have HX122_0 := Aside0.mk hx122_0
                            clear hcc122 hce122
                            (first | simp only [add_plain] at hx122_0 | simp only [add_at] at hx122_0 | simp only [Addr.add, Nat.zero_add] at hx122_0 | skip)
                            have HR122_0 := Aside0.mk hi122_0
                            have HC122_0 := Aside0.mk hl122_0
                            clear hi122_0 hl122_0
                            replace p122 := eq_true p122
                            replace q122 := eq_true q122
                            have p123 : 0 ≤ ((ji57) : Int) := of_decide_eq_true (by first | (with_reducible assumption) | assumption)
                            have q123 : (ji57) < (x5_2.length : Int) := of_decide_eq_true (by first | (with_reducible assumption) | assumption)
                            obtain ⟨ad123, A123_0, c123_0, e123, hx123_0, hl123_0, hi123_0⟩ := at_L1 (Kd.S_reads' HO_5.out).2.2 (ji57) p123 q123
                            obtain rfl : (⟨go14, 0, none⟩ : Addr) = ad123 := (by injection e123)
                            obtain ⟨ce123, hce123, hMe123, hcc123⟩ := Kd.S_get HO_5.out [] (ji57) p123 (by first | exact q123 | exact of_decide_eq_true (by first | (with_reducible assumption) | assumption) | (have e_ := (Kd.S_reads' HO_5.out).1; omega))
                            obtain ⟨ve123_0, rfl, ge123_0⟩ := hMe123
                            have hv123_0 := hcc123 0 _ rfl
                            rw [Nat.add_zero, show ((Kd.slice 3 (Kd.int .i64))).sz = 1 from rfl, Nat.mul_one] at hv123_0
                            replace hv123_0 := Option.some.inj (hv123_0.symm.trans hx123_0)
                            rw [hv123_0] at ge123_0
                            have HL123_0 := Aside0.mk (show Kd.R (Kd.int .i64) 3 _ _ _ _ (rd_L1 x5_2 (ji57)) from ge123_0)
                            clear hv123_0 ge123_0
                            have HX123_0 := Aside0.mk hx123_0
                            clear hcc123 hce123
                            (first | simp only [add_plain] at hx123_0 | simp only [add_at] at hx123_0 | simp only [Addr.add, Nat.zero_add] at hx123_0 | skip)
                            have HR123_0 := Aside0.mk hi123_0
                            have HC123_0 := Aside0.mk hl123_0
                            clear hi123_0 hl123_0
                            replace p123 := eq_true p123
                            replace q123 := eq_true q123
                            have p124 : 0 ≤ ((ji60) : Int) := of_decide_eq_true (by first | (with_reducible assumption) | assumption)
                            have q124 : (ji60) < ((rd_L1 x5_2 (ji57)).length : Int) := of_decide_eq_true (by first | (with_reducible assumption) | assumption)
                            obtain ⟨ad124, e124, hx124_0⟩ := Kd.at_int (by repeat (first | (with_reducible exact HR123_0.out) | (with_reducible refine Kd.C_alloc ?_ _) | (with_reducible refine Kd.C_drewN ?_ _) | (with_reducible refine Kd.C_drew ?_) | exact HR123_0.out)) (ji60) p124 q124
                            cases e124
                            replace p124 := eq_true p124
                            replace q124 := eq_true q124
                            have p125 : 0 ≤ ((ji57) : Int) := of_decide_eq_true (by first | (with_reducible assumption) | assumption)
                            have q125 : (ji57) < (x5_2.length : Int) := of_decide_eq_true (by first | (with_reducible assumption) | assumption)
                            obtain ⟨ad125, A125_0, c125_0, e125, hx125_0, hl125_0, hi125_0⟩ := at_L1 (Kd.S_reads' HO_5.out).2.2 (ji57) p125 q125
                            obtain rfl : (⟨go14, 0, none⟩ : Addr) = ad125 := (by injection e125)
                            obtain ⟨ce125, hce125, hMe125, hcc125⟩ := Kd.S_get HO_5.out [] (ji57) p125 (by first | exact q125 | exact of_decide_eq_true (by first | (with_reducible assumption) | assumption) | (have e_ := (Kd.S_reads' HO_5.out).1; omega))
                            obtain ⟨ve125_0, rfl, ge125_0⟩ := hMe125
                            have hv125_0 := hcc125 0 _ rfl
                            rw [Nat.add_zero, show ((Kd.slice 3 (Kd.int .i64))).sz = 1 from rfl, Nat.mul_one] at hv125_0
                            replace hv125_0 := Option.some.inj (hv125_0.symm.trans hx125_0)
                            rw [hv125_0] at ge125_0
                            have HL125_0 := Aside0.mk (show Kd.R (Kd.int .i64) 3 _ _ _ _ (rd_L1 x5_2 (ji57)) from ge125_0)
                            clear hv125_0 ge125_0
                            have HX125_0 := Aside0.mk hx125_0
                            clear hcc125 hce125
                            (first | simp only [add_plain] at hx125_0 | simp only [add_at] at hx125_0 | simp only [Addr.add, Nat.zero_add] at hx125_0 | skip)
                            have HR125_0 := Aside0.mk hi125_0
                            have HC125_0 := Aside0.mk hl125_0
                            clear hi125_0 hl125_0
                            replace p125 := eq_true p125
                            replace q125 := eq_true q125
                            have ea_ := Option.some.inj (hx123_0.symm.trans hx125_0)
                            injection ea_ with ea_ en_ ec_
                            subst ea_
                            subst ec_
                            clear en_
                            have p126 : 0 ≤ (x7_2 : Int) := of_decide_eq_true (by first | (with_reducible assumption) | assumption)
                            have q126 : x7_2 < ((rd_L1 x5_2 (ji57)).length : Int) := of_decide_eq_true (by first | (with_reducible assumption) | assumption)
                            obtain ⟨ad126, e126, hx126_0⟩ := Kd.at_int (by repeat (first | (with_reducible exact HR125_0.out) | (with_reducible refine Kd.C_alloc ?_ _) | (with_reducible refine Kd.C_drewN ?_ _) | (with_reducible refine Kd.C_drew ?_) | exact HR125_0.out)) x7_2 p126 q126
                            cases e126
                            replace p126 := eq_true p126
                            replace q126 := eq_true q126
                            have p127 : 0 ≤ (x6_1 : Int) := of_decide_eq_true (by first | (with_reducible assumption) | assumption)
                            have q127 : x6_1 < (x5_2.length : Int) := of_decide_eq_true (by first | (with_reducible assumption) | assumption)
                            obtain ⟨ad127, A127_0, c127_0, e127, hx127_0, hl127_0, hi127_0⟩ := at_L1 (Kd.S_reads' HO_5.out).2.2 x6_1 p127 q127
                            obtain rfl : (⟨go14, 0, none⟩ : Addr) = ad127 := (by injection e127)
                            obtain ⟨ce127, hce127, hMe127, hcc127⟩ := Kd.S_get HO_5.out [] x6_1 p127 (by first | exact q127 | exact of_decide_eq_true (by first | (with_reducible assumption) | assumption) | (have e_ := (Kd.S_reads' HO_5.out).1; omega))
                            obtain ⟨ve127_0, rfl, ge127_0⟩ := hMe127
                            have hv127_0 := hcc127 0 _ rfl
                            rw [Nat.add_zero, show ((Kd.slice 3 (Kd.int .i64))).sz = 1 from rfl, Nat.mul_one] at hv127_0
                            replace hv127_0 := Option.some.inj (hv127_0.symm.trans hx127_0)
                            rw [hv127_0] at ge127_0
                            have HL127_0 := Aside0.mk (show Kd.R (Kd.int .i64) 3 _ _ _ _ (rd_L1 x5_2 x6_1) from ge127_0)
                            clear hv127_0 ge127_0
                            have HX127_0 := Aside0.mk hx127_0
                            clear hcc127 hce127
                            (first | simp only [add_plain] at hx127_0 | simp only [add_at] at hx127_0 | simp only [Addr.add, Nat.zero_add] at hx127_0 | skip)
                            have HR127_0 := Aside0.mk hi127_0
                            have HC127_0 := Aside0.mk hl127_0
                            clear hi127_0 hl127_0
                            replace p127 := eq_true p127
                            replace q127 := eq_true q127
                            have ea_ := Option.some.inj (hx122_0.symm.trans hx127_0)
                            injection ea_ with ea_ en_ ec_
                            subst ea_
                            subst ec_
                            clear en_
                            have p128 : 0 ≤ ((ji60) : Int) := of_decide_eq_true (by first | (with_reducible assumption) | assumption)
                            have q128 : (ji60) < ((rd_L1 x5_2 x6_1).length : Int) := of_decide_eq_true (by first | (with_reducible assumption) | assumption)
                            obtain ⟨ad128, e128, hx128_0⟩ := Kd.at_int (by repeat (first | (with_reducible exact HR127_0.out) | (with_reducible refine Kd.C_alloc ?_ _) | (with_reducible refine Kd.C_drewN ?_ _) | (with_reducible refine Kd.C_drew ?_) | exact HR127_0.out)) (ji60) p128 q128
                            cases e128
                            replace p128 := eq_true p128
                            replace q128 := eq_true q128
                            have p68 : 0 ≤ (x7_2 : Int) := of_decide_eq_true (by first | (with_reducible assumption) | assumption)
                            have q68 : (x7_2 : Int) < (((rd_L1 x5_2 x6_1).length : Int) : Int) := of_decide_eq_true (by first | (with_reducible assumption) | assumption)
                            obtain ⟨go68, co68, eo68, gb68, gl68, cl68, HG68⟩ := Kd.R_form HL122_0.out (by omega)
                            (first | cases eo68 | (injection eo68 with ea_ en_ ec_; (first | subst ea_ | (injection ea_ with ea_; subst ea_)); subst ec_; clear en_))
                            have GB68 := Aside0.mk gb68
                            have GG68 := Aside0.mk HG68
                            clear gb68 gl68 HG68
                            (first | simp only [add_plain] at hx128_0 | skip)
                            obtain ⟨hx68_0, hf68_0⟩ := Kd.R_celln 0 HL122_0.out (x7_2 : Int) p68 q68
                            replace p68 := eq_true p68
                            replace q68 := eq_true q68
                            have hq71 : (x6_1 : Int) < (x5_2.length : Int) := (by have h_ : (x6_1 : Int) < ((x5_2.length : Int) : Int) := of_decide_eq_true (by first | (with_reducible assumption) | assumption); first | exact h_ | (have e_ := (Kd.S_reads' HO_5.out).1; omega) | simpa only [List.length_set, List.length_set] using h_)
                            obtain ⟨oki71, ce71, hcl71, hM71, hcc71, hok71, hbk71⟩ := Kd.S_borrow HO_5.out [] (x6_1 : Int) (of_decide_eq_true (by first | (with_reducible assumption) | assumption)) hq71
                            obtain ⟨ve71_0, rfl, ge71_0⟩ := hM71
                            have hv71 := hcc71 0 _ rfl
                            rw [Nat.add_zero, show ((Kd.slice 3 (Kd.int .i64))).sz = 1 from rfl, Nat.mul_one] at hv71
                            replace hv71 := Option.some.inj (hv71.symm.trans HX122_0.out)
                            subst hv71
                            clear hcc71 hcl71
                            replace ge71_0 := (show Kd.R (Kd.int .i64) 3 _ _ _ _ (rd_L1 x5_2 x6_1) from ge71_0)
                            have HP71 := Kd.R_putg ge71_0 (x7_2 : Int) (wrap64 (1 + (ji66)))
                            rw [← Ny129.out] at HP71
                            have HS71 := hbk71 HP71.2 (fun k_ e_ => by injection e_ with e_; subst e_; exact ge71_0.1 _ rfl) (x' := y129) (Kd.M_row HP71.1)
                            rw [← Ny131.out] at HS71
                            have HQ71 := Aside0.mk HS71
                            clear HP71 HS71 hbk71 hok71
                            refine start_ (n := 34) (S := fun w' => w'.cell? ⟨go14, (x6_1).toNat, none⟩ = some (.slice (some ⟨go68, 0, none⟩) (rd_L1 x5_2 x6_1).length c122_0) ∧ w'.cell? ⟨go14, ((ji57)).toNat, none⟩ = some (.slice (some ad124) (rd_L1 x5_2 (ji57)).length c123_0) ∧ w'.cell? (ad124.add ((ji60)).toNat) = some (.int .i64 (rd (rd_L1 x5_2 (ji57)) (ji60))) ∧ w'.cell? ⟨go14, ((ji57)).toNat, none⟩ = some (.slice (some ad124) (rd_L1 x5_2 (ji57)).length c123_0) ∧ w'.cell? (ad124.add (x7_2).toNat) = some (.int .i64 (rd (rd_L1 x5_2 (ji57)) x7_2)) ∧ w'.cell? ⟨go14, (x6_1).toNat, none⟩ = some (.slice (some ⟨go68, 0, none⟩) (rd_L1 x5_2 x6_1).length c122_0) ∧ w'.cell? ⟨go68, ((ji60)).toNat, none⟩ = some (.int .i64 (rd (rd_L1 x5_2 x6_1) (ji60)))) (ds := [33]) #[false, false, false, false, false, false, false, false, false, false, false, false, false, false, false, false, false, false, false, false, false, false, false, false, false, false, false, false, false, false, false, false, false, false] (by kernel_rfl) rfl rfl ⟨hx122_0, hx123_0, hx124_0, hx125_0, hx126_0, hx127_0, hx128_0⟩ (fun hHeld => ?_); refine with_tabW impl_distances.tab9 impl_distances.bits9 (fun HT_ HW_ => ?_)
                            generalize w69.drew = w70 at HO_5 HB GG68 HL122_0 HL123_0 HL125_0 HL127_0 HQ71 HR122_0 HR123_0 HR125_0 HR127_0 HX122_0 HX123_0 HX125_0 HX127_0 hf68_0 hx122_0 hx123_0 hx124_0 hx125_0 hx126_0 hx127_0 hx128_0 hx68_0 hHeld ⊢
                            refine pure_ (i := 0) (N := some 31) (v := ?_) (a' := ?_) #[true, false, false, false, false, false, false, false, false, false, false, false, false, false, false, false, false, false, false, false, false, false, false, false, false, false, false, false, false, false, false, false, false, false] rfl rfl (any_of HT_.out (by kernel_rfl)) (fun _ _ _ h => h) (Or.inl ⟨by rfl, ?_⟩) ?_ ?_
                            rotate_left
                            ·
                             intro w'
                             go_simp
                             with_reducible rfl
                            rotate_left
                            ·
                             simp only [Act.put, List.setIfInBounds_toArray, List.set_cons_zero, List.set_cons_succ, i64_w, i32_w]
                             rfl
                            refine pure_ (i := 1) (N := some 32) (v := ?_) (a' := ?_) #[true, true, false, false, false, false, false, false, false, false, false, false, false, false, false, false, false, false, false, false, false, false, false, false, false, false, false, false, false, false, false, false, false, false] rfl rfl (any_of HT_.out (by kernel_rfl)) (fun _ _ _ h => h) (Or.inl ⟨by rfl, ?_⟩) ?_ ?_
                            rotate_left
                            ·
                             intro w'
                             go_simp
                             with_reducible rfl
                            rotate_left
                            ·
                             simp only [Act.put, List.setIfInBounds_toArray, List.set_cons_zero, List.set_cons_succ, i64_w, i32_w]
                             rfl
                            refine pure_ (i := 2) (N := some 33) (v := ?_) (a' := ?_) #[true, true, true, false, false, false, false, false, false, false, false, false, false, false, false, false, false, false, false, false, false, false, false, false, false, false, false, false, false, false, false, false, false, false] rfl rfl (any_of HT_.out (by kernel_rfl)) (fun _ _ _ h => h) (Or.inl ⟨by rfl, ?_⟩) ?_ ?_
                            rotate_left
                            ·
                             intro w'
                             go_simp
                             with_reducible rfl
                            rotate_left
                            ·
                             simp only [Act.put, List.setIfInBounds_toArray, List.set_cons_zero, List.set_cons_succ, i64_w, i32_w]
                             rfl
                            refine pure_ (i := 4) (N := some 35) (v := ?_) (a' := ?_) #[true, true, true, false, true, false, false, false, false, false, false, false, false, false, false, false, false, false, false, false, false, false, false, false, false, false, false, false, false, false, false, false, false, false] rfl rfl (any_of HT_.out (by kernel_rfl)) (fun _ _ _ h => h) (Or.inl ⟨by rfl, ?_⟩) ?_ ?_
                            rotate_left
                            ·
                             intro w'
                             go_simp
                             with_reducible rfl
                            rotate_left
                            ·
                             simp only [Act.put, List.setIfInBounds_toArray, List.set_cons_zero, List.set_cons_succ, i64_w, i32_w]
                             rfl
                            refine pure_ (i := 5) (N := some 36) (v := ?_) (a' := ?_) #[true, true, true, false, true, true, false, false, false, false, false, false, false, false, false, false, false, false, false, false, false, false, false, false, false, false, false, false, false, false, false, false, false, false] rfl rfl (any_of HT_.out (by kernel_rfl)) (fun _ _ _ h => h) (Or.inl ⟨by rfl, ?_⟩) ?_ ?_
                            rotate_left
                            ·
                             intro w'
                             go_simp
                             with_reducible rfl
                            rotate_left
                            ·
                             simp only [Act.put, List.setIfInBounds_toArray, List.set_cons_zero, List.set_cons_succ, i64_w, i32_w]
                             rfl
                            refine pure_ (i := 6) (N := some 37) (v := ?_) (a' := ?_) #[true, true, true, false, true, true, true, false, false, false, false, false, false, false, false, false, false, false, false, false, false, false, false, false, false, false, false, false, false, false, false, false, false, false] rfl rfl (any_of HT_.out (by kernel_rfl)) (fun _ _ _ h => h) (Or.inl ⟨by rfl, ?_⟩) ?_ ?_
                            rotate_left
                            ·
                             intro w'
                             go_simp
                             with_reducible rfl
                            rotate_left
                            ·
                             simp only [Act.put, List.setIfInBounds_toArray, List.set_cons_zero, List.set_cons_succ, i64_w, i32_w]
                             rfl
                            refine pure_ (i := 7) (N := some 38) (v := ?_) (a' := ?_) #[true, true, true, false, true, true, true, true, false, false, false, false, false, false, false, false, false, false, false, false, false, false, false, false, false, false, false, false, false, false, false, false, false, false] rfl rfl (any_of HT_.out (by kernel_rfl)) (fun _ _ _ h => h) (Or.inl ⟨by rfl, ?_⟩) ?_ ?_
                            rotate_left
                            ·
                             intro w'
                             go_simp
                             with_reducible rfl
                            rotate_left
                            ·
                             simp only [Act.put, List.setIfInBounds_toArray, List.set_cons_zero, List.set_cons_succ, i64_w, i32_w]
                             rfl
                            refine pure_ (i := 8) (N := some 39) (v := ?_) (a' := ?_) #[true, true, true, false, true, true, true, true, true, false, false, false, false, false, false, false, false, false, false, false, false, false, false, false, false, false, false, false, false, false, false, false, false, false] rfl rfl (any_of HT_.out (by kernel_rfl)) (fun _ _ _ h => h) (Or.inl ⟨by rfl, ?_⟩) ?_ ?_
                            rotate_left
                            ·
                             intro w'
                             go_simp
                             with_reducible rfl
                            rotate_left
                            ·
                             simp only [Act.put, List.setIfInBounds_toArray, List.set_cons_zero, List.set_cons_succ, i64_w, i32_w]
                             rfl
                            refine pure_ (i := 10) (N := some 41) (v := ?_) (a' := ?_) #[true, true, true, false, true, true, true, true, true, false, true, false, false, false, false, false, false, false, false, false, false, false, false, false, false, false, false, false, false, false, false, false, false, false] rfl rfl (any_of HT_.out (by kernel_rfl)) (fun _ _ _ h => h) (Or.inl ⟨by rfl, ?_⟩) ?_ ?_
                            rotate_left
                            ·
                             intro w'
                             go_simp
                             with_reducible rfl
                            rotate_left
                            ·
                             simp only [Act.put, List.setIfInBounds_toArray, List.set_cons_zero, List.set_cons_succ, i64_w, i32_w]
                             rfl
                            refine pure_ (i := 11) (N := some 42) (v := ?_) (a' := ?_) #[true, true, true, false, true, true, true, true, true, false, true, true, false, false, false, false, false, false, false, false, false, false, false, false, false, false, false, false, false, false, false, false, false, false] rfl rfl (any_of HT_.out (by kernel_rfl)) (fun _ _ _ h => h) (Or.inl ⟨by rfl, ?_⟩) ?_ ?_
                            rotate_left
                            ·
                             intro w'
                             go_simp
                             with_reducible rfl
                            rotate_left
                            ·
                             simp only [Act.put, List.setIfInBounds_toArray, List.set_cons_zero, List.set_cons_succ, i64_w, i32_w]
                             rfl
                            refine pure_ (i := 14) (N := some 45) (v := ?_) (a' := ?_) #[true, true, true, false, true, true, true, true, true, false, true, true, false, false, true, false, false, false, false, false, false, false, false, false, false, false, false, false, false, false, false, false, false, false] rfl rfl (any_of HT_.out (by kernel_rfl)) (fun _ _ _ h => h) (Or.inl ⟨by rfl, ?_⟩) ?_ ?_
                            rotate_left
                            ·
                             intro w'
                             go_simp
                             with_reducible rfl
                            rotate_left
                            ·
                             simp only [Act.put, List.setIfInBounds_toArray, List.set_cons_zero, List.set_cons_succ, i64_w, i32_w]
                             rfl
                            refine pure_ (i := 15) (N := some 46) (v := ?_) (a' := ?_) #[true, true, true, false, true, true, true, true, true, false, true, true, false, false, true, true, false, false, false, false, false, false, false, false, false, false, false, false, false, false, false, false, false, false] rfl rfl (any_of HT_.out (by kernel_rfl)) (fun _ _ _ h => h) (Or.inl ⟨by rfl, ?_⟩) ?_ ?_
                            rotate_left
                            ·
                             intro w'
                             go_simp
                             with_reducible rfl
                            rotate_left
                            ·
                             simp only [Act.put, List.setIfInBounds_toArray, List.set_cons_zero, List.set_cons_succ, i64_w, i32_w]
                             rfl
                            refine pure_ (i := 16) (N := some 47) (v := ?_) (a' := ?_) #[true, true, true, false, true, true, true, true, true, false, true, true, false, false, true, true, true, false, false, false, false, false, false, false, false, false, false, false, false, false, false, false, false, false] rfl rfl (any_of HT_.out (by kernel_rfl)) (fun _ _ _ h => h) (Or.inl ⟨by rfl, ?_⟩) ?_ ?_
                            rotate_left
                            ·
                             intro w'
                             go_simp
                             with_reducible rfl
                            rotate_left
                            ·
                             simp only [Act.put, List.setIfInBounds_toArray, List.set_cons_zero, List.set_cons_succ, i64_w, i32_w]
                             rfl
                            refine pure_ (i := 17) (N := some 48) (v := ?_) (a' := ?_) #[true, true, true, false, true, true, true, true, true, false, true, true, false, false, true, true, true, true, false, false, false, false, false, false, false, false, false, false, false, false, false, false, false, false] rfl rfl (any_of HT_.out (by kernel_rfl)) (fun _ _ _ h => h) (Or.inl ⟨by rfl, ?_⟩) ?_ ?_
                            rotate_left
                            ·
                             intro w'
                             go_simp
                             with_reducible rfl
                            rotate_left
                            ·
                             simp only [Act.put, List.setIfInBounds_toArray, List.set_cons_zero, List.set_cons_succ, i64_w, i32_w]
                             rfl
                            refine pure_ (i := 19) (N := some 50) (v := ?_) (a' := ?_) #[true, true, true, false, true, true, true, true, true, false, true, true, false, false, true, true, true, true, false, true, false, false, false, false, false, false, false, false, false, false, false, false, false, false] rfl rfl (any_of HT_.out (by kernel_rfl)) (fun _ _ _ h => h) (Or.inl ⟨by rfl, ?_⟩) ?_ ?_
                            rotate_left
                            ·
                             intro w'
                             go_simp
                             with_reducible rfl
                            rotate_left
                            ·
                             simp only [Act.put, List.setIfInBounds_toArray, List.set_cons_zero, List.set_cons_succ, i64_w, i32_w]
                             rfl
                            refine pure_ (i := 22) (N := some 53) (v := ?_) (a' := ?_) #[true, true, true, false, true, true, true, true, true, false, true, true, false, false, true, true, true, true, false, true, false, false, true, false, false, false, false, false, false, false, false, false, false, false] rfl rfl (any_of HT_.out (by kernel_rfl)) (fun _ _ _ h => h) (Or.inl ⟨by rfl, ?_⟩) ?_ ?_
                            rotate_left
                            ·
                             intro w'
                             go_simp
                             with_reducible rfl
                            rotate_left
                            ·
                             simp only [Act.put, List.setIfInBounds_toArray, List.set_cons_zero, List.set_cons_succ, i64_w, i32_w]
                             rfl
                            refine pure_ (i := 23) (N := some 54) (v := ?_) (a' := ?_) #[true, true, true, false, true, true, true, true, true, false, true, true, false, false, true, true, true, true, false, true, false, false, true, true, false, false, false, false, false, false, false, false, false, false] rfl rfl (any_of HT_.out (by kernel_rfl)) (fun _ _ _ h => h) (Or.inl ⟨by rfl, ?_⟩) ?_ ?_
                            rotate_left
                            ·
                             intro w'
                             go_simp
                             with_reducible rfl
                            rotate_left
                            ·
                             simp only [Act.put, List.setIfInBounds_toArray, List.set_cons_zero, List.set_cons_succ, i64_w, i32_w]
                             rfl
                            refine pure_ (i := 24) (N := some 55) (v := ?_) (a' := ?_) #[true, true, true, false, true, true, true, true, true, false, true, true, false, false, true, true, true, true, false, true, false, false, true, true, true, false, false, false, false, false, false, false, false, false] rfl rfl (any_of HT_.out (by kernel_rfl)) (fun _ _ _ h => h) (Or.inl ⟨by rfl, ?_⟩) ?_ ?_
                            rotate_left
                            ·
                             intro w'
                             go_simp
                             with_reducible rfl
                            rotate_left
                            ·
                             simp only [Act.put, List.setIfInBounds_toArray, List.set_cons_zero, List.set_cons_succ, i64_w, i32_w]
                             rfl
                            refine pure_ (i := 26) (N := some 57) (v := ?_) (a' := ?_) #[true, true, true, false, true, true, true, true, true, false, true, true, false, false, true, true, true, true, false, true, false, false, true, true, true, false, true, false, false, false, false, false, false, false] rfl rfl (any_of HT_.out (by kernel_rfl)) (fun _ _ _ h => h) (Or.inl ⟨by rfl, ?_⟩) ?_ ?_
                            rotate_left
                            ·
                             intro w'
                             go_simp
                             with_reducible rfl
                            rotate_left
                            ·
                             simp only [Act.put, List.setIfInBounds_toArray, List.set_cons_zero, List.set_cons_succ, i64_w, i32_w]
                             rfl
                            refine pure_ (i := 27) (N := some 58) (v := ?_) (a' := ?_) #[true, true, true, false, true, true, true, true, true, false, true, true, false, false, true, true, true, true, false, true, false, false, true, true, true, false, true, true, false, false, false, false, false, false] rfl rfl (any_of HT_.out (by kernel_rfl)) (fun _ _ _ h => h) (Or.inl ⟨by rfl, ?_⟩) ?_ ?_
                            rotate_left
                            ·
                             intro w'
                             go_simp
                             with_reducible rfl
                            rotate_left
                            ·
                             simp only [Act.put, List.setIfInBounds_toArray, List.set_cons_zero, List.set_cons_succ, i64_w, i32_w]
                             rfl
                            refine take_ (i := 3) (N := some 34) (v := ?_) (a' := ?_) #[true, true, true, true, true, true, true, true, true, false, true, true, false, false, true, true, true, true, false, true, false, false, true, true, true, false, true, true, false, false, false, false, false, false] rfl rfl (take_ofW HT_.out HW_.out (by kernel_rfl)) (fun _ _ _ h => h) (Or.inl ⟨by rfl, ?_⟩) hHeld ?_ ?_
                            rotate_left
                            ·
                             rintro w' ⟨s0, s1, s2, s3, s4, s5, s6⟩
                             go_simp
                             with_reducible rfl
                            rotate_left
                            ·
                             simp only [Act.put, List.setIfInBounds_toArray, List.set_cons_zero, List.set_cons_succ, i64_w, i32_w]
                             rfl
                            refine take_ (i := 9) (N := some 40) (v := ?_) (a' := ?_) #[true, true, true, true, true, true, true, true, true, true, true, true, false, false, true, true, true, true, false, true, false, false, true, true, true, false, true, true, false, false, false, false, false, false] rfl rfl (take_ofW HT_.out HW_.out (by kernel_rfl)) (fun _ _ _ h => h) (Or.inl ⟨by rfl, ?_⟩) hHeld ?_ ?_
                            rotate_left
                            ·
                             rintro w' ⟨s0, s1, s2, s3, s4, s5, s6⟩
                             go_simp
                             with_reducible rfl
                            rotate_left
                            ·
                             simp only [Act.put, List.setIfInBounds_toArray, List.set_cons_zero, List.set_cons_succ, i64_w, i32_w]
                             rfl
                            refine pure_ (i := 12) (N := some 43) (v := ?_) (a' := ?_) #[true, true, true, true, true, true, true, true, true, true, true, true, true, false, true, true, true, true, false, true, false, false, true, true, true, false, true, true, false, false, false, false, false, false] rfl rfl (any_of HT_.out (by kernel_rfl)) (fun _ _ _ h => h) (Or.inl ⟨by rfl, ?_⟩) ?_ ?_
                            rotate_left
                            ·
                             intro w'
                             go_simp
                             with_reducible rfl
                            rotate_left
                            ·
                             simp only [Act.put, List.setIfInBounds_toArray, List.set_cons_zero, List.set_cons_succ, i64_w, i32_w]
                             rfl
                            refine take_ (i := 13) (N := some 44) (v := ?_) (a' := ?_) #[true, true, true, true, true, true, true, true, true, true, true, true, true, true, true, true, true, true, false, true, false, false, true, true, true, false, true, true, false, false, false, false, false, false] rfl rfl (take_ofW HT_.out HW_.out (by kernel_rfl)) (fun _ _ _ h => h) (Or.inl ⟨by rfl, ?_⟩) hHeld ?_ ?_
                            rotate_left
                            ·
                             rintro w' ⟨s0, s1, s2, s3, s4, s5, s6⟩
                             go_simp
                             with_reducible rfl
                            rotate_left
                            ·
                             simp only [Act.put, List.setIfInBounds_toArray, List.set_cons_zero, List.set_cons_succ, i64_w, i32_w]
                             rfl
                            refine take_ (i := 18) (N := some 49) (v := ?_) (a' := ?_) #[true, true, true, true, true, true, true, true, true, true, true, true, true, true, true, true, true, true, true, true, false, false, true, true, true, false, true, true, false, false, false, false, false, false] rfl rfl (take_ofW HT_.out HW_.out (by kernel_rfl)) (fun _ _ _ h => h) (Or.inl ⟨by rfl, ?_⟩) hHeld ?_ ?_
                            rotate_left
                            ·
                             rintro w' ⟨s0, s1, s2, s3, s4, s5, s6⟩
                             go_simp
                             with_reducible rfl
                            rotate_left
                            ·
                             simp only [Act.put, List.setIfInBounds_toArray, List.set_cons_zero, List.set_cons_succ, i64_w, i32_w]
                             rfl
                            refine pure_ (i := 20) (N := some 51) (v := ?_) (a' := ?_) #[true, true, true, true, true, true, true, true, true, true, true, true, true, true, true, true, true, true, true, true, true, false, true, true, true, false, true, true, false, false, false, false, false, false] rfl rfl (any_of HT_.out (by kernel_rfl)) (fun _ _ _ h => h) (Or.inl ⟨by rfl, ?_⟩) ?_ ?_
                            rotate_left
                            ·
                             intro w'
                             go_simp
                             with_reducible rfl
                            rotate_left
                            ·
                             simp only [Act.put, List.setIfInBounds_toArray, List.set_cons_zero, List.set_cons_succ, i64_w, i32_w]
                             rfl
                            refine take_ (i := 21) (N := some 52) (v := ?_) (a' := ?_) #[true, true, true, true, true, true, true, true, true, true, true, true, true, true, true, true, true, true, true, true, true, true, true, true, true, false, true, true, false, false, false, false, false, false] rfl rfl (take_ofW HT_.out HW_.out (by kernel_rfl)) (fun _ _ _ h => h) (Or.inl ⟨by rfl, ?_⟩) hHeld ?_ ?_
                            rotate_left
                            ·
                             rintro w' ⟨s0, s1, s2, s3, s4, s5, s6⟩
                             go_simp
                             with_reducible rfl
                            rotate_left
                            ·
                             simp only [Act.put, List.setIfInBounds_toArray, List.set_cons_zero, List.set_cons_succ, i64_w, i32_w]
                             rfl
                            refine take_ (i := 25) (N := some 56) (v := ?_) (a' := ?_) #[true, true, true, true, true, true, true, true, true, true, true, true, true, true, true, true, true, true, true, true, true, true, true, true, true, true, true, true, false, false, false, false, false, false] rfl rfl (take_ofW HT_.out HW_.out (by kernel_rfl)) (fun _ _ _ h => h) (Or.inl ⟨by rfl, ?_⟩) hHeld ?_ ?_
                            rotate_left
                            ·
                             rintro w' ⟨s0, s1, s2, s3, s4, s5, s6⟩
                             go_simp
                             with_reducible rfl
                            rotate_left
                            ·
                             simp only [Act.put, List.setIfInBounds_toArray, List.set_cons_zero, List.set_cons_succ, i64_w, i32_w]
                             rfl
                            refine pure_ (i := 28) (N := some 59) (v := ?_) (a' := ?_) #[true, true, true, true, true, true, true, true, true, true, true, true, true, true, true, true, true, true, true, true, true, true, true, true, true, true, true, true, true, false, false, false, false, false] rfl rfl (any_of HT_.out (by kernel_rfl)) (fun _ _ _ h => h) (Or.inl ⟨by rfl, ?_⟩) ?_ ?_
                            rotate_left
                            ·
                             intro w'
                             go_simp
                             with_reducible rfl
                            rotate_left
                            ·
                             simp only [Act.put, List.setIfInBounds_toArray, List.set_cons_zero, List.set_cons_succ, i64_w, i32_w]
                             rfl
                            refine take_ (i := 29) (N := some 60) (v := ?_) (a' := ?_) #[true, true, true, true, true, true, true, true, true, true, true, true, true, true, true, true, true, true, true, true, true, true, true, true, true, true, true, true, true, true, false, false, false, false] rfl rfl (take_ofW HT_.out HW_.out (by kernel_rfl)) (fun _ _ _ h => h) (Or.inl ⟨by rfl, ?_⟩) hHeld ?_ ?_
                            rotate_left
                            ·
                             rintro w' ⟨s0, s1, s2, s3, s4, s5, s6⟩
                             go_simp
                             with_reducible rfl
                            rotate_left
                            ·
                             simp only [Act.put, List.setIfInBounds_toArray, List.set_cons_zero, List.set_cons_succ, i64_w, i32_w]
                             rfl
                            refine pure_ (i := 30) (N := some 61) (v := ?_) (a' := ?_) #[true, true, true, true, true, true, true, true, true, true, true, true, true, true, true, true, true, true, true, true, true, true, true, true, true, true, true, true, true, true, true, false, false, false] rfl rfl (any_of HT_.out (by kernel_rfl)) (fun _ _ _ h => h) (Or.inl ⟨by rfl, ?_⟩) ?_ ?_
                            rotate_left
                            ·
                             intro w'
                             go_simp
                             with_reducible rfl
                            rotate_left
                            ·
                             simp only [Act.put, List.setIfInBounds_toArray, List.set_cons_zero, List.set_cons_succ, i64_w, i32_w]
                             rfl
                            refine pure_ (i := 31) (N := some 62) (v := ?_) (a' := ?_) #[true, true, true, true, true, true, true, true, true, true, true, true, true, true, true, true, true, true, true, true, true, true, true, true, true, true, true, true, true, true, true, true, false, false] rfl rfl (any_of HT_.out (by kernel_rfl)) (fun _ _ _ h => h) (Or.inl ⟨by rfl, ?_⟩) ?_ ?_
                            rotate_left
                            ·
                             intro w'
                             go_simp
                             with_reducible rfl
                            rotate_left
                            ·
                             simp only [Act.put, List.setIfInBounds_toArray, List.set_cons_zero, List.set_cons_succ, i64_w, i32_w]
                             rfl
                            refine pure_ (i := 32) (N := some 63) (v := ?_) (a' := ?_) #[true, true, true, true, true, true, true, true, true, true, true, true, true, true, true, true, true, true, true, true, true, true, true, true, true, true, true, true, true, true, true, true, true, false] rfl rfl (any_of HT_.out (by kernel_rfl)) (fun _ _ _ h => h) (Or.inl ⟨by rfl, ?_⟩) ?_ ?_
                            rotate_left
                            ·
                             intro w'
                             go_simp
                             with_reducible rfl
                            rotate_left
                            ·
                             simp only [Act.put, List.setIfInBounds_toArray, List.set_cons_zero, List.set_cons_succ, i64_w, i32_w]
                             rfl
                            refine last_ (i := 33) (N := none) #[true, true, true, true, true, true, true, true, true, true, true, true, true, true, true, true, true, true, true, true, true, true, true, true, true, true, true, true, true, true, true, true, true, true] rfl rfl (one_of HT_.out (by kernel_rfl)) (by decide) (fun K hK => ?_)
                            refine skip_ (w1 := ?_) (by rfl) rfl ?_ ?_
                            rotate_left
                            ·
                             go_simp
                             rfl
                            refine hK.out _ _ ?_
                            clear hK K
                            refine done_ (done_of HT_.out (by kernel_rfl)) ?_
                            try go_wp2
                            (try simp only [← hl5_2])
                            go_roundg k2
                            case measure => have := HK1.out; have := HK2.out; omega
                            case rel => exact ⟨(y131), (wrap64 (x7_2 - 1)), (by first | rfl | (simp; done) | (simp [*]; done)), H', ⟨by have := HK1.out; have := HK2.out; omega⟩, ⟨by (try simp only [hl5_2]); (with_reducible repeat (first | apply Kd.S_alloc | apply Kd.S_drewN | apply Kd.S_drew)); exact HQ71.out⟩, ⟨by repeat (first | (with_reducible first | exact HB.out | apply below_alloc | apply pw_below_drewN | apply below_drew1 | refine below_set ?_ GB68.out) | exact HB.out)⟩⟩
                           ·
                            rw [if_neg c67] at H
                            exact absurd H (by simp)
                          ·
                           rw [if_neg c64] at H
                           exact absurd H (by simp)
                         ·
                          rw [if_neg c63] at H
                          exact absurd H (by simp)
                        ·
                         rw [if_neg c62] at H
                         exact absurd H (by simp)
                       ·
                        rw [if_neg c61] at H
                        exact absurd H (by simp)
                      ·
                       rw [if_neg c59] at H
                       exact absurd H (by simp)
                     ·
                      rw [if_neg c58] at H
                      exact absurd H (by simp)
                    ·
                     rw [if_neg c56] at H
                     exact absurd H (by simp)
                  ·
                   rw [if_neg c40] at H
                   exact absurd H (by simp)
                 ·
                  rw [if_neg c39] at H
                  exact absurd H (by simp)
                ·
                 rw [if_neg c37] at H
                 exact absurd H (by simp)
               ·
                rw [if_neg c36] at H
                exact absurd H (by simp)
            ·
             rw [if_neg c19] at H
             have c19b0 : decide (0 ≤ x7_2) = false := decide_eq_false c19
             clear c19
             have H' := Aside0.mk H
             clear H
             go_wp2
             (try simp only [← hl5_2])
             go_roundg k2
             case measure => have := HK1.out; have := HK2.out; omega
             case rel => exact ⟨(x5_2), (wrap64 (x6_1 - 1)), (by first | rfl | (simp; done) | (simp [*]; done)), H', ⟨by have := HK1.out; have := HK2.out; omega⟩, ⟨by (try simp only [hl5_2]); (with_reducible repeat (first | apply Kd.S_alloc | apply Kd.S_drewN | apply Kd.S_drew)); exact HO_5.out⟩, ⟨by repeat (first | (with_reducible first | exact HB.out | apply below_alloc | apply pw_below_drewN | apply below_drew1) | exact HB.out)⟩⟩
         ·
          rw [if_neg c13] at H
          exact absurd H (by simp)
        ·
         rw [if_neg c12] at H
         exact absurd H (by simp)
       ·
        rw [if_neg c11] at H
        exact absurd H (by simp)
      ·
       rw [if_neg c10] at H
       exact absurd H (by simp)
     ·
      rw [if_neg c8] at H
      have c8b0 : decide (0 ≤ x6_1) = false := decide_eq_false c8
      clear c8
      obtain rfl := Option.some.inj H
      go_wp2
      go_ret
      exact ⟨_, by first | rfl | (simp [errW_none, errW_some] <;> rfl) | (simp only [← hji3]; first | rfl | (simp [errW_none, errW_some] <;> rfl)) | (simp [*, errW_none, errW_some] <;> rfl), by (with_reducible repeat (first | apply Kd.S_alloc | apply Kd.S_drewN | apply Kd.S_drew)); exact HO_5.out, by repeat (first | (with_reducible first | exact HB.out | apply below_alloc | apply pw_below_drewN | apply below_drew1) | exact HB.out)⟩
  ·
   rw [if_neg c5] at H
   exact absurd H (by simp)
 ·
  rw [if_neg c4] at H
  exact absurd H (by simp)

end Go.Proofs.YtamhlbdjjfdbiaaDoor.P

namespace Go.Proofs.YtamhlbdjjfdbiaaDoor
open Go.RowKit Go.Proofs.YtamhlbdjjfdbiaaDoor.P Go.Proofs.YtamhlbdjjfdbiaaDoorW.PrintWords Go.Proofs.YtamhlbdjjfdbiaaDoorW.PrintMore
set_option linter.unusedSimpArgs false
set_option linter.unusedVariables false
/-! The tables of distances: both sides fill them with the distances of the texts' ends. -/
def cellT (T : List (List Int)) (r c : Nat) : Int := rd (rd_L1 T (r : Int)) (c : Int)
def lenT (T : List (List Int)) (r : Nat) : Nat := (rd_L1 T (r : Int)).length
theorem cellT_eq (T : List (List Int)) (r c : Nat) : rd (rd_L1 T (r : Int)) (c : Int) = cellT T r c := rfl
theorem lenT_set (T : List (List Int)) (i : Nat) (l : List Int) (hi : i < T.length) (r : Nat) : lenT (T.set i l) r = if r = i then l.length else lenT T r := by
  unfold lenT rd_L1
  rw [Int.toNat_natCast, List.getD_eq_getElem?_getD, List.getD_eq_getElem?_getD, List.getElem?_set]
  by_cases c : i = r
  · subst c; rw [if_pos rfl, if_pos rfl, if_pos hi]; rfl
  · rw [if_neg c, if_neg (fun h => c h.symm)]
theorem cellT_set (T : List (List Int)) (i : Nat) (l : List Int) (hi : i < T.length) (r c : Nat) : cellT (T.set i l) r c = if r = i then l.getD c 0 else cellT T r c := by
  unfold cellT rd_L1 rd
  rw [Int.toNat_natCast, Int.toNat_natCast, List.getD_eq_getElem?_getD (l := T.set i l), List.getD_eq_getElem?_getD (l := T), List.getElem?_set]
  by_cases h : i = r
  · subst h; rw [if_pos rfl, if_pos rfl, if_pos hi]; rfl
  · rw [if_neg h, if_neg (fun h2 => h h2.symm)]
theorem getD_set_ (l : List Int) (k : Nat) (v : Int) (hk : k < l.length) (c : Nat) : (l.set k v).getD c 0 = if c = k then v else l.getD c 0 := by
  rw [List.getD_eq_getElem?_getD, List.getD_eq_getElem?_getD, List.getElem?_set]
  by_cases h : k = c
  · subst h; rw [if_pos rfl, if_pos rfl, if_pos hk]; rfl
  · rw [if_neg h, if_neg (fun h2 => h h2.symm)]
theorem rdc (T : List (List Int)) (r c : Nat) : (rd_L1 T (r : Int)).getD c 0 = cellT T r c := by
  unfold cellT rd; rw [Int.toNat_natCast]
section
variable {a b : List UInt8}
def Lv (a b : List UInt8) (i k : Nat) : Int := (lev (a.drop i) (b.drop k) : Nat)
theorem Lv_n (k : Nat) (hk : k ≤ b.length) : Lv a b a.length k = (b.length : Int) - k := by
  unfold Lv; rw [List.drop_length, lev_nil, List.length_drop]; omega
theorem Lv_m (i : Nat) (hi : i ≤ a.length) : Lv a b i b.length = (a.length : Int) - i := by
  unfold Lv; rw [List.drop_length, lev_nil', List.length_drop]; omega
theorem Lv_step (i k : Nat) (hi : i < a.length) (hk : k < b.length) : Lv a b i k = if a[i] = b[k] then Lv a b (i + 1) (k + 1) else 1 + min (min (Lv a b (i + 1) (k + 1)) (Lv a b (i + 1) k)) (Lv a b i (k + 1)) := by
  unfold Lv
  rw [List.drop_eq_getElem_cons hi, List.drop_eq_getElem_cons hk, lev_cons]
  split <;> omega
theorem Lv_least (i k : Nat) (hi : i < a.length) (hk : k < b.length) : Lv a b i k = min (min (Lv a b (i + 1) k) (Lv a b i (k + 1)) + 1) (Lv a b (i + 1) (k + 1) + if a[i] = b[k] then 0 else 1) := by
  unfold Lv
  rw [List.drop_eq_getElem_cons hi, List.drop_eq_getElem_cons hk, lev_least]
  split <;> omega
theorem Lv_nn (i k : Nat) : 0 ≤ Lv a b i k := by unfold Lv; omega
theorem Lv_le (i k : Nat) (ha : a.length ≤ 20) (hb : b.length ≤ 20) : Lv a b i k ≤ 40 := by
  unfold Lv
  have := lev_le (a.drop i) (b.drop k)
  rw [List.length_drop, List.length_drop] at this
  omega
def DoneT (a b : List UInt8) (T : List (List Int)) (j : Nat) : Prop := T.length = a.length + 1 ∧ ∀ r, j ≤ r → r ≤ a.length → lenT T r = b.length + 1 ∧ ∀ c, c ≤ b.length → cellT T r c = Lv a b r c
def InvT (a b : List UInt8) (T : List (List Int)) (i : Nat) (k : Int) : Prop := DoneT a b T (i + 1) ∧ lenT T i = b.length + 1 ∧ ∀ c : Nat, k < c → c ≤ b.length → cellT T i c = Lv a b i c
theorem dummy_ : True := trivial
theorem InvT.done {T : List (List Int)} {i : Nat} {k : Int} (h : InvT a b T i k) (hk : k < 0) : DoneT a b T i := by
  refine ⟨h.1.1, fun r h1 h2 => ?_⟩
  rcases Nat.lt_or_ge i r with c | c
  · exact h.1.2 r c h2
  · obtain rfl : r = i := by omega
    exact ⟨h.2.1, fun c hc => h.2.2 c (by omega) hc⟩
theorem InvT.put {T : List (List Int)} {i k : Nat} (h : InvT a b T i (k : Int)) (hi : i ≤ a.length) (hk : k ≤ b.length) : InvT a b (T.set i ((rd_L1 T (i : Int)).set k (Lv a b i k))) i ((k : Int) - 1) := by
  have hT : i < T.length := by rw [h.1.1]; omega
  have hl : k < (rd_L1 T (i : Int)).length := by have := h.2.1; unfold lenT at this; omega
  refine ⟨⟨by rw [List.length_set]; exact h.1.1, fun r h1 h2 => ⟨?_, fun c hc => ?_⟩⟩, ?_, fun c h1 h2 => ?_⟩
  · rw [lenT_set _ _ _ hT, if_neg (by omega)]; exact (h.1.2 r h1 h2).1
  · rw [cellT_set _ _ _ hT, if_neg (by omega)]; exact (h.1.2 r h1 h2).2 c hc
  · rw [lenT_set _ _ _ hT, if_pos rfl, List.length_set]; exact h.2.1
  · rw [cellT_set _ _ _ hT, if_pos rfl, getD_set_ _ _ _ hl]
    by_cases e : c = k
    · subst e; rw [if_pos rfl]
    · rw [if_neg e, rdc]; exact h.2.2 c (by omega) h2
theorem all_set {T : List (List Int)} {i k : Nat} {v : Int} {n m : Nat} (hT : i < T.length) (h : ∀ r, r ≤ n → lenT T r = m + 1) : ∀ r, r ≤ n → lenT (T.set i ((rd_L1 T (i : Int)).set k v)) r = m + 1 := by
  intro r hr
  rw [lenT_set _ _ _ hT]
  split
  · rename_i e; subst e; rw [List.length_set]; exact h r hr
  · exact h r hr
end
theorem lenT_rep (n : Nat) (l : List Int) (r : Nat) (hr : r < n) : lenT (List.replicate n l) r = l.length := by
  unfold lenT rd_L1
  rw [Int.toNat_natCast, List.getD_eq_getElem?_getD, List.getElem?_replicate, if_pos hr]
  rfl
theorem least_eq (x y : Int) : spec_l1Least.f x y = some (min x y) := by
  unfold spec_l1Least.f; split <;> congr 1 <;> omega
theorem mn_eq_ (x y : Int) : mn x y = min x y := by unfold mn; split <;> omega
attribute [irreducible] Lv
attribute [local irreducible] rd_L1 rd
section
variable (s t : ByteArray) (hs : (bl s).length ≤ 20) (ht : (bl t).length ≤ 20)
include hs ht
theorem bkTable_l2 (i : Nat) (hi : i ≤ (bl s).length) : ∀ (d : Nat) (T : List (List Int)), d ≤ (bl t).length + 1 → InvT (bl s) (bl t) T i ((d : Int) - 1) → (∀ r, r ≤ (bl s).length → lenT T r = (bl t).length + 1) →
    ∃ T', InvT (bl s) (bl t) T' i (-1) ∧ (∀ r, r ≤ (bl s).length → lenT T' r = (bl t).length + 1) ∧ ∀ R, Ev (fun k => spec_bkTable.l1 k s t T' ((i : Int) - 1)) R → Ev (fun k => spec_bkTable.l2 k s t T i ((d : Int) - 1)) R
  | 0, T, hd, h, ha => ⟨T, by simpa using h, ha, fun R hR => by
    apply Ev.succ
    simp only [spec_bkTable.l2]
    refine Ev.neg (by omega) ?_
    rw [wrap_id (by omega) (by omega)]
    exact hR⟩
  | d + 1, T, hd, h, ha => by
    rw [show (((d + 1 : Nat) : Int) - 1) = (d : Int) by omega] at h ⊢
    have hT : i < T.length := by rw [h.1.1]; omega
    obtain ⟨T', h1, h2, h3⟩ := bkTable_l2 i hi d _ (by omega) (h.put hi (by omega)) (all_set hT ha)
    refine ⟨T', h1, h2, fun R hR => ?_⟩
    have go := h3 R hR
    have hli : ((rd_L1 T (i : Int)).length : Int) = ((bl t).length : Int) + 1 := by have := ha i hi; unfold lenT at this; omega
    have hlT : (T.length : Int) = ((bl s).length : Int) + 1 := by rw [h.1.1]; omega
    have es : (s.size : Int) = ((bl s).length : Int) := rfl
    have et : (t.size : Int) = ((bl t).length : Int) := rfl
    have ew : wrap64 ((d : Int) - 1) = (d : Int) - 1 := wrap_id (by omega) (by omega)
    apply Ev.succ
    simp only [spec_bkTable.l2]
    refine Ev.pos (by omega) ?_
    by_cases c1 : i = (bl s).length
    · refine Ev.pos (by omega) (Ev.pos (by omega) (Ev.pos (by omega) (Ev.pos (by omega) (Ev.pos (by omega) ?_))))
      have ev : wrap64 ((t.size : Int) - d) = Lv (bl s) (bl t) i d := by rw [wrap_id (by omega) (by omega), c1, Lv_n d (by omega)]; omega
      rw [ev, Int.toNat_natCast, Int.toNat_natCast, ew]
      exact go
    refine Ev.neg (by omega) ?_
    by_cases c2 : d = (bl t).length
    · refine Ev.pos (by omega) (Ev.pos (by omega) (Ev.pos (by omega) (Ev.pos (by omega) (Ev.pos (by omega) ?_))))
      have ev : wrap64 ((s.size : Int) - i) = Lv (bl s) (bl t) i d := by rw [wrap_id (by omega) (by omega), c2, Lv_m i (by omega)]; omega
      rw [ev, Int.toNat_natCast, Int.toNat_natCast, ew]
      exact go
    refine Ev.neg (by omega) ?_
    have hi' : i < (bl s).length := by omega
    have hd' : d < (bl t).length := by omega
    have e1 : wrap64 ((i : Int) + 1) = ((i + 1 : Nat) : Int) := by rw [wrap_id (by omega) (by omega)]; omega
    have e2 : wrap64 ((d : Int) + 1) = ((d + 1 : Nat) : Int) := by rw [wrap_id (by omega) (by omega)]; omega
    have hlj : ((rd_L1 T ((i + 1 : Nat) : Int)).length : Int) = ((bl t).length : Int) + 1 := by have h_ := ha (i + 1) hi'; unfold lenT at h_; rw [h_]; clear h_; omega
    have v1 : rd (rd_L1 T ((i + 1 : Nat) : Int)) (d : Int) = Lv (bl s) (bl t) (i + 1) d := (cellT_eq T (i + 1) d).trans ((h.1.2 (i + 1) (Nat.le_refl _) hi').2 d (Nat.le_of_lt hd'))
    have v2 : rd (rd_L1 T ((i + 1 : Nat) : Int)) ((d + 1 : Nat) : Int) = Lv (bl s) (bl t) (i + 1) (d + 1) := (cellT_eq T (i + 1) (d + 1)).trans ((h.1.2 (i + 1) (Nat.le_refl _) hi').2 (d + 1) hd')
    have v3 : rd (rd_L1 T (i : Int)) ((d + 1 : Nat) : Int) = Lv (bl s) (bl t) i (d + 1) := (cellT_eq T i (d + 1)).trans (h.2.2 (d + 1) (Int.ofNat_lt.2 (Nat.lt_succ_self d)) hd')
    simp only [e1, e2, v1, v2, v3, hli, hlj, hlT]
    clear v1 v2 v3 hli hlj hlT
    have ll := Lv_least (a := bl s) (b := bl t) i d hi' hd'
    have b1 := Lv_nn (a := bl s) (b := bl t) (i + 1) d
    have b2 := Lv_nn (a := bl s) (b := bl t) (i + 1) (d + 1)
    have b3 := Lv_nn (a := bl s) (b := bl t) i (d + 1)
    have g1 := Lv_le (i + 1) d hs ht
    have g2 := Lv_le (i + 1) (d + 1) hs ht
    have g3 := Lv_le i (d + 1) hs ht
    generalize Lv (bl s) (bl t) (i + 1) d = q1 at *
    generalize Lv (bl s) (bl t) (i + 1) (d + 1) = q2 at *
    generalize Lv (bl s) (bl t) i (d + 1) = q3 at *
    refine Ev.pos (by omega) (Ev.pos (by omega) (Ev.pos (by omega) (Ev.pos (by omega) (Ev.pos (by omega) (Ev.pos (by omega) (Ev.pos (by omega) (Ev.pos (by omega) (Ev.bindc (least_eq _ _) (Ev.pos (by omega) (Ev.pos (by omega) ?_))))))))))
    rw [bt_nat s i hi', bt_nat t d hd']
    by_cases ce : (bl s)[i] = (bl t)[d]
    · rw [if_pos ce] at ll
      refine Ev.pos ((byte_eq _ _).2 ce) (Ev.pos (by omega) (Ev.bindc (least_eq _ _) (Ev.pos (by omega) ?_)))
      have ev : min (wrap64 (min q1 q3 + 1)) (wrap64 (q2 + 0)) = Lv (bl s) (bl t) i d := by
        rw [wrap_id (by omega) (by omega), wrap_id (by omega) (by omega), ll]
      rw [ev, Int.toNat_natCast, Int.toNat_natCast, ew]
      exact go
    · rw [if_neg ce] at ll
      refine Ev.neg (fun x => ce ((byte_eq _ _).1 x)) (Ev.pos (by omega) (Ev.bindc (least_eq _ _) (Ev.pos (by omega) ?_)))
      have ev : min (wrap64 (min q1 q3 + 1)) (wrap64 (q2 + 1)) = Lv (bl s) (bl t) i d := by
        rw [wrap_id (by omega) (by omega), wrap_id (by omega) (by omega), ll]
      rw [ev, Int.toNat_natCast, Int.toNat_natCast, ew]
      exact go
theorem bkTable_l1 : ∀ (j : Nat) (T : List (List Int)), j ≤ (bl s).length + 1 → DoneT (bl s) (bl t) T j → (∀ r, r ≤ (bl s).length → lenT T r = (bl t).length + 1) → ∃ T', DoneT (bl s) (bl t) T' 0 ∧ Ev (fun k => spec_bkTable.l1 k s t T ((j : Int) - 1)) T'
  | 0, T, hj, h, ha => ⟨T, h, by
    apply Ev.succ
    simp only [spec_bkTable.l1]
    exact Ev.neg (by omega) (Ev.now _)⟩
  | j + 1, T, hj, h, ha => by
    have hlT : (T.length : Int) = ((bl s).length : Int) + 1 := by rw [h.1]; omega
    obtain ⟨T1, h1, h2, h3⟩ := bkTable_l2 s t hs ht j (by omega) ((bl t).length + 1) T (Nat.le_refl _) ⟨h, ha j (by omega), fun c h1 h2 => by omega⟩ ha
    obtain ⟨T', h4, h5⟩ := bkTable_l1 j T1 (by omega) (h1.done (by omega)) h2
    refine ⟨T', h4, ?_⟩
    have go := h3 T' h5
    rw [show ((((bl t).length + 1 : Nat) : Int) - 1) = (t.size : Int) by show _ = ((bl t).length : Int); omega] at go
    rw [show (((j + 1 : Nat) : Int) - 1) = (j : Int) by omega]
    apply Ev.succ
    simp only [spec_bkTable.l1]
    exact Ev.pos (by omega) (Ev.pos (by omega) (Ev.pos (by omega) go))
theorem bkTable_l0 (R : List (List Int)) (hR : Ev (fun k => spec_bkTable.l1 k s t (List.replicate ((bl s).length + 1) (List.replicate ((bl t).length + 1) 0)) (s.size : Int)) R) : ∀ (d i : Nat), i + d = (bl s).length + 1 → Ev (fun k => spec_bkTable.l0 k s t (List.replicate i (List.replicate ((bl t).length + 1) 0)) i) R
  | 0, i, hi => by
    have es : (s.size : Int) = ((bl s).length : Int) := rfl
    apply Ev.succ
    simp only [spec_bkTable.l0]
    refine Ev.neg (by omega) ?_
    rw [show i = (bl s).length + 1 by omega]
    exact hR
  | d + 1, i, hi => by
    have es : (s.size : Int) = ((bl s).length : Int) := rfl
    have et : (t.size : Int) = ((bl t).length : Int) := rfl
    have e1 : wrap64 ((t.size : Int) + 1) = (((bl t).length + 1 : Nat) : Int) := by rw [wrap_id (by omega) (by omega)]; omega
    have e2 : wrap64 ((i : Int) + 1) = ((i + 1 : Nat) : Int) := by rw [wrap_id (by omega) (by omega)]; omega
    apply Ev.succ
    simp only [spec_bkTable.l0, e1, e2, Int.toNat_natCast, List.length_replicate]
    refine Ev.pos (by omega) (Ev.pos (by omega) (Ev.pos (by omega) (Ev.pos (by omega) ?_)))
    rw [← List.replicate_succ']
    exact bkTable_l0 R hR d (i + 1) (by omega)
theorem bkTable_ev : ∃ T, DoneT (bl s) (bl t) T 0 ∧ Ev (fun k => spec_bkTable.f k s t) T := by
  have hl : ∀ r, r ≤ (bl s).length → lenT (List.replicate ((bl s).length + 1) (List.replicate ((bl t).length + 1) (0 : Int))) r = (bl t).length + 1 := by
    intro r hr
    rw [lenT_rep _ _ r (by omega), List.length_replicate]
  obtain ⟨T, h1, h2⟩ := bkTable_l1 s t hs ht ((bl s).length + 1) (List.replicate ((bl s).length + 1) (List.replicate ((bl t).length + 1) 0)) (Nat.le_refl _) ⟨by simp, fun r h1 h2 => by omega⟩ hl
  refine ⟨T, h1, ?_⟩
  rw [show ((((bl s).length + 1 : Nat) : Int) - 1) = (s.size : Int) by show _ = ((bl s).length : Int); omega] at h2
  exact bkTable_l0 s t hs ht T h2 ((bl s).length + 1) 0 (by omega)
theorem dist_l1 (i : Nat) (hi : i ≤ (bl s).length) : ∀ (d : Nat) (T : List (List Int)), d ≤ (bl t).length + 1 → InvT (bl s) (bl t) T i ((d : Int) - 1) →
    ∃ T', InvT (bl s) (bl t) T' i (-1) ∧ ∀ R, Ev (fun k => impl_distances.l0 k s t T' ((i : Int) - 1)) R → Ev (fun k => impl_distances.l1 k s t T i ((d : Int) - 1)) R
  | 0, T, hd, h => ⟨T, by simpa using h, fun R hR => by
    apply Ev.succ
    simp only [impl_distances.l1]
    refine Ev.neg (by omega) ?_
    rw [wrap_id (by omega) (by omega)]
    exact hR⟩
  | d + 1, T, hd, h => by
    rw [show (((d + 1 : Nat) : Int) - 1) = (d : Int) by omega] at h ⊢
    obtain ⟨T', h1, h3⟩ := dist_l1 i hi d _ (by omega) (h.put hi (by omega))
    refine ⟨T', h1, fun R hR => ?_⟩
    have go := h3 R hR
    have hli : ((rd_L1 T (i : Int)).length : Int) = ((bl t).length : Int) + 1 := by have := h.2.1; unfold lenT at this; omega
    have hlT : (T.length : Int) = ((bl s).length : Int) + 1 := by rw [h.1.1]; omega
    have es : (s.size : Int) = ((bl s).length : Int) := rfl
    have et : (t.size : Int) = ((bl t).length : Int) := rfl
    have ew : wrap64 ((d : Int) - 1) = (d : Int) - 1 := wrap_id (by omega) (by omega)
    apply Ev.succ
    simp only [impl_distances.l1]
    refine Ev.pos (by omega) ?_
    by_cases c1 : i = (bl s).length
    · refine Ev.pos (by omega) (Ev.pos (by omega) (Ev.pos (by omega) (Ev.pos (by omega) (Ev.pos (by omega) ?_))))
      have ev : wrap64 ((t.size : Int) - d) = Lv (bl s) (bl t) i d := by rw [wrap_id (by omega) (by omega), c1, Lv_n d (by omega)]; omega
      rw [ev, Int.toNat_natCast, Int.toNat_natCast, ew]
      exact go
    refine Ev.neg (by omega) ?_
    by_cases c2 : d = (bl t).length
    · refine Ev.pos (by omega) (Ev.pos (by omega) (Ev.pos (by omega) (Ev.pos (by omega) (Ev.pos (by omega) ?_))))
      have ev : wrap64 ((s.size : Int) - i) = Lv (bl s) (bl t) i d := by rw [wrap_id (by omega) (by omega), c2, Lv_m i (by omega)]; omega
      rw [ev, Int.toNat_natCast, Int.toNat_natCast, ew]
      exact go
    refine Ev.neg (by omega) ?_
    have hi' : i < (bl s).length := by omega
    have hd' : d < (bl t).length := by omega
    have e1 : wrap64 ((i : Int) + 1) = ((i + 1 : Nat) : Int) := by rw [wrap_id (by omega) (by omega)]; omega
    have e2 : wrap64 ((d : Int) + 1) = ((d + 1 : Nat) : Int) := by rw [wrap_id (by omega) (by omega)]; omega
    have hlj : ((rd_L1 T ((i + 1 : Nat) : Int)).length : Int) = ((bl t).length : Int) + 1 := by have h_ := (h.1.2 (i + 1) (Nat.le_refl _) hi').1; unfold lenT at h_; rw [h_]; clear h_; omega
    have v1 : rd (rd_L1 T ((i + 1 : Nat) : Int)) (d : Int) = Lv (bl s) (bl t) (i + 1) d := (cellT_eq T (i + 1) d).trans ((h.1.2 (i + 1) (Nat.le_refl _) hi').2 d (Nat.le_of_lt hd'))
    have v2 : rd (rd_L1 T ((i + 1 : Nat) : Int)) ((d + 1 : Nat) : Int) = Lv (bl s) (bl t) (i + 1) (d + 1) := (cellT_eq T (i + 1) (d + 1)).trans ((h.1.2 (i + 1) (Nat.le_refl _) hi').2 (d + 1) hd')
    have v3 : rd (rd_L1 T (i : Int)) ((d + 1 : Nat) : Int) = Lv (bl s) (bl t) i (d + 1) := (cellT_eq T i (d + 1)).trans (h.2.2 (d + 1) (Int.ofNat_lt.2 (Nat.lt_succ_self d)) hd')
    simp only [e1, e2, v1, v2, v3, mn_eq_, hli, hlj, hlT]
    clear v1 v2 v3 hli hlj hlT
    have ll := Lv_step (a := bl s) (b := bl t) i d hi' hd'
    have b1 := Lv_nn (a := bl s) (b := bl t) (i + 1) d
    have b2 := Lv_nn (a := bl s) (b := bl t) (i + 1) (d + 1)
    have b3 := Lv_nn (a := bl s) (b := bl t) i (d + 1)
    have g1 := Lv_le (i + 1) d hs ht
    have g2 := Lv_le (i + 1) (d + 1) hs ht
    have g3 := Lv_le i (d + 1) hs ht
    generalize Lv (bl s) (bl t) (i + 1) d = q1 at *
    generalize Lv (bl s) (bl t) (i + 1) (d + 1) = q2 at *
    generalize Lv (bl s) (bl t) i (d + 1) = q3 at *
    refine Ev.pos (by omega) (Ev.pos (by omega) (Ev.pos (by omega) (Ev.pos (by omega) ?_)))
    rw [bt_nat s i hi', bt_nat t d hd']
    by_cases ce : (bl s)[i] = (bl t)[d]
    · rw [if_pos ce] at ll
      refine Ev.pos ((byte_eq _ _).2 ce) (Ev.pos (by omega) (Ev.pos (by omega) (Ev.pos (by omega) (Ev.pos (by omega) (Ev.pos (by omega) (Ev.pos (by omega) ?_))))))
      rw [← ll, Int.toNat_natCast, Int.toNat_natCast, ew]
      exact go
    · rw [if_neg ce] at ll
      refine Ev.neg (fun x => ce ((byte_eq _ _).1 x)) (Ev.pos (by omega) (Ev.pos (by omega) (Ev.pos (by omega) (Ev.pos (by omega) (Ev.pos (by omega) (Ev.pos (by omega) (Ev.pos (by omega) (Ev.pos (by omega) ?_))))))))
      rw [wrap_id (n := 1 + _) (by omega) (by omega), ← ll, Int.toNat_natCast, Int.toNat_natCast, ew]
      exact go
theorem dist_l0 : ∀ (j : Nat) (T : List (List Int)), j ≤ (bl s).length + 1 → DoneT (bl s) (bl t) T j → ∃ T', DoneT (bl s) (bl t) T' 0 ∧ Ev (fun k => impl_distances.l0 k s t T ((j : Int) - 1)) T'
  | 0, T, hj, h => ⟨T, h, by
    apply Ev.succ
    simp only [impl_distances.l0]
    exact Ev.neg (by omega) (Ev.now _)⟩
  | j + 1, T, hj, h => by
    have hT : j < T.length := by rw [h.1]; omega
    have hlT : (T.length : Int) = ((bl s).length : Int) + 1 := by rw [h.1]; omega
    have et : (t.size : Int) = ((bl t).length : Int) := rfl
    have e1 : wrap64 ((t.size : Int) + 1) = (((bl t).length + 1 : Nat) : Int) := by rw [wrap_id (by omega) (by omega)]; omega
    have hI : InvT (bl s) (bl t) (T.set j (List.replicate ((bl t).length + 1) 0)) j ((((bl t).length + 1 : Nat) : Int) - 1) := by
      refine ⟨⟨by rw [List.length_set]; exact h.1, fun r h1 h2 => ⟨?_, fun c hc => ?_⟩⟩, ?_, fun c h1 h2 => by omega⟩
      · rw [lenT_set _ _ _ hT, if_neg (by omega)]; exact (h.2 r h1 h2).1
      · rw [cellT_set _ _ _ hT, if_neg (by omega)]; exact (h.2 r h1 h2).2 c hc
      · rw [lenT_set _ _ _ hT, if_pos rfl, List.length_replicate]
    obtain ⟨T1, h1, h3⟩ := dist_l1 s t hs ht j (by omega) ((bl t).length + 1) _ (Nat.le_refl _) hI
    obtain ⟨T', h4, h5⟩ := dist_l0 j T1 (by omega) (h1.done (by omega))
    refine ⟨T', h4, ?_⟩
    have go := h3 T' h5
    rw [show ((((bl t).length + 1 : Nat) : Int) - 1) = (t.size : Int) by show _ = ((bl t).length : Int); omega] at go
    rw [show (((j + 1 : Nat) : Int) - 1) = (j : Int) by omega]
    apply Ev.succ
    simp only [impl_distances.l0, e1, Int.toNat_natCast]
    exact Ev.pos (by omega) (Ev.pos (by omega) (Ev.pos (by omega) (Ev.pos (by omega) (Ev.pos (by omega) go))))
theorem dist_ev : ∃ T, DoneT (bl s) (bl t) T 0 ∧ Ev (fun k => impl_distances.f k s t) T := by
  have es : (s.size : Int) = ((bl s).length : Int) := rfl
  have e1 : wrap64 ((s.size : Int) + 1) = (((bl s).length + 1 : Nat) : Int) := by rw [wrap_id (by omega) (by omega)]; omega
  obtain ⟨T, h1, h2⟩ := dist_l0 s t hs ht ((bl s).length + 1) (List.replicate ((bl s).length + 1) []) (Nat.le_refl _) ⟨by simp, fun r h1 h2 => by omega⟩
  refine ⟨T, h1, ?_⟩
  rw [show ((((bl s).length + 1 : Nat) : Int) - 1) = (s.size : Int) by show _ = ((bl s).length : Int); omega] at h2
  unfold impl_distances.f
  simp only [e1, Int.toNat_natCast]
  exact Ev.pos (by omega) (Ev.pos (by omega) h2)
end
theorem bkPair_ev (s t : ByteArray) : Ev (fun k => spec_bkPair.f k s t) (textB (bl s) && textB (bl t)) := by
  unfold spec_bkPair.f
  refine Ev.bind (bkText_ev s) ?_
  cases textB (bl s) with
  | false => exact Ev.no (Ev.now _)
  | true => exact Ev.yes (Ev.bind (bkText_ev t) (Ev.now _))
theorem textB_len {l : List UInt8} (h : textB l = true) : l.length ≤ 20 := by
  unfold textB at h
  simp only [Bool.and_eq_true, decide_eq_true_eq] at h
  exact h.1
theorem DoneT.at_ {a b : List UInt8} {T : List (List Int)} (h : DoneT a b T 0) (r c : Nat) (hr : r ≤ a.length) (hc : c ≤ b.length) : (T.length : Int) = (a.length : Int) + 1 ∧ ((rd_L1 T (r : Int)).length : Int) = (b.length : Int) + 1 ∧ rd (rd_L1 T (r : Int)) (c : Int) = Lv a b r c := by
  have h2 := h.2 r (Nat.zero_le _) hr
  refine ⟨by rw [h.1]; omega, by have := h2.1; unfold lenT at this; omega, (cellT_eq T r c).trans (h2.2 c hc)⟩
end Go.Proofs.YtamhlbdjjfdbiaaDoor

/- FnExactFirstCommon: both sides tell the first of the longest common texts: over the functions that the walk computes. -/
namespace Go.Proofs.YtamhlbdjjfdbiaaDoor
open Go.RowKit Go.Proofs.YtamhlbdjjfdbiaaDoor.P Go.Proofs.YtamhlbdjjfdbiaaDoorW.PrintWords Go.Proofs.YtamhlbdjjfdbiaaDoorW.PrintMore
set_option linter.unusedSimpArgs false
set_option linter.unusedVariables false
set_option linter.unusedSectionVars false
namespace FirstCommon
/-- The first place of a letter, or the length. -/
def plc (c : UInt8) : List UInt8 → Nat
  | [] => 0
  | x :: l => if x = c then 0 else plc c l + 1
theorem plc_le (c : UInt8) : ∀ l : List UInt8, plc c l ≤ l.length
  | [] => Nat.le_refl _
  | x :: l => by
    unfold plc
    split
    · simp
    · have := plc_le c l; simp only [List.length_cons]; omega
theorem aft_plc (c : UInt8) : ∀ l : List UInt8, aft c l = if plc c l < l.length then some (l.drop (plc c l + 1)) else none
  | [] => rfl
  | x :: l => by
    unfold aft plc
    by_cases e : x = c
    · rw [if_pos e, if_pos e]; simp
    · rw [if_neg e, if_neg e, aft_plc c l]
      by_cases h : plc c l < l.length
      · rw [if_pos h, if_pos (by simp only [List.length_cons]; omega), List.drop_succ_cons]
      · rw [if_neg h, if_neg (by simp only [List.length_cons]; omega)]
theorem sub_mem {s b : List UInt8} (h : Sub s b) : ∀ c ∈ s, c ∈ b := by
  induction h with
  | nil b => intro c hc; cases hc
  | skip y _ ih => intro c hc; exact List.mem_cons_of_mem _ (ih c hc)
  | take y _ ih =>
    intro c hc
    rcases List.mem_cons.1 hc with rfl | hc
    · exact List.mem_cons_self
    · exact List.mem_cons_of_mem _ (ih c hc)
theorem aft_mem {c : UInt8} : ∀ {l r : List UInt8}, aft c l = some r → c ∈ l
  | [], _, h => by simp [aft] at h
  | x :: l, r, h => by
    unfold aft at h
    by_cases e : x = c
    · subst e; exact List.mem_cons_self
    · rw [if_neg e] at h; exact List.mem_cons_of_mem _ (aft_mem h)
theorem can_mem {a b : List UInt8} {c : UInt8} (h : canNext a b c = true) : c ∈ a := by
  unfold canNext at h
  cases ha : aft c a with
  | none => rw [ha] at h; simp at h
  | some x => exact aft_mem ha
theorem enc_low (L : Nat) (h : L ≤ 122) : bl (Utf8.encode (wrap32 (L : Int))) = [UInt8.ofNat L] := by
  have : ∀ e : Fin 123, bl (Utf8.encode (wrap32 (e.val : Int))) = [UInt8.ofNat e.val] := by decide +kernel
  exact this ⟨L, by omega⟩
theorem text_low {l : List UInt8} (h : textB l = true) : ∀ c ∈ l, 97 ≤ c.toNat ∧ c.toNat ≤ 122 := by
  unfold textB at h
  rw [Bool.and_eq_true, List.all_eq_true] at h
  intro c hc
  have := h.2 c hc
  unfold isLow at this
  simpa using this
theorem bkNext_ev (x : ByteArray) (hx : (bl x).length ≤ 20) (c : UInt8) : ∀ (d i : Nat), i + d = (bl x).length → Ev (fun k => spec_bkNext.l0 k x (i : Int) (c.toNat : Int)) ((i + plc c ((bl x).drop i) : Nat) : Int)
  | 0, i, hi => by
    have es : (x.size : Int) = ((bl x).length : Int) := rfl
    rw [List.drop_of_length_le (by omega)]
    apply Ev.succ
    simp only [spec_bkNext.l0]
    exact Ev.neg (by omega) (Ev.now _)
  | d + 1, i, hi => by
    have es : (x.size : Int) = ((bl x).length : Int) := rfl
    have hlt : i < (bl x).length := by omega
    have ih := bkNext_ev x hx c d (i + 1) (by omega)
    apply Ev.succ
    simp only [spec_bkNext.l0]
    refine Ev.pos (by omega) (Ev.pos (by omega) ?_)
    rw [List.drop_eq_getElem_cons hlt, bt_nat x i hlt]
    unfold plc
    by_cases e : (bl x)[i] = c
    · rw [if_pos e]
      exact Ev.pos ((byte_eq _ _).2 e) (Ev.now _)
    · rw [if_neg e]
      refine Ev.neg (fun h => e ((byte_eq _ _).1 h)) ?_
      rw [show wrap64 ((i : Int) + 1) = ((i + 1 : Nat) : Int) by rw [wrap_id (by omega) (by omega)]; omega, show i + (plc c ((bl x).drop (i + 1)) + 1) = i + 1 + plc c ((bl x).drop (i + 1)) by omega]
      exact ih
theorem lcs_drop_le (a b : List UInt8) (i k : Nat) (h : a.length ≤ 20) : lcsN (a.drop i) (b.drop k) ≤ 20 := by
  have h_ := lcsN_le (a.drop i) (b.drop k); rw [List.length_drop] at h_; omega
attribute [local irreducible] rd_L1 rd
section
variable (s t : ByteArray) (hs : textB (bl s) = true) (ht : textB (bl t) = true) (T : List (List Int)) (hT : DoneG id 0 (Ns (bl s) (bl t)) (bl s).length (bl t).length T 0) (r : ByteArray) (hr : bl r = lcsS (bl s) (bl t))
include hs ht hT hr
theorem cell_at (i k : Nat) (hi : i ≤ (bl s).length) (hk : k ≤ (bl t).length) : Aside0 (rd (rd_L1 T (i : Int)) (k : Int) = Ns (bl s) (bl t) i k) ∧ Aside0 (((rd_L1 T (i : Int)).length : Int) = ((bl t).length : Int) + 1) := by
  obtain ⟨h1, h2⟩ := hT.2 i (Nat.zero_le _) hi
  refine ⟨⟨?_⟩, ⟨?_⟩⟩
  · rw [rdc1]; exact h2 k hk
  · unfold lG at h1; rw [rd1_get, h1]; clear h1 h2; omega
theorem inner (N : Nat) (ih : ∀ (i k : Nat) (out : ByteArray), i ≤ (bl s).length → k ≤ (bl t).length → bl out ++ lcsS ((bl s).drop i) ((bl t).drop k) = lcsS (bl s) (bl t) → lcsN ((bl s).drop i) ((bl t).drop k) = N → Ev (fun n => spec_FirstCommon.l0 n s t T out (i : Int) (k : Int)) (r, true))
    (i k : Nat) (out : ByteArray) (hi : i ≤ (bl s).length) (hk : k ≤ (bl t).length) (ho : bl out ++ lcsS ((bl s).drop i) ((bl t).drop k) = lcsS (bl s) (bl t)) (hN : lcsN ((bl s).drop i) ((bl t).drop k) = N + 1) :
    ∀ (e L : Nat), L + e = 123 → 97 ≤ L → (∀ d : UInt8, d.toNat < L → canNext ((bl s).drop i) ((bl t).drop k) d = false) → Ev (fun n => spec_FirstCommon.l1 n s t T out (i : Int) (k : Int) (L : Int)) (r, true)
  | 0, L, hL, hl, hn => by
    obtain ⟨c, c1, c2⟩ := canNext_some ((bl s).drop i) ((bl t).drop k) (by omega)
    have h1 := text_low hs c (List.mem_of_mem_drop (can_mem c2))
    rw [hn c (by omega)] at c2
    cases c2
  | e + 1, L, hL, hl, hn => by
    have ls := textB_len hs
    have lt := textB_len ht
    have es : (s.size : Int) = ((bl s).length : Int) := rfl
    have et : (t.size : Int) = ((bl t).length : Int) := rfl
    have hlT : (T.length : Int) = ((bl s).length : Int) + 1 := by rw [hT.1]; omega
    have hc : ((UInt8.ofNat L).toNat : Int) = (L : Int) := by simp; omega
    have hcn : (UInt8.ofNat L).toNat = L := by omega
    have q1 := bkNext_ev s ls (UInt8.ofNat L) ((bl s).length - i) i (by omega)
    have q2 := bkNext_ev t lt (UInt8.ofNat L) ((bl t).length - k) k (by omega)
    rw [hc] at q1 q2
    have p1 := aft_plc (UInt8.ofNat L) ((bl s).drop i)
    have p2 := aft_plc (UInt8.ofNat L) ((bl t).drop k)
    have w1 := plc_le (UInt8.ofNat L) ((bl s).drop i)
    have w2 := plc_le (UInt8.ofNat L) ((bl t).drop k)
    rw [List.length_drop] at p1 p2 w1 w2
    rw [List.drop_drop] at p1 p2
    have next : canNext ((bl s).drop i) ((bl t).drop k) (UInt8.ofNat L) = false → Ev (fun n => spec_FirstCommon.l1 n s t T out (i : Int) (k : Int) (((L : Int) + 1) % 256)) (r, true) := by
      intro hf
      rw [show (((L : Int) + 1) % 256) = ((L + 1 : Nat) : Int) by omega]
      refine inner N ih i k out hi hk ho hN e (L + 1) (by omega) (by omega) fun d hd => ?_
      by_cases x : d.toNat < L
      · exact hn d x
      · rw [show d = UInt8.ofNat L from UInt8.toNat_inj.1 (by omega)]; exact hf
    apply Ev.succ
    simp only [spec_FirstCommon.l1]
    refine Ev.pos (by omega) (Ev.bind (by unfold spec_bkNext.f; exact q1) (Ev.bind (by unfold spec_bkNext.f; exact q2) ?_))
    generalize plc (UInt8.ofNat L) ((bl s).drop i) = x at *
    generalize plc (UInt8.ofNat L) ((bl t).drop k) = y at *
    by_cases c1 : i + x < (bl s).length
    · refine Ev.pos (by omega) ?_
      by_cases c2 : k + y < (bl t).length
      · refine Ev.pos (by omega) ?_
        rw [if_pos (show x < (bl s).length - i by omega)] at p1
        rw [if_pos (show y < (bl t).length - k by omega)] at p2
        have e1 : Aside0 (wrap64 (((i + x : Nat) : Int) + 1) = ((i + x + 1 : Nat) : Int)) := ⟨by rw [wrap_id (by omega) (by omega)]; omega⟩
        have e2 : Aside0 (wrap64 (((k + y : Nat) : Int) + 1) = ((k + y + 1 : Nat) : Int)) := ⟨by rw [wrap_id (by omega) (by omega)]; omega⟩
        obtain ⟨u1, u2⟩ := cell_at s t hs ht T hT r hr (i + x + 1) (k + y + 1) (by omega) (by omega)
        obtain ⟨u3, u4⟩ := cell_at s t hs ht T hT r hr i k hi hk
        rw [show i + (x + 1) = i + x + 1 by omega] at p1
        rw [show k + (y + 1) = k + y + 1 by omega] at p2
        have HN := Aside0.mk hN
        have el : (bl out).length ≤ 20 := by
          have h1 := congrArg List.length ho
          have h2 := (lcsS_all _ (bl s) (bl t) (Nat.le_refl _)).2.2.1
          have h3 := lcsN_le (bl s) (bl t)
          rw [List.length_append, h2] at h1
          clear hN h2
          omega
        have HO := Aside0.mk ho
        clear hN ho
        obtain ⟨Q, hq⟩ : ∃ Q, Q = lcsN ((bl s).drop (i + x + 1)) ((bl t).drop (k + y + 1)) := ⟨_, rfl⟩
        have n3 : Q ≤ 20 := by rw [hq]; exact lcs_drop_le _ _ _ _ ls
        have HQ := Aside0.mk hq
        clear hq
        have n1 : Aside0 (Ns (bl s) (bl t) i k = ((N + 1 : Nat) : Int)) := ⟨by rw [← HN.out]; unfold Ns; rfl⟩
        have n2 : Aside0 (Ns (bl s) (bl t) (i + x + 1) (k + y + 1) = (Q : Int)) := ⟨by rw [HQ.out]; unfold Ns; rfl⟩
        simp only [e1.out, e2.out, u1.out, u2.out, u3.out, u4.out, hlT, n1.out, n2.out]
        clear u1 u2 u3 u4 hlT n1 n2
        refine Ev.pos (by omega) (Ev.pos (by omega) (Ev.pos (by omega) (Ev.pos (by omega) (Ev.pos (by omega) (Ev.pos (by omega) (Ev.pos (by omega) (Ev.pos (by omega) ?_)))))))
        by_cases c3 : Q + 1 = N + 1
        · have st := lcsS_step _ _ (UInt8.ofNat L) _ _ p1 p2 (by rw [HN.out, ← HQ.out]; exact c3) (fun d hd => hn d (by rw [UInt8.lt_iff_toNat_lt] at hd; omega))
          have eo : bl (out ++ Utf8.encode (wrap32 (L : Int))) ++ lcsS ((bl s).drop (i + x + 1)) ((bl t).drop (k + y + 1)) = lcsS (bl s) (bl t) := by
            rw [bl_append, enc_low L (by omega), ← HO.out, st]; simp
          have eu : out.size + (Utf8.encode (wrap32 (L : Int))).size ≤ 9223372036854775807 := by
            rw [bl_len out, bl_len (Utf8.encode _), enc_low L (by omega), List.length_singleton]; clear eo st; omega
          refine Ev.pos (by rw [wrap_id (by omega) (by omega)]; omega) (Ev.pos eu ?_)
          exact ih (i + x + 1) (k + y + 1) _ (by omega) (by omega) eo (by rw [← HQ.out]; omega)
        · refine Ev.neg (by rw [wrap_id (by omega) (by omega)]; omega) (next ?_)
          unfold canNext
          rw [p1, p2]
          show decide _ = false
          rw [HN.out, ← HQ.out]
          exact decide_eq_false c3
      · refine Ev.neg (by omega) (next ?_)
        rw [if_neg (show ¬ y < (bl t).length - k by omega)] at p2
        unfold canNext
        rw [p2]
        cases aft (UInt8.ofNat L) ((bl s).drop i) <;> rfl
    · refine Ev.neg (by omega) (next ?_)
      rw [if_neg (show ¬ x < (bl s).length - i by omega)] at p1
      unfold canNext
      rw [p1]
theorem outer : ∀ (N i k : Nat) (out : ByteArray), i ≤ (bl s).length → k ≤ (bl t).length → bl out ++ lcsS ((bl s).drop i) ((bl t).drop k) = lcsS (bl s) (bl t) → lcsN ((bl s).drop i) ((bl t).drop k) = N → Ev (fun n => spec_FirstCommon.l0 n s t T out (i : Int) (k : Int)) (r, true)
  | 0, i, k, out, hi, hk, ho, hN => by
    have hlT : (T.length : Int) = ((bl s).length : Int) + 1 := by rw [hT.1]; omega
    obtain ⟨u3, u4⟩ := cell_at s t hs ht T hT r hr i k hi hk
    have n1 : Ns (bl s) (bl t) i k = 0 := by unfold Ns; rw [hN]; rfl
    have hn := (lcsS_all _ ((bl s).drop i) ((bl t).drop k) (Nat.le_refl _)).2.2.1
    rw [hN] at hn
    rw [List.length_eq_zero_iff.1 hn, List.append_nil, ← hr] at ho
    obtain rfl := bl_inj ho
    apply Ev.succ
    simp only [spec_FirstCommon.l0, u3.out, u4.out, hlT, n1]
    clear u3 u4 hlT n1
    exact Ev.pos (by omega) (Ev.pos (by omega) (Ev.pos (by omega) (Ev.pos (by omega) (Ev.neg (by omega) (Ev.now _)))))
  | N + 1, i, k, out, hi, hk, ho, hN => by
    have hlT : (T.length : Int) = ((bl s).length : Int) + 1 := by rw [hT.1]; omega
    obtain ⟨u3, u4⟩ := cell_at s t hs ht T hT r hr i k hi hk
    have n1 : Ns (bl s) (bl t) i k = ((N + 1 : Nat) : Int) := by unfold Ns; rw [hN]
    have go := inner s t hs ht T hT r hr N (outer N) i k out hi hk ho hN 26 97 (by omega) (by omega) (fun d hd => by
      cases hcn : canNext ((bl s).drop i) ((bl t).drop k) d with
      | false => rfl
      | true => have h1 := text_low hs d (List.mem_of_mem_drop (can_mem hcn)); omega)
    apply Ev.succ
    simp only [spec_FirstCommon.l0, u3.out, u4.out, hlT, n1]
    clear u3 u4 hlT n1
    exact Ev.pos (by omega) (Ev.pos (by omega) (Ev.pos (by omega) (Ev.pos (by omega) (Ev.pos (by omega) go))))
end
theorem both_ev (s t : ByteArray) (h1 : s.size ≤ 1048576) (h2 : t.size ≤ 1048576) : ∃ r : ByteArray × Bool, Ev (fun k => spec_FirstCommon.f k s t) r ∧ Ev (fun k => impl_FirstCommon.f k s t) r := by
  unfold spec_FirstCommon.f impl_FirstCommon.f
  cases hs : textB (bl s) with
  | false =>
    exact ⟨((⟨#[]⟩ : ByteArray), false), Ev.bind (bkPair_ev s t) (by rw [hs]; exact Ev.no (Ev.now _)), Ev.bindc (by rw [isText_eq s (by omega), hs]) (Ev.no (Ev.now _))⟩
  | true =>
    cases ht : textB (bl t) with
    | false =>
      exact ⟨((⟨#[]⟩ : ByteArray), false), Ev.bind (bkPair_ev s t) (by rw [hs, ht]; exact Ev.no (Ev.now _)), Ev.bindc (by rw [isText_eq s (by omega), hs]) (Ev.yes (Ev.bindc (by rw [isText_eq t (by omega), ht]) (Ev.no (Ev.now _))))⟩
    | true =>
      have ls := textB_len hs
      have lt := textB_len ht
      obtain ⟨T, hT, eT⟩ := bkCommon_ev s t ls lt
      obtain ⟨r, hr, er⟩ := common_ev s t ls lt
      refine ⟨(r, true), Ev.bind (bkPair_ev s t) ?_, Ev.bindc (by rw [isText_eq s (by omega), hs]) (Ev.yes (Ev.bindc (by rw [isText_eq t (by omega), ht]) (Ev.yes (Ev.bind er (Ev.now _)))))⟩
      rw [hs, ht]
      refine Ev.yes (Ev.bind eT ?_)
      exact outer s t hs ht T hT r hr (lcsN (bl s) (bl t)) 0 0 _ (Nat.zero_le _) (Nat.zero_le _) (by rw [bl_empty]; simp) (by simp)
end FirstCommon
open FirstCommon in
theorem pure_FnExactFirstCommon : PureFnExactFirstCommon := by
  intro s t
  intros
  refine Ev.rounds (g := fun k => laws_FnExactFirstCommon.f k s t) ?_
  unfold laws_FnExactFirstCommon.f
  by_cases c1 : s.size ≤ 1048576
  · by_cases c2 : t.size ≤ 1048576
    · obtain ⟨r, hs, hi⟩ := both_ev s t c1 c2
      exact Ev.neg (by omega) (Ev.neg (by omega) (Ev.bind hs (Ev.bind hi (Ev.pos rfl (Ev.neg (by simp) (Ev.now _))))))
    · exact Ev.neg (by omega) (Ev.pos (by omega) (Ev.now _))
  · exact Ev.pos (by omega) (Ev.now _)
end Go.Proofs.YtamhlbdjjfdbiaaDoor

namespace Go.Proofs.YtamhlbdjjfdbiaaDoor
open Go.RowKit Go.Proofs.YtamhlbdjjfdbiaaDoorW.PrintWords Go.ChangeShapes Go.WideShapes

theorem C_scalar {α : Type} {enc : α → Value} {h1 : ∀ x, (enc x).oneCell' = true} {w : World} {A : Option Addr} {l : List α} (hn : l.length ≤ 9223372036854775807)
    (hcell : 0 < l.length → ∃ ad, A = some ad ∧ ∀ j x, l[j]? = some x → w.cell? (ad.add j) = some (enc x)) : (Kd.scalar enc h1).C w A l.length l := by
  refine ⟨rfl, hn, fun hp => ?_⟩
  obtain ⟨ad, hA, hc⟩ := hcell hp
  refine ⟨ad, hA, fun j x hx => ⟨[enc x], rfl, rfl, fun i u hu => ?_⟩⟩
  match i, hu with
  | 0, hu =>
    have : enc x = u := by simpa using hu
    subst this
    show w.cell? (ad.add (j * 1 + 0)) = _
    rw [Nat.mul_one, Nat.add_zero]
    exact hc j x hx
  | i + 1, hu => simp at hu

section
variable {H : Type} {enc : TypeId × Value → H} {P : Program} {w : World} {base : Nat} {spare : Nat → Bool} {held : Bool}

/-- A cell that reads at a slice of whole numbers. -/
theorem read_ints {t e : TypeId} {k : IntKind} {fuel : Nat} {v : Value} {y : DataW H × List MemPlace} (ht : P.underlying t = some (.slice e)) (he : P.underlying e = some (.int k)) (hc : P.cellsOf e = 1)
    (hf : DataW.trod enc P w base spare held fuel t [v] = some y) :
    ∃ (A : Option Addr) (c : Nat) (l : List Int), v = .slice A l.length c ∧ l.length ≤ c ∧ (∀ x ∈ l, (Lit.int k x).wf = true) ∧ (Kd.int k).C w A l.length l := by
  rcases open_ints ht he hc hf with ⟨hcs, _⟩ | ⟨a, len, cap, zs, hcs, _, hl, hm, hz, _, hcell, hwf⟩
  · obtain rfl : v = .slice none 0 0 := by simpa using hcs
    exact ⟨none, 0, [], rfl, Nat.le_refl _, fun x hx => by simp at hx, rfl, by simp, fun h => absurd h (by simp)⟩
  · obtain rfl : v = .slice (some a) len cap := by simpa using hcs
    have hlz : len ≤ zs.length := by rw [hz]; split <;> omega
    have hlen : (zs.take len).length = len := by rw [List.length_take]; omega
    refine ⟨some a, cap, zs.take len, by rw [hlen], by rw [hlen]; exact hl, fun x hx => hwf x (List.mem_of_mem_take hx), ?_⟩
    refine C_scalar (by rw [hlen]; unfold maxLen at hm; omega) (fun hp => ⟨a, rfl, fun j x hj => ?_⟩)
    have hj' : j < len := by have := (List.getElem?_eq_some_iff.1 hj).1; rw [hlen] at this; exact this
    rw [hcell j (by omega)]
    rw [List.getElem?_take_of_lt hj'] at hj
    rw [List.getD_eq_getElem?_getD, hj]; rfl

/-- A cell that reads at a slice of strings. -/
theorem read_strs {t e : TypeId} {fuel : Nat} {v : Value} {y : DataW H × List MemPlace} (ht : P.underlying t = some (.slice e)) (he : P.underlying e = some .string) (hc : P.cellsOf e = 1)
    (hf : DataW.trod enc P w base spare held fuel t [v] = some y) :
    ∃ (A : Option Addr) (c : Nat) (l : List ByteArray), v = .slice A l.length c ∧ l.length ≤ c ∧ (∀ s ∈ l, s.size ≤ 9223372036854775807) ∧ Kd.string.C w A l.length l := by
  rcases open_strings ht he hc hf with ⟨hcs, _⟩ | ⟨a, len, cap, zs, hcs, _, hl, hm, hz, _, hcell, hwf⟩
  · obtain rfl : v = .slice none 0 0 := by simpa using hcs
    exact ⟨none, 0, [], rfl, Nat.le_refl _, fun x hx => by simp at hx, rfl, by simp, fun h => absurd h (by simp)⟩
  · obtain rfl : v = .slice (some a) len cap := by simpa using hcs
    have hlz : len ≤ zs.length := by rw [hz]; split <;> omega
    have hlen : (zs.take len).length = len := by rw [List.length_take]; omega
    refine ⟨some a, cap, zs.take len, by rw [hlen], by rw [hlen]; exact hl, fun x hx => by have := hwf x (List.mem_of_mem_take hx); unfold maxLen at this; omega, ?_⟩
    refine C_scalar (by rw [hlen]; unfold maxLen at hm; omega) (fun hp => ⟨a, rfl, fun j x hj => ?_⟩)
    have hj' : j < len := by have := (List.getElem?_eq_some_iff.1 hj).1; rw [hlen] at this; exact this
    rw [hcell j (by omega)]
    rw [List.getElem?_take_of_lt hj'] at hj
    rw [List.getD_eq_getElem?_getD, hj]; rfl

theorem read_int {t : TypeId} {k : IntKind} {fuel : Nat} {v : Value} {y : DataW H × List MemPlace} (ht : P.underlying t = some (.int k))
    (hf : DataW.trod enc P w base spare held fuel t [v] = some y) : ∃ n : Int, v = .int k n ∧ (Lit.int k n).wf = true := by
  obtain ⟨n, e1, _, h⟩ := DataW.trod_int ht hf
  exact ⟨n, by simpa using e1, h⟩
end

/-- The cells of a datum that holds numbers alone, an array's elements being numbers or structs of numbers. -/
def litsOf : DataW Unit → List Value
  | .lit (.int k n) => [.int k n]
  | .agg l => l.flatMap fun
    | .lit (.int k n) => [.int k n]
    | .agg l2 => l2.flatMap fun
      | .lit (.int k n) => [.int k n]
      | _ => []
    | _ => []
  | _ => []
end Go.Proofs.YtamhlbdjjfdbiaaDoor

/- FnExactFirstCommonCardSaid: the law 'FnExactFirstCommon' answers true for every input, and leaves its arguments as they were. The row and its tied card, over the walk of its calls and the pure statement. -/
namespace Go.Proofs.YtamhlbdjjfdbiaaDoor.fnExactFirstCommon
open Go.ChangeShapes Go.WideShapes Go.ChangeAt Go.RowKit Go.Proofs.YtamhlbdjjfdbiaaDoor.P Go.Proofs.YtamhlbdjjfdbiaaDoorW.PrintWords
open Go.ChangeMaps (open_string shut_string)
set_option linter.unusedVariables false
theorem own : ownKnob Tryd.prog.godebug = none := by kernel_rfl
/-- What the row lists of package-level variables. -/
noncomputable def laidList : List (String × DataW Unit) := [("unicode/utf8.acceptRanges", Rows.laid_unicode_utf8_acceptRanges), ("unicode/utf8.first", Rows.laid_unicode_utf8_first)]
/-- A world that meets it: the settled one, the listed variables laid. -/
noncomputable def laidWorld (os : Os) : World :=
  let w0 := World.holding Tryd.prog os ⟨#[], #[], []⟩
  { w0 with heap := ((w0.heap.modify 2 fun o => match o with | .cells _ t frozen => .cells (litsOf Rows.laid_unicode_utf8_acceptRanges).toArray t frozen | o => o).modify 1 fun o => match o with | .cells _ t frozen => .cells (litsOf Rows.laid_unicode_utf8_first).toArray t frozen | o => o) }
theorem laidWorld_met (os : Os) (args : Array Value) : laidMetH Tryd.prog laidList ((laidWorld os).forCall (fun _ _ => 0) ⟨#[], args, []⟩).memory :=
  laidMetH_of_parts3 (fuel := 8) (laidMet_of_run' 8 (by kernel_rfl) (by kernel_rfl)) (by kernel_rfl) (by kernel_rfl)
set_option maxRecDepth 100000 in
theorem lifted (os : Os) (started : os.Started) (H : Type) (enc : TypeId × Value → H) :
    ReturnsInHanded {} Tryd.checked os 8 .any (fun w args => (Rows.fnExactFirstCommonSpec.pre enc Tryd.prog Tryd.f8 [] false w args ∧ laidMetH Tryd.prog laidList w) ∧ sizedMet enc Tryd.prog Tryd.f8 (OpenSpec.ofChange Rows.fnExactFirstCommonSpec) false w args)
      (Rows.fnExactFirstCommonSpec.post enc Tryd.prog Tryd.f8 false true false false) := by
  refine returnsInHanded_of_change_and (C := Tryd.checked) (X := fun w _ => laidMetH Tryd.prog laidList w) (fun _ _ _ hh h => h.of_heap hh) own started (by kernel_rfl) Tryd.func8
    (ChangeSpec.witness_at (enc := enc) (C := Tryd.checked) (os := os) (X := fun w _ => laidMetH Tryd.prog laidList w) false (laidWorld os) #[.string ByteArray.empty, .string ByteArray.empty] 8 rfl (by kernel_rfl) (by kernel_rfl) (by kernel_rfl) (by kernel_rfl) (by kernel_rfl) (laidWorld_met os _)) ?_
  intro W base args ds gs before hval0 hW _ _ hL _
  have hval : ∀ (j : Nat) t v, Tryd.f8.params[j]? = some t → args[j]? = some v → Value.okWide Tryd.prog W .any base t v := hval0
  have hW' := hW
  obtain ⟨p, q, hA0, hV, rfl, hfz, hnd⟩ := hW
  have hA : DataW.TrodAll enc Tryd.prog W 0 (fun _ => true) true Tryd.f8.params.toList args.toList ds p := hA0
  rw [Tryd.params8] at hA hval
  obtain ⟨v0, vs0, d0, ds0, p0, q0, hargs, rfl, rfl, h0, r0⟩ := trodAll_cons hA
  obtain ⟨v1, vs1, d1, ds1, p1, q1, rfl, rfl, rfl, h1, r1⟩ := trodAll_cons r0
  obtain ⟨rfl, rfl, rfl⟩ := trodAll_nil r1
  obtain rfl : args = #[v0, v1] := by cases args; simp_all
  obtain ⟨rfl, rfl⟩ := trodVars_none hV
  obtain ⟨a0, rfl, rfl, rfl, y0⟩ := open_string Tryd.underlying9 (hval 0 9 v0 rfl rfl) h0
  have z0 : a0.size ≤ 9223372036854775807 := by unfold maxLen at y0; omega
  obtain ⟨a1, rfl, rfl, rfl, y1⟩ := open_string Tryd.underlying9 (hval 1 9 v1 rfl rfl) h1
  have z1 : a1.size ≤ 9223372036854775807 := by unfold maxLen at y1; omega
  clear hA0 hval0
  simp only [List.append_nil] at hW'
  obtain ⟨k, hk⟩ := pure_FnExactFirstCommon a0 a1 z0 z1
  refine (laws_FnExactFirstCommon.calls k a0 a1 true W  hk).mono fun e W' ⟨he, bel0⟩ => ?_
  have bel : Below W.heap.size W W' := bel0
  subst he
  exact ⟨_, rfl, _, _, _, [], _, [], hW', trodAll_mk1 (shut_bool Tryd.underlying4 _), (trodAll_cons_mk (shut_string Tryd.underlying9 y0) (trodAll_cons_mk (shut_string Tryd.underlying9 y1) trodAll_mk0)), rfl, bel.frame _, fun h => by cases h⟩
theorem over : Rows.fnExactFirstCommonRow.holds Tryd.pinned (OpenSpec.ofChange Rows.fnExactFirstCommonSpec) :=
  OpenClaim.holds_of_wide 8 Tryd.f8 rfl rfl rfl rfl rfl rfl rfl ⟨rfl, rfl, rfl, rfl, rfl⟩ rfl rfl rfl rfl rfl (by kernel_rfl) Tryd.func8 (by kernel_rfl)
    (of_decide_eq_true (by kernel_rfl)) (by unfold Func.isWrapper; first | (rw [if_pos (by decide +kernel)]; kernel_rfl) | (rw [if_neg (by decide +kernel)]; exact ⟨rfl, rfl⟩))
    (fun os started H enc _ => lifted os started H enc)
theorem proved : Rows.FnExactFirstCommonSaid := over
theorem card : Rows.FnExactFirstCommonCardSaid :=
  Claim7.holds_tied_plain_at .later [] [.data, .pinned] true (true, "f7a8f0b0a8ebe6116bd847de1e23082415b6a2e67e2b3d2d44827f78c58abfdc") false
    proved (fun _ h => by cases h) (by kernel_rfl) (fun _ h => by cases h) fnExactFirstCommon_row_tie rfl ⟨rfl, rfl⟩ (by kernel_rfl) rfl
    (fun f fn hf hfn => by
      obtain rfl : f = 8 := Option.some.inj ((show Tryd.prog.funcNamed "loop.example/g01350/laws.FnExactFirstCommon" = some 8 by kernel_rfl).symm.trans hf) |>.symm
      obtain rfl : fn = Tryd.f8 := (Option.some.inj (Tryd.func8.symm.trans hfn)).symm
      exact ⟨by kernel_rfl, fun j t ht => by
        rw [Tryd.params8] at ht
        have hm : t ∈ #[9, 9] := Array.mem_of_getElem? ht
        have hm : t ∈ [9, 9] := by simpa using hm
        have hall : ([9, 9].all fun u => !Tryd.prog.wantsStandIn u) = true := by kernel_rfl
        exact (show Tryd.prog.wantsStandIn t = false by simpa using List.all_eq_true.1 hall t hm)⟩)
    (by kernel_rfl)
#print axioms card
end Go.Proofs.YtamhlbdjjfdbiaaDoor.fnExactFirstCommon
namespace Go.Proofs.YtamhlbdjjfdbiaaDoor
theorem fnExactFirstCommon_holds : Rows.FnExactFirstCommonCardSaid := fnExactFirstCommon.card
end Go.Proofs.YtamhlbdjjfdbiaaDoor

