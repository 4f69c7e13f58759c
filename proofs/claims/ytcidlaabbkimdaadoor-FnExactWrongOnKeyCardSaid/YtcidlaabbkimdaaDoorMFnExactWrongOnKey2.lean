/- Part 2 of 2 of the proof of: FnExactWrongOnKeyCardSaid: the law 'FnExactWrongOnKey' answers true for every input, and leaves its arguments as they were. The row and its tied card, over the walk of its calls and the pure statement. -/
import Derived.Test.YtcidlaabbkimdaaDoorMFnExactWrongOnKey1
import Derived.Test.YtcidlaabbkimdaaDoorWWords
import Derived.Test.YtcidlaabbkimdaaDoorWMore
import Derived.Laws.Strings
import Derived.Lib.SlTrimSet
import Derived.Lib.Bytealg
import Derived.Sort.Walk0
import Derived.WalkKit
import Derived.ProofKit
import Derived.OpenShut
import Derived.ShutString
import Derived.ChangeOld
import Derived.Below
import Derived.SizedLaws
import Derived.ChangeSlices
import Derived.SliceStrings
import Derived.Lib.SmallJoins
import Derived.LaidLaws
import Derived.LaidHandle
import Derived.LaidMore
import Derived.Test.YtcidlaabbkimdaaDoorRows
import Derived.Test.YtcidlaabbkimdaaDoorCards
import Derived.Test.YtcidlaabbkimdaaDoorTie
import Derived.Handed
import Derived.SevenTiedAt
import Derived.Stop.Joined
-- printed by xprint.py
namespace Go.Proofs.YtcidlaabbkimdaaDoor.P
open Go.RowKit Go.Proofs.YtcidlaabbkimdaaDoorW.PrintWords Go.Proofs.YtcidlaabbkimdaaDoorW.PrintLast Go.Proofs.YtcidlaabbkimdaaDoorW.PrintMore
attribute [local go_sem] max2_int min2_int max_two min_two max_three min_three max_four min_four   -- for this text's walks alone
set_option linter.unusedVariables false
set_option linter.unusedSimpArgs false

/-! ### spec_WrongOnKey: function 25 -/
mutual
def spec_WrongOnKey.l0 : Nat → ByteArray → List ByteArray → Int → Option (List ByteArray × Bool)
 | 0, _, _, _ => none
 | k + 1, x0, x4, x5 => if x5 < (x0.size : Int) then (if 0 ≤ x5 then ((spec_prKey.f k (bt x0 x5)).bind fun bt102 => ((spec_prLetters.f bt102.1).bind fun t104 => (spec_WrongOnKey.l1 k x0 x4 x5 t104 0))) else (none)) else (some (x4, true))
def spec_WrongOnKey.l1 : Nat → ByteArray → List ByteArray → Int → ByteArray → Int → Option (List ByteArray × Bool)
 | 0, _, _, _, _, _ => none
 | k + 1, x0, x4, x5, x8, x9 => if x9 < (x8.size : Int) then (if 0 ≤ x9 then (if 0 ≤ x5 then (if x5 < (x0.size : Int) then (if (bt x8 x9) = (bt x0 x5) then (spec_WrongOnKey.l1 k x0 x4 x5 x8 (wrap64 (x9 + 1))) else (if x5 ≤ (x0.size : Int) then (if x9 ≤ (wrap64 (x9 + 1)) then (if (wrap64 (x9 + 1)) ≤ (x8.size : Int) then (if (x0.extract 0 (x5 : Int).toNat).size + (x8.extract (x9 : Int).toNat ((wrap64 (x9 + 1)) : Int).toNat).size ≤ 9223372036854775807 then (if 0 ≤ (wrap64 (x5 + 1)) then (if (wrap64 (x5 + 1)) ≤ (x0.size : Int) then (if ((x0.extract 0 (x5 : Int).toNat) ++ (x8.extract (x9 : Int).toNat ((wrap64 (x9 + 1)) : Int).toNat)).size + (x0.extract ((wrap64 (x5 + 1)) : Int).toNat x0.size).size ≤ 9223372036854775807 then ((spec_wdPut.f k x4 (((x0.extract 0 (x5 : Int).toNat) ++ (x8.extract (x9 : Int).toNat ((wrap64 (x9 + 1)) : Int).toNat)) ++ (x0.extract ((wrap64 (x5 + 1)) : Int).toNat x0.size))).bind fun t105 => (spec_WrongOnKey.l1 k x0 t105 x5 x8 (wrap64 (x9 + 1)))) else (none)) else (none)) else (none)) else (none)) else (none)) else (none)) else (none))) else (none)) else (none)) else (none)) else (spec_WrongOnKey.l0 k x0 x4 (wrap64 (x5 + 1)))
end
def spec_WrongOnKey.f (k : Nat) (a0 : ByteArray) : Option (List ByteArray × Bool) := (spec_wdWord.f k a0).bind fun t101 => (if t101 = true then (spec_WrongOnKey.l0 k a0 ([] : List ByteArray) 0) else (some (([] : List ByteArray), false)))
theorem spec_WrongOnKey.mono_l : ∀ k, (∀ y0 y1 y2, LeO (spec_WrongOnKey.l0 k y0 y1 y2) (spec_WrongOnKey.l0 (k + 1) y0 y1 y2)) ∧ (∀ y0 y1 y2 y3 y4, LeO (spec_WrongOnKey.l1 k y0 y1 y2 y3 y4) (spec_WrongOnKey.l1 (k + 1) y0 y1 y2 y3 y4))
 | 0 => ⟨by intros; intro r h; simp [spec_WrongOnKey.l0] at h, by intros; intro r h; simp [spec_WrongOnKey.l1] at h⟩
 | k + 1 => by
  obtain ⟨ih0, ih1⟩ := spec_WrongOnKey.mono_l k
  refine ⟨?_, ?_⟩
  ·
   intro y0 y1 y2
   unfold spec_WrongOnKey.l0
   repeat' first
   | (with_reducible exact ih0 _ _ _)
   | (with_reducible exact ih1 _ _ _ _ _)
   | (with_reducible exact spec_prKey.mono _ _)
   | (with_reducible exact spec_wdPut.mono _ _ _)
   | (with_reducible exact spec_wdWord.mono _ _)
   | (with_reducible exact LeO.refl _)
   | (with_reducible exact LeO.none _)
   | (with_reducible refine LeO.ite ?_ ?_)
   | (with_reducible refine LeO.bind ?_ (fun _ => ?_))
   | exact ih0 _ _ _
   | exact ih1 _ _ _ _ _
   | exact spec_prKey.mono _ _
   | exact spec_wdPut.mono _ _ _
   | exact spec_wdWord.mono _ _
   | exact LeO.none _
   | refine LeO.ite ?_ ?_
   | refine LeO.bind ?_ (fun _ => ?_)
  ·
   intro y0 y1 y2 y3 y4
   unfold spec_WrongOnKey.l1
   repeat' first
   | (with_reducible exact ih0 _ _ _)
   | (with_reducible exact ih1 _ _ _ _ _)
   | (with_reducible exact spec_prKey.mono _ _)
   | (with_reducible exact spec_wdPut.mono _ _ _)
   | (with_reducible exact spec_wdWord.mono _ _)
   | (with_reducible exact LeO.refl _)
   | (with_reducible exact LeO.none _)
   | (with_reducible refine LeO.ite ?_ ?_)
   | (with_reducible refine LeO.bind ?_ (fun _ => ?_))
   | exact ih0 _ _ _
   | exact ih1 _ _ _ _ _
   | exact spec_prKey.mono _ _
   | exact spec_wdPut.mono _ _ _
   | exact spec_wdWord.mono _ _
   | exact LeO.none _
   | refine LeO.ite ?_ ?_
   | refine LeO.bind ?_ (fun _ => ?_)
theorem spec_WrongOnKey.mono : ∀ y0 k, LeO (spec_WrongOnKey.f k y0) (spec_WrongOnKey.f (k + 1) y0) := by
 intro y0 k
 obtain ⟨ih0, ih1⟩ := spec_WrongOnKey.mono_l k
 unfold spec_WrongOnKey.f
 repeat' first
   | (with_reducible exact ih0 _ _ _)
   | (with_reducible exact ih1 _ _ _ _ _)
   | (with_reducible exact spec_prKey.mono _ _)
   | (with_reducible exact spec_wdPut.mono _ _ _)
   | (with_reducible exact spec_wdWord.mono _ _)
   | (with_reducible exact LeO.refl _)
   | (with_reducible exact LeO.none _)
   | (with_reducible refine LeO.ite ?_ ?_)
   | (with_reducible refine LeO.bind ?_ (fun _ => ?_))
   | exact ih0 _ _ _
   | exact ih1 _ _ _ _ _
   | exact spec_prKey.mono _ _
   | exact spec_wdPut.mono _ _ _
   | exact spec_wdWord.mono _ _
   | exact LeO.none _
   | refine LeO.ite ?_ ?_
   | refine LeO.bind ?_ (fun _ => ?_)
def spec_WrongOnKey.T13 : Bool × List (List Nat × List Nat) := (true, [([], []), ([], []), ([], []), ([1, 2], [1, 2]), ([], []), ([], []), ([], []), ([6], [6]), ([4, 5, 7], [4, 5, 7]), ([3, 8], [3, 8]), ([], []), ([], []), ([11], [11]), ([10, 12], [10, 12]), ([9, 13], [9, 13]), ([0, 14], [0, 14]), ([15, 15, 0, 1, 2, 3, 4, 5, 6, 7, 8, 9, 10, 11, 12, 13, 14, 15], [0, 15])])
def spec_WrongOnKey.B13 : List Nat := [0, 0, 0, 6, 0, 0, 0, 64, 240, 510, 0, 0, 2048, 7168, 16382, 32767, 65535]
theorem spec_WrongOnKey.tab13 : rtab .any (opsOf Tryd.f25 13) = spec_WrongOnKey.T13 := by kernel_rfl
theorem spec_WrongOnKey.bits13 : waitsOk spec_WrongOnKey.T13.2 spec_WrongOnKey.B13 = true := by kernel_rfl
set_option maxHeartbeats 8000000 in
set_option maxRecDepth 100000 in
theorem spec_WrongOnKey.calls (k : Nat) (a0 : ByteArray) (r1 : List ByteArray) (r2 : Bool) (w : World) (h : spec_WrongOnKey.f k a0 = some (r1, r2)) :
  Calls Tryd.prog 25 #[.string a0] w fun e w' => ∃ v0_ : Value, e = .returned (.tuple #[v0_, .bool r2]) ∧ Kd.R Kd.string 9 w' w.heap.size (fun _ => True) v0_ r1 ∧ Below w.heap.size w w' := by
 have HB := Aside0.mk (Below.refl w.heap.size w)
 have H : ((spec_wdWord.f k a0).bind fun t101 => (if t101 = true then (spec_WrongOnKey.l0 k a0 ([] : List ByteArray) 0) else (some (([] : List ByteArray), false)))) = some (r1, r2) := h
 clear h
 replace H := Option.bind_eq_some_iff.mp H
 obtain ⟨t101, A20, H⟩ := H
 replace H : (if t101 = true then (spec_WrongOnKey.l0 k a0 ([] : List ByteArray) 0) else (some (([] : List ByteArray), false))) = some (r1, r2) := H
 have A2 := Aside0.mk A20
 clear A20
 by_cases c3 : t101 = true
 ·
  subst c3
  have H1 : (spec_WrongOnKey.l0 k a0 ([] : List ByteArray) 0) = some (r1, r2) := by rw [if_pos rfl] at H; exact H
  clear H
  have H := H1
  clear H1
  have H' := Aside0.mk H
  clear H
  go_enter Tryd.func25, Tryd.ntmps25
  go_wp2_with (first | ((with_reducible refine gate_callee (f := 40) rfl ?_); refine goesL_ (some 11) rfl rfl Tryd.func40 (by kernel_rfl) rfl #[.string a0] rfl (by (try simp only [List.map_toArray, List.map_cons, List.map_nil]); first | done | rfl | (simp only [List.length_drop, List.length_take]; rfl)) ?_; (with_reducible refine (spec_wdWord.calls k a0 true _ A2.out).mono ?_); rintro e w' ⟨rfl, ⟨nd, rfl⟩⟩; refine ⟨_, rfl, ?_⟩))
  go_loopg [4, 5] k (fun kq v4 v5 w' => ∃ (x4_1 : List ByteArray) (x5_1 : Int), v5 = .int .i64 x5_1 ∧ Aside0 (spec_WrongOnKey.l0 kq a0 x4_1 x5_1 = some (r1, r2)) ∧ Aside0 (kq ≤ k) ∧ Aside0 (Kd.R Kd.string 9 w' w.heap.size (fun _ => True) v4 x4_1) ∧ Aside0 (Below w.heap.size w w'))
  case atStart => exact ⟨(([] : List ByteArray)), (0), (by first | rfl | (simp; done) | (simp [*]; done)), H', ⟨Nat.le_refl _⟩, ⟨by first | exact Kd.R_nil _ _ _ _ _ | exact Kd.N_nil _ _ _ _ _ | exact Kd.V_nil _ _ _ _ _ | exact Kd.Q_nil _ _ _ _ _ | exact Kd.S_nil _ _ _ _ _⟩, ⟨by repeat (first | (with_reducible first | exact HB.out | apply below_alloc | apply pw_below_drewN | apply below_drew1) | exact HB.out)⟩⟩
  case round =>
   clear H'
   try clear c2
   try clear p2
   try clear c3
   obtain ⟨x4_1, x5_1, rfl, HA, HK1, HO_4, HB⟩ := hrel
   cases gk with
   | zero => exact absurd HA.out (by simp [spec_WrongOnKey.l0])
   | succ k1 =>
    have H := HA.out
    clear HA
    simp only [spec_WrongOnKey.l0] at H
    by_cases c4 : x5_1 < (a0.size : Int)
    ·
     rw [if_pos c4] at H
     have c4b0 : decide (x5_1 < (a0.size : Int)) = true := decide_eq_true c4
     clear c4
     by_cases c5 : 0 ≤ x5_1
     ·
      rw [if_pos c5] at H
      have c5b0 : decide (0 ≤ x5_1) = true := decide_eq_true c5
      clear c5
      replace H := Option.bind_eq_some_iff.mp H
      obtain ⟨⟨t102, t103⟩, A70, H⟩ := H
      replace H : ((spec_prLetters.f t102).bind fun t104 => (spec_WrongOnKey.l1 k1 a0 x4_1 x5_1 t104 0)) = some (r1, r2) := H
      have A7 := Aside0.mk A70
      clear A70
      replace H := Option.bind_eq_some_iff.mp H
      obtain ⟨t104, A80, H⟩ := H
      replace H : (spec_WrongOnKey.l1 k1 a0 x4_1 x5_1 t104 0) = some (r1, r2) := H
      have A8 := Aside0.mk A80
      clear A80
      have H' := Aside0.mk H
      clear H
      have p6 : 0 ≤ (x5_1 : Int) := of_decide_eq_true (by first | (with_reducible assumption) | assumption)
      have q6 : x5_1 < (a0.size : Int) := of_decide_eq_true (by first | (with_reducible assumption) | assumption)
      have hx6 := bt_at a0 x5_1
      replace p6 := eq_true p6
      replace q6 := eq_true q6
      go_wp2_with (first | ((with_reducible refine gate_callee (f := 41) rfl ?_); refine goesL_ (some 23) rfl rfl Tryd.func41 (by kernel_rfl) rfl #[.int .u8 (bt a0 x5_1)] rfl (by (try simp only [List.map_toArray, List.map_cons, List.map_nil]); first | done | rfl | (simp only [List.length_drop, List.length_take]; rfl)) ?_; (with_reducible refine (spec_prKey.calls k1 (bt a0 x5_1) t102 t103 _ A7.out).mono ?_); rintro e w' ⟨rfl, ⟨nd, rfl⟩⟩; refine ⟨_, rfl, ?_⟩) | ((with_reducible refine gate_callee (f := 42) rfl ?_); refine goesL_ (some 27) rfl rfl Tryd.func42 (by kernel_rfl) rfl #[.int .u8 t102] rfl (by (try simp only [List.map_toArray, List.map_cons, List.map_nil]); first | done | rfl | (simp only [List.length_drop, List.length_take]; rfl)) ?_; (with_reducible refine (spec_prLetters.calls t102 t104 _ A8.out).mono ?_); rintro e w' ⟨rfl, ⟨nd, rfl⟩⟩; refine ⟨_, rfl, ?_⟩))
      go_loopg [4, 9] k1 (fun kq v4 v9 w' => ∃ (x4_2 : List ByteArray) (x9_2 : Int), v9 = .int .i64 x9_2 ∧ Aside0 (spec_WrongOnKey.l1 kq a0 x4_2 x5_1 t104 x9_2 = some (r1, r2)) ∧ Aside0 (kq ≤ k1) ∧ Aside0 (Kd.R Kd.string 9 w' w.heap.size (fun _ => True) v4 x4_2) ∧ Aside0 (Below w.heap.size w w'))
      case atStart => exact ⟨(x4_1), (0), (by first | rfl | (simp; done) | (simp [*]; done)), H', ⟨Nat.le_refl _⟩, ⟨by (with_reducible repeat (first | apply Kd.R_alloc | apply Kd.R_drewN | apply Kd.R_drew)); exact HO_4.out⟩, ⟨by repeat (first | (with_reducible first | exact HB.out | apply below_alloc | apply pw_below_drewN | apply below_drew1) | exact HB.out)⟩⟩
      case round =>
       clear H'
       try clear c2
       try clear p2
       try clear c3
       try clear c4
       try clear c4b0
       try clear c5
       try clear c5b0
       try clear p6
       try clear q6
       try clear hx6
       try clear p2
       try clear p6
       try clear q6
       obtain ⟨x4_2, x9_2, rfl, HA, HK2, HO_4, HB⟩ := hrel
       cases gk with
       | zero => exact absurd HA.out (by simp [spec_WrongOnKey.l1])
       | succ k2 =>
        have H := HA.out
        clear HA
        simp only [spec_WrongOnKey.l1] at H
        by_cases c9 : x9_2 < (t104.size : Int)
        ·
         rw [if_pos c9] at H
         have c9b0 : decide (x9_2 < (t104.size : Int)) = true := decide_eq_true c9
         clear c9
         by_cases c10 : 0 ≤ x9_2
         ·
          rw [if_pos c10] at H
          have c10b0 : decide (0 ≤ x9_2) = true := decide_eq_true c10
          clear c10
          by_cases c12 : 0 ≤ x5_1
          ·
           rw [if_pos c12] at H
           have c12b0 : decide (0 ≤ x5_1) = true := decide_eq_true c12
           clear c12
           by_cases c13 : x5_1 < (a0.size : Int)
           ·
            rw [if_pos c13] at H
            have c13b0 : decide (x5_1 < (a0.size : Int)) = true := decide_eq_true c13
            clear c13
            by_cases c15 : (bt t104 x9_2) = (bt a0 x5_1)
            ·
             rw [if_pos c15] at H
             have c15b0 : ((bt t104 x9_2) == (bt a0 x5_1)) = true := beq_iff_eq.mpr c15
             have c15b1 : ((bt t104 x9_2) != (bt a0 x5_1)) = false := bne_eq_false_iff_eq.mpr c15
             clear c15
             have H' := Aside0.mk H
             clear H
             try go_wp2
             have n0_ := Aside0.mk (Kd.R_drew HO_4.out)
             have n1_ := Aside0.mk (below_drew1 HB.out)
             clear HO_4
             clear HB
             have HO_4 := n0_
             have HB := n1_
             clear n0_ n1_
             have p11 : 0 ≤ (x9_2 : Int) := of_decide_eq_true (by first | (with_reducible assumption) | assumption)
             have q11 : x9_2 < (t104.size : Int) := of_decide_eq_true (by first | (with_reducible assumption) | assumption)
             have hx11 := bt_at t104 x9_2
             replace p11 := eq_true p11
             replace q11 := eq_true q11
             have p14 : 0 ≤ (x5_1 : Int) := of_decide_eq_true (by first | (with_reducible assumption) | assumption)
             have q14 : x5_1 < (a0.size : Int) := of_decide_eq_true (by first | (with_reducible assumption) | assumption)
             have hx14 := bt_at a0 x5_1
             replace p14 := eq_true p14
             replace q14 := eq_true q14
             refine start_ (n := 7) (S := fun w' => True) (ds := []) #[false, false, false, false, false, false, false] (by kernel_rfl) rfl rfl trivial (fun hHeld => ?_)
             generalize wr.drew = w16 at HO_4 HB hHeld ⊢
             refine pure_ (i := 0) (N := some 34) (v := ?_) (a' := ?_) #[true, false, false, false, false, false, false] rfl rfl (by kernel_rfl) (fun _ _ _ h => h) (Or.inl ⟨by rfl, ?_⟩) ?_ ?_
             rotate_left
             ·
              intro w'
              go_simp
              with_reducible rfl
             rotate_left
             ·
              simp only [Act.put, List.setIfInBounds_toArray, List.set_cons_zero, List.set_cons_succ, i64_w, i32_w]
              rfl
             refine pure_ (i := 1) (N := some 35) (v := ?_) (a' := ?_) #[true, true, false, false, false, false, false] rfl rfl (by kernel_rfl) (fun _ _ _ h => h) (Or.inl ⟨by rfl, ?_⟩) ?_ ?_
             rotate_left
             ·
              intro w'
              go_simp
              with_reducible rfl
             rotate_left
             ·
              simp only [Act.put, List.setIfInBounds_toArray, List.set_cons_zero, List.set_cons_succ, i64_w, i32_w]
              rfl
             refine pure_ (i := 3) (N := some 37) (v := ?_) (a' := ?_) #[true, true, false, true, false, false, false] rfl rfl (by kernel_rfl) (fun _ _ _ h => h) (Or.inl ⟨by rfl, ?_⟩) ?_ ?_
             rotate_left
             ·
              intro w'
              go_simp
              with_reducible rfl
             rotate_left
             ·
              simp only [Act.put, List.setIfInBounds_toArray, List.set_cons_zero, List.set_cons_succ, i64_w, i32_w]
              rfl
             refine pure_ (i := 4) (N := some 38) (v := ?_) (a' := ?_) #[true, true, false, true, true, false, false] rfl rfl (by kernel_rfl) (fun _ _ _ h => h) (Or.inl ⟨by rfl, ?_⟩) ?_ ?_
             rotate_left
             ·
              intro w'
              go_simp
              with_reducible rfl
             rotate_left
             ·
              simp only [Act.put, List.setIfInBounds_toArray, List.set_cons_zero, List.set_cons_succ, i64_w, i32_w]
              rfl
             refine take_ (i := 2) (N := some 36) (v := ?_) (a' := ?_) #[true, true, true, true, true, false, false] rfl rfl (by kernel_rfl) (fun _ _ _ h => h) (Or.inl ⟨by rfl, ?_⟩) hHeld ?_ ?_
             rotate_left
             ·
              intro w' _
              go_simp
              with_reducible rfl
             rotate_left
             ·
              simp only [Act.put, List.setIfInBounds_toArray, List.set_cons_zero, List.set_cons_succ, i64_w, i32_w]
              rfl
             refine take_ (i := 5) (N := some 39) (v := ?_) (a' := ?_) #[true, true, true, true, true, true, false] rfl rfl (by kernel_rfl) (fun _ _ _ h => h) (Or.inl ⟨by rfl, ?_⟩) hHeld ?_ ?_
             rotate_left
             ·
              intro w' _
              go_simp
              with_reducible rfl
             rotate_left
             ·
              simp only [Act.put, List.setIfInBounds_toArray, List.set_cons_zero, List.set_cons_succ, i64_w, i32_w]
              rfl
             refine pure_ (i := 6) (N := some 40) (v := ?_) (a' := ?_) #[true, true, true, true, true, true, true] rfl rfl (by kernel_rfl) (fun _ _ _ h => h) (Or.inl ⟨by rfl, ?_⟩) ?_ ?_
             rotate_left
             ·
              intro w'
              go_simp
              with_reducible rfl
             rotate_left
             ·
              simp only [Act.put, List.setIfInBounds_toArray, List.set_cons_zero, List.set_cons_succ, i64_w, i32_w]
              rfl
             refine done_ (by kernel_rfl) ?_
             try go_wp2
             go_roundg k2
             case measure => have := HK1.out; have := HK2.out; omega
             case rel => exact ⟨(x4_2), (wrap64 (x9_2 + 1)), (by first | rfl | (simp; done) | (simp [*]; done)), H', ⟨by have := HK1.out; have := HK2.out; omega⟩, ⟨by (with_reducible repeat (first | apply Kd.R_alloc | apply Kd.R_drewN | apply Kd.R_drew)); exact HO_4.out⟩, ⟨by repeat (first | (with_reducible first | exact HB.out | apply below_alloc | apply pw_below_drewN | apply below_drew1) | exact HB.out)⟩⟩
            ·
             rw [if_neg c15] at H
             have c15b0 : ((bt t104 x9_2) == (bt a0 x5_1)) = false := beq_eq_false_iff_ne.mpr c15
             have c15b1 : ((bt t104 x9_2) != (bt a0 x5_1)) = true := bne_iff_ne.mpr c15
             have c17b0 := eq_true (of_decide_eq_true (by first | (with_reducible assumption) | assumption) : 0 ≤ x5_1)
             by_cases c18 : x5_1 ≤ (a0.size : Int)
             ·
              rw [if_pos c18] at H
              have c18b0 := eq_true c18
              have c18b1 : decide (x5_1 ≤ (a0.size : Int)) = true := decide_eq_true c18
              clear c18
              have c19b0 := eq_true (of_decide_eq_true (by first | (with_reducible assumption) | assumption) : 0 ≤ x9_2)
              by_cases c20 : x9_2 ≤ (wrap64 (x9_2 + 1))
              ·
               rw [if_pos c20] at H
               have c20b0 := eq_true c20
               have c20b1 : decide (x9_2 ≤ (wrap64 (x9_2 + 1))) = true := decide_eq_true c20
               by_cases c21 : (wrap64 (x9_2 + 1)) ≤ (t104.size : Int)
               ·
                rw [if_pos c21] at H
                have c21b0 := eq_true c21
                have c21b1 : decide ((wrap64 (x9_2 + 1)) ≤ (t104.size : Int)) = true := decide_eq_true c21
                by_cases c22 : (a0.extract 0 (x5_1 : Int).toNat).size + (t104.extract (x9_2 : Int).toNat ((wrap64 (x9_2 + 1)) : Int).toNat).size ≤ 9223372036854775807
                ·
                 rw [if_pos c22] at H
                 have c22b0 := eq_true c22
                 have c22b1 : decide ((a0.extract 0 (x5_1 : Int).toNat).size + (t104.extract (x9_2 : Int).toNat ((wrap64 (x9_2 + 1)) : Int).toNat).size ≤ 9223372036854775807) = true := decide_eq_true c22
                 try have c22b2 : (9223372036854775807 < (a0.extract 0 (x5_1 : Int).toNat).size + (t104.extract (x9_2 : Int).toNat ((wrap64 (x9_2 + 1)) : Int).toNat).size) = False := eq_false (Nat.not_lt.2 c22)
                 obtain ⟨ji23, hji23⟩ : ∃ j_ : Int, (wrap64 (x5_1 + 1)) = j_ := ⟨_, rfl⟩
                 replace H : (if 0 ≤ (ji23) then (if (ji23) ≤ (a0.size : Int) then (if ((a0.extract 0 (x5_1 : Int).toNat) ++ (t104.extract (x9_2 : Int).toNat ((wrap64 (x9_2 + 1)) : Int).toNat)).size + (a0.extract ((ji23) : Int).toNat a0.size).size ≤ 9223372036854775807 then ((spec_wdPut.f k2 x4_2 (((a0.extract 0 (x5_1 : Int).toNat) ++ (t104.extract (x9_2 : Int).toNat ((wrap64 (x9_2 + 1)) : Int).toNat)) ++ (a0.extract ((ji23) : Int).toNat a0.size))).bind fun t105 => (spec_WrongOnKey.l1 k2 a0 t105 x5_1 t104 (wrap64 (x9_2 + 1)))) else (none)) else (none)) else (none)) = some (r1, r2) := by first | (rw [hji23] at H; exact H) | (simp only [hji23] at H ⊢; exact H)
                 have hji23w : (IntKind.i64.wrap (x5_1 + 1)) = ji23 := (i64_w _).trans hji23
                 by_cases c24 : 0 ≤ (ji23)
                 ·
                  rw [if_pos c24] at H
                  have c24b0 := eq_true c24
                  have c24b1 : decide (0 ≤ (ji23)) = true := decide_eq_true c24
                  clear c24
                  by_cases c25 : (ji23) ≤ (a0.size : Int)
                  ·
                   rw [if_pos c25] at H
                   have c25b0 := eq_true c25
                   have c25b1 : decide ((ji23) ≤ (a0.size : Int)) = true := decide_eq_true c25
                   clear c25
                   by_cases c26 : ((a0.extract 0 (x5_1 : Int).toNat) ++ (t104.extract (x9_2 : Int).toNat ((wrap64 (x9_2 + 1)) : Int).toNat)).size + (a0.extract ((ji23) : Int).toNat a0.size).size ≤ 9223372036854775807
                   ·
                    rw [if_pos c26] at H
                    have c26b0 := eq_true c26
                    have c26b1 : decide (((a0.extract 0 (x5_1 : Int).toNat) ++ (t104.extract (x9_2 : Int).toNat ((wrap64 (x9_2 + 1)) : Int).toNat)).size + (a0.extract ((ji23) : Int).toNat a0.size).size ≤ 9223372036854775807) = true := decide_eq_true c26
                    try have c26b2 : (9223372036854775807 < ((a0.extract 0 (x5_1 : Int).toNat) ++ (t104.extract (x9_2 : Int).toNat ((wrap64 (x9_2 + 1)) : Int).toNat)).size + (a0.extract ((ji23) : Int).toNat a0.size).size) = False := eq_false (Nat.not_lt.2 c26)
                    have hz_ := of_eq_true c26b0
                    have h1_ : x5_1 ≤ (a0.size : Int) := of_decide_eq_true (by first | (with_reducible assumption) | assumption)
                    have h2_ : wrap64 (x9_2 + 1) ≤ (t104.size : Int) := of_decide_eq_true (by first | (with_reducible assumption) | assumption)
                    rw [ByteArray.size_append, ByteArray.size_extract, ByteArray.size_extract, ByteArray.size_extract] at hz_
                    have cmA_ : (9223372036854775807 < x5_1.toNat + ((wrap64 (x9_2 + 1)).toNat - x9_2.toNat)) = False := eq_false (by omega)
                    have cmB_ : (9223372036854775807 < x5_1.toNat + ((wrap64 (x9_2 + 1)).toNat - x9_2.toNat) + (a0.size - ji23.toNat)) = False := eq_false (by omega)
                    clear hz_ h1_ h2_
                    replace H := Option.bind_eq_some_iff.mp H
                    obtain ⟨t105, A270, H⟩ := H
                    replace H : (spec_WrongOnKey.l1 k2 a0 t105 x5_1 t104 (wrap64 (x9_2 + 1))) = some (r1, r2) := H
                    have A27 := Aside0.mk A270
                    clear A270
                    have H' := Aside0.mk H
                    clear H
                    try go_wp2
                    have n0_ := Aside0.mk (Kd.R_drew HO_4.out)
                    have n1_ := Aside0.mk (below_drew1 HB.out)
                    clear HO_4
                    clear HB
                    have HO_4 := n0_
                    have HB := n1_
                    clear n0_ n1_
                    have p11 : 0 ≤ (x9_2 : Int) := of_decide_eq_true (by first | (with_reducible assumption) | assumption)
                    have q11 : x9_2 < (t104.size : Int) := of_decide_eq_true (by first | (with_reducible assumption) | assumption)
                    have hx11 := bt_at t104 x9_2
                    replace p11 := eq_true p11
                    replace q11 := eq_true q11
                    have p14 : 0 ≤ (x5_1 : Int) := of_decide_eq_true (by first | (with_reducible assumption) | assumption)
                    have q14 : x5_1 < (a0.size : Int) := of_decide_eq_true (by first | (with_reducible assumption) | assumption)
                    have hx14 := bt_at a0 x5_1
                    replace p14 := eq_true p14
                    replace q14 := eq_true q14
                    refine start_ (n := 7) (S := fun w' => True) (ds := []) #[false, false, false, false, false, false, false] (by kernel_rfl) rfl rfl trivial (fun hHeld => ?_)
                    generalize wr.drew = w28 at HO_4 HB hHeld ⊢
                    refine pure_ (i := 0) (N := some 34) (v := ?_) (a' := ?_) #[true, false, false, false, false, false, false] rfl rfl (by kernel_rfl) (fun _ _ _ h => h) (Or.inl ⟨by rfl, ?_⟩) ?_ ?_
                    rotate_left
                    ·
                     intro w'
                     go_simp
                     with_reducible rfl
                    rotate_left
                    ·
                     simp only [Act.put, List.setIfInBounds_toArray, List.set_cons_zero, List.set_cons_succ, i64_w, i32_w]
                     rfl
                    refine pure_ (i := 1) (N := some 35) (v := ?_) (a' := ?_) #[true, true, false, false, false, false, false] rfl rfl (by kernel_rfl) (fun _ _ _ h => h) (Or.inl ⟨by rfl, ?_⟩) ?_ ?_
                    rotate_left
                    ·
                     intro w'
                     go_simp
                     with_reducible rfl
                    rotate_left
                    ·
                     simp only [Act.put, List.setIfInBounds_toArray, List.set_cons_zero, List.set_cons_succ, i64_w, i32_w]
                     rfl
                    refine pure_ (i := 3) (N := some 37) (v := ?_) (a' := ?_) #[true, true, false, true, false, false, false] rfl rfl (by kernel_rfl) (fun _ _ _ h => h) (Or.inl ⟨by rfl, ?_⟩) ?_ ?_
                    rotate_left
                    ·
                     intro w'
                     go_simp
                     with_reducible rfl
                    rotate_left
                    ·
                     simp only [Act.put, List.setIfInBounds_toArray, List.set_cons_zero, List.set_cons_succ, i64_w, i32_w]
                     rfl
                    refine pure_ (i := 4) (N := some 38) (v := ?_) (a' := ?_) #[true, true, false, true, true, false, false] rfl rfl (by kernel_rfl) (fun _ _ _ h => h) (Or.inl ⟨by rfl, ?_⟩) ?_ ?_
                    rotate_left
                    ·
                     intro w'
                     go_simp
                     with_reducible rfl
                    rotate_left
                    ·
                     simp only [Act.put, List.setIfInBounds_toArray, List.set_cons_zero, List.set_cons_succ, i64_w, i32_w]
                     rfl
                    refine take_ (i := 2) (N := some 36) (v := ?_) (a' := ?_) #[true, true, true, true, true, false, false] rfl rfl (by kernel_rfl) (fun _ _ _ h => h) (Or.inl ⟨by rfl, ?_⟩) hHeld ?_ ?_
                    rotate_left
                    ·
                     intro w' _
                     go_simp
                     with_reducible rfl
                    rotate_left
                    ·
                     simp only [Act.put, List.setIfInBounds_toArray, List.set_cons_zero, List.set_cons_succ, i64_w, i32_w]
                     rfl
                    refine take_ (i := 5) (N := some 39) (v := ?_) (a' := ?_) #[true, true, true, true, true, true, false] rfl rfl (by kernel_rfl) (fun _ _ _ h => h) (Or.inl ⟨by rfl, ?_⟩) hHeld ?_ ?_
                    rotate_left
                    ·
                     intro w' _
                     go_simp
                     with_reducible rfl
                    rotate_left
                    ·
                     simp only [Act.put, List.setIfInBounds_toArray, List.set_cons_zero, List.set_cons_succ, i64_w, i32_w]
                     rfl
                    refine pure_ (i := 6) (N := some 40) (v := ?_) (a' := ?_) #[true, true, true, true, true, true, true] rfl rfl (by kernel_rfl) (fun _ _ _ h => h) (Or.inl ⟨by rfl, ?_⟩) ?_ ?_
                    rotate_left
                    ·
                     intro w'
                     go_simp
                     with_reducible rfl
                    rotate_left
                    ·
                     simp only [Act.put, List.setIfInBounds_toArray, List.set_cons_zero, List.set_cons_succ, i64_w, i32_w]
                     rfl
                    refine done_ (by kernel_rfl) ?_
                    try go_wp2
                    have n0_ := Aside0.mk (Kd.R_drew HO_4.out)
                    have n1_ := Aside0.mk (below_drew1 HB.out)
                    clear HO_4
                    clear HB
                    have HO_4 := n0_
                    have HB := n1_
                    clear n0_ n1_
                    obtain ⟨Ao30, co30, eo30⟩ := Kd.R_slice HO_4.out
                    (first | subst eo30 | (injection eo30 with f1_ f2_ f3_; have f4_ := f1_.symm; have f5_ := f3_.symm; clear f1_ f2_ f3_; subst f4_; subst f5_))
                    refine start_ (n := 17) (S := fun w' => True) (ds := []) #[false, false, false, false, false, false, false, false, false, false, false, false, false, false, false, false, false] (by kernel_rfl) rfl rfl trivial (fun hHeld => ?_); refine with_tabW spec_WrongOnKey.tab13 spec_WrongOnKey.bits13 (fun HT_ HW_ => ?_)
                    generalize w28.drew = w29 at HO_4 HB hHeld ⊢
                    refine pure_ (i := 0) (N := some 41) (v := ?_) (a' := ?_) #[true, false, false, false, false, false, false, false, false, false, false, false, false, false, false, false, false] rfl rfl (any_of HT_.out (by kernel_rfl)) (fun _ _ _ h => h) (Or.inl ⟨by rfl, ?_⟩) ?_ ?_
                    rotate_left
                    ·
                     intro w'
                     go_simp
                     with_reducible rfl
                    rotate_left
                    ·
                     simp only [Act.put, List.setIfInBounds_toArray, List.set_cons_zero, List.set_cons_succ, i64_w, i32_w]
                     rfl
                    refine pure_ (i := 1) (N := some 42) (v := ?_) (a' := ?_) #[true, true, false, false, false, false, false, false, false, false, false, false, false, false, false, false, false] rfl rfl (any_of HT_.out (by kernel_rfl)) (fun _ _ _ h => h) (Or.inl ⟨by rfl, ?_⟩) ?_ ?_
                    rotate_left
                    ·
                     intro w'
                     go_simp
                     with_reducible rfl
                    rotate_left
                    ·
                     simp only [Act.put, List.setIfInBounds_toArray, List.set_cons_zero, List.set_cons_succ, i64_w, i32_w]
                     rfl
                    refine pure_ (i := 2) (N := some 43) (v := ?_) (a' := ?_) #[true, true, true, false, false, false, false, false, false, false, false, false, false, false, false, false, false] rfl rfl (any_of HT_.out (by kernel_rfl)) (fun _ _ _ h => h) (Or.inl ⟨by rfl, ?_⟩) ?_ ?_
                    rotate_left
                    ·
                     intro w'
                     go_simp
                     with_reducible rfl
                    rotate_left
                    ·
                     simp only [Act.put, List.setIfInBounds_toArray, List.set_cons_zero, List.set_cons_succ, i64_w, i32_w]
                     rfl
                    refine pure_ (i := 3) (N := some 44) (v := ?_) (a' := ?_) #[true, true, true, true, false, false, false, false, false, false, false, false, false, false, false, false, false] rfl rfl (any_of HT_.out (by kernel_rfl)) (fun _ _ _ h => h) (Or.inl ⟨by rfl, ?_⟩) ?_ ?_
                    rotate_left
                    ·
                     intro w'
                     go_simp
                     with_reducible rfl
                    rotate_left
                    ·
                     simp only [Act.put, List.setIfInBounds_toArray, List.set_cons_zero, List.set_cons_succ, i64_w, i32_w]
                     rfl
                    refine pure_ (i := 4) (N := some 45) (v := ?_) (a' := ?_) #[true, true, true, true, true, false, false, false, false, false, false, false, false, false, false, false, false] rfl rfl (any_of HT_.out (by kernel_rfl)) (fun _ _ _ h => h) (Or.inl ⟨by rfl, ?_⟩) ?_ ?_
                    rotate_left
                    ·
                     intro w'
                     go_simp
                     with_reducible rfl
                    rotate_left
                    ·
                     simp only [Act.put, List.setIfInBounds_toArray, List.set_cons_zero, List.set_cons_succ, i64_w, i32_w]
                     rfl
                    refine pure_ (i := 5) (N := some 46) (v := ?_) (a' := ?_) #[true, true, true, true, true, true, false, false, false, false, false, false, false, false, false, false, false] rfl rfl (any_of HT_.out (by kernel_rfl)) (fun _ _ _ h => h) (Or.inl ⟨by rfl, ?_⟩) ?_ ?_
                    rotate_left
                    ·
                     intro w'
                     go_simp
                     with_reducible rfl
                    rotate_left
                    ·
                     simp only [Act.put, List.setIfInBounds_toArray, List.set_cons_zero, List.set_cons_succ, i64_w, i32_w]
                     rfl
                    refine pure_ (i := 6) (N := some 47) (v := ?_) (a' := ?_) #[true, true, true, true, true, true, true, false, false, false, false, false, false, false, false, false, false] rfl rfl (any_of HT_.out (by kernel_rfl)) (fun _ _ _ h => h) (Or.inl ⟨by rfl, ?_⟩) ?_ ?_
                    rotate_left
                    ·
                     intro w'
                     go_simp
                     with_reducible rfl
                    rotate_left
                    ·
                     simp only [Act.put, List.setIfInBounds_toArray, List.set_cons_zero, List.set_cons_succ, i64_w, i32_w]
                     rfl
                    refine pure_ (i := 7) (N := some 48) (v := ?_) (a' := ?_) #[true, true, true, true, true, true, true, true, false, false, false, false, false, false, false, false, false] rfl rfl (any_of HT_.out (by kernel_rfl)) (fun _ _ _ h => h) (Or.inl ⟨by rfl, ?_⟩) ?_ ?_
                    rotate_left
                    ·
                     intro w'
                     go_simp
                     with_reducible rfl
                    rotate_left
                    ·
                     simp only [Act.put, List.setIfInBounds_toArray, List.set_cons_zero, List.set_cons_succ, i64_w, i32_w]
                     rfl
                    refine pure_ (i := 8) (N := some 49) (v := ?_) (a' := ?_) #[true, true, true, true, true, true, true, true, true, false, false, false, false, false, false, false, false] rfl rfl (any_of HT_.out (by kernel_rfl)) (fun _ _ _ h => h) (Or.inl ⟨by rfl, ?_⟩) ?_ ?_
                    rotate_left
                    ·
                     intro w'
                     go_simp
                     with_reducible rfl
                    rotate_left
                    ·
                     simp only [Act.put, List.setIfInBounds_toArray, List.set_cons_zero, List.set_cons_succ, i64_w, i32_w]
                     rfl
                    refine pure_ (i := 9) (N := some 50) (v := ?_) (a' := ?_) #[true, true, true, true, true, true, true, true, true, true, false, false, false, false, false, false, false] rfl rfl (any_of HT_.out (by kernel_rfl)) (fun _ _ _ h => h) (Or.inl ⟨by rfl, ?_⟩) ?_ ?_
                    rotate_left
                    ·
                     intro w'
                     go_simp
                     with_reducible rfl
                    rotate_left
                    ·
                     simp only [Act.put, List.setIfInBounds_toArray, List.set_cons_zero, List.set_cons_succ, i64_w, i32_w]
                     rfl
                    refine pure_ (i := 10) (N := some 51) (v := ?_) (a' := ?_) #[true, true, true, true, true, true, true, true, true, true, true, false, false, false, false, false, false] rfl rfl (any_of HT_.out (by kernel_rfl)) (fun _ _ _ h => h) (Or.inl ⟨by rfl, ?_⟩) ?_ ?_
                    rotate_left
                    ·
                     intro w'
                     go_simp
                     with_reducible rfl
                    rotate_left
                    ·
                     simp only [Act.put, List.setIfInBounds_toArray, List.set_cons_zero, List.set_cons_succ, i64_w, i32_w]
                     rfl
                    refine pure_ (i := 11) (N := some 52) (v := ?_) (a' := ?_) #[true, true, true, true, true, true, true, true, true, true, true, true, false, false, false, false, false] rfl rfl (any_of HT_.out (by kernel_rfl)) (fun _ _ _ h => h) (Or.inl ⟨by rfl, ?_⟩) ?_ ?_
                    rotate_left
                    ·
                     intro w'
                     go_simp
                     with_reducible rfl
                    rotate_left
                    ·
                     simp only [Act.put, List.setIfInBounds_toArray, List.set_cons_zero, List.set_cons_succ, i64_w, i32_w]
                     rfl
                    refine pure_ (i := 12) (N := some 53) (v := ?_) (a' := ?_) #[true, true, true, true, true, true, true, true, true, true, true, true, true, false, false, false, false] rfl rfl (any_of HT_.out (by kernel_rfl)) (fun _ _ _ h => h) (Or.inl ⟨by rfl, ?_⟩) ?_ ?_
                    rotate_left
                    ·
                     intro w'
                     go_simp
                     with_reducible rfl
                    rotate_left
                    ·
                     simp only [Act.put, List.setIfInBounds_toArray, List.set_cons_zero, List.set_cons_succ, i64_w, i32_w]
                     rfl
                    refine pure_ (i := 13) (N := some 54) (v := ?_) (a' := ?_) #[true, true, true, true, true, true, true, true, true, true, true, true, true, true, false, false, false] rfl rfl (any_of HT_.out (by kernel_rfl)) (fun _ _ _ h => h) (Or.inl ⟨by rfl, ?_⟩) ?_ ?_
                    rotate_left
                    ·
                     intro w'
                     go_simp
                     with_reducible rfl
                    rotate_left
                    ·
                     simp only [Act.put, List.setIfInBounds_toArray, List.set_cons_zero, List.set_cons_succ, i64_w, i32_w]
                     rfl
                    refine pure_ (i := 14) (N := some 55) (v := ?_) (a' := ?_) #[true, true, true, true, true, true, true, true, true, true, true, true, true, true, true, false, false] rfl rfl (any_of HT_.out (by kernel_rfl)) (fun _ _ _ h => h) (Or.inl ⟨by rfl, ?_⟩) ?_ ?_
                    rotate_left
                    ·
                     intro w'
                     go_simp
                     with_reducible rfl
                    rotate_left
                    ·
                     simp only [Act.put, List.setIfInBounds_toArray, List.set_cons_zero, List.set_cons_succ, i64_w, i32_w]
                     rfl
                    refine one_ (i := 15) (N := some 56) #[true, true, true, true, true, true, true, true, true, true, true, true, true, true, true, true, false] rfl rfl (one_of HT_.out (by kernel_rfl)) (by decide) (fun K hK => ?_)
                    refine goes_ Tryd.func37 (by kernel_rfl) rfl #[.slice Ao30 x4_2.length co30, .string (((a0.extract 0 (x5_1 : Int).toNat) ++ (t104.extract (x9_2 : Int).toNat ((wrap64 (x9_2 + 1)) : Int).toNat)) ++ (a0.extract ((ji23) : Int).toNat a0.size))] (by rfl) rfl rfl (by (try simp only [List.map_toArray, List.map_cons, List.map_nil]); first | done | (simp only [hji23]; rfl) | rfl | (simp only [List.length_drop, List.length_take]; rfl)) ?_
                    with_reducible refine (spec_wdPut.calls k2 (fun k_ => some k_ = (.slice Ao30 x4_2.length co30 : Value).ownBlock) (.slice Ao30 x4_2.length co30) x4_2 (((a0.extract 0 (x5_1 : Int).toNat) ++ (t104.extract (x9_2 : Int).toNat ((wrap64 (x9_2 + 1)) : Int).toNat)) ++ (a0.extract ((ji23) : Int).toNat a0.size)) t105 w _ ?side1 ?side2 A27.out).mono ?_
                    (case side1 => repeat (first | (with_reducible first | exact HB.out | apply below_alloc | apply pw_below_drewN | apply below_drew1) | exact HB.out))
                    (case side2 => exact Kd.R_tight rfl HO_4.out)
                    rintro e w31 ⟨v106, rfl, ho0, hb, hkp⟩
                    refine ⟨_, rfl, ?_⟩
                    have n0_ := Aside0.mk (Kd.R_mono (ok' := fun k_ => True) ho0 (fun k_ hk_ => trivial))
                    have n1_ := Aside0.mk (hb)
                    clear HB
                    clear HO_4
                    have HO107 := n0_
                    have HB := n1_
                    clear n0_ n1_
                    (try clear hb)
                    (try clear hkp)
                    (try clear ho0)
                    refine hK.out _ _ trivial (fun hHeld => ?_)
                    clear hK K
                    refine norm_ (a' := ?_) ?_ ?_
                    rotate_left
                    ·
                     show Act.put _ (some 56) _ = _
                     simp only [Act.put, List.setIfInBounds_toArray, List.set_cons_zero, List.set_cons_succ, i64_w, i32_w]
                     rfl
                    refine pure_ (i := 16) (N := some 4) (v := ?_) (a' := ?_) #[true, true, true, true, true, true, true, true, true, true, true, true, true, true, true, true, true] rfl rfl (any_of HT_.out (by kernel_rfl)) (fun _ _ _ h => h) (Or.inl ⟨by rfl, ?_⟩) ?_ ?_
                    rotate_left
                    ·
                     intro w'
                     go_simp
                     with_reducible rfl
                    rotate_left
                    ·
                     simp only [Act.put, List.setIfInBounds_toArray, List.set_cons_zero, List.set_cons_succ, i64_w, i32_w]
                     rfl
                    refine done_ (done_of HT_.out (by kernel_rfl)) ?_
                    try go_wp2
                    go_roundg k2
                    case measure => have := HK1.out; have := HK2.out; omega
                    case rel => exact ⟨(t105), (wrap64 (x9_2 + 1)), (by first | rfl | (simp; done) | (simp [*]; done)), H', ⟨by have := HK1.out; have := HK2.out; omega⟩, ⟨by (with_reducible repeat (first | apply Kd.R_alloc | apply Kd.R_drewN | apply Kd.R_drew)); exact HO107.out⟩, ⟨by repeat (first | (with_reducible first | exact HB.out | apply below_alloc | apply pw_below_drewN | apply below_drew1) | exact HB.out)⟩⟩
                   ·
                    rw [if_neg c26] at H
                    exact absurd H (by simp)
                  ·
                   rw [if_neg c25] at H
                   exact absurd H (by simp)
                 ·
                  rw [if_neg c24] at H
                  exact absurd H (by simp)
                ·
                 rw [if_neg c22] at H
                 exact absurd H (by simp)
               ·
                rw [if_neg c21] at H
                exact absurd H (by simp)
              ·
               rw [if_neg c20] at H
               exact absurd H (by simp)
             ·
              rw [if_neg c18] at H
              exact absurd H (by simp)
           ·
            rw [if_neg c13] at H
            exact absurd H (by simp)
          ·
           rw [if_neg c12] at H
           exact absurd H (by simp)
         ·
          rw [if_neg c10] at H
          exact absurd H (by simp)
        ·
         rw [if_neg c9] at H
         have c9b0 : decide (x9_2 < (t104.size : Int)) = false := decide_eq_false c9
         clear c9
         have H' := Aside0.mk H
         clear H
         go_wp2
         go_roundg k2
         case measure => have := HK1.out; have := HK2.out; omega
         case rel => exact ⟨(x4_2), (wrap64 (x5_1 + 1)), (by first | rfl | (simp; done) | (simp [*]; done)), H', ⟨by have := HK1.out; have := HK2.out; omega⟩, ⟨by (with_reducible repeat (first | apply Kd.R_alloc | apply Kd.R_drewN | apply Kd.R_drew)); exact HO_4.out⟩, ⟨by repeat (first | (with_reducible first | exact HB.out | apply below_alloc | apply pw_below_drewN | apply below_drew1) | exact HB.out)⟩⟩
     ·
      rw [if_neg c5] at H
      exact absurd H (by simp)
    ·
     rw [if_neg c4] at H
     have c4b0 : decide (x5_1 < (a0.size : Int)) = false := decide_eq_false c4
     clear c4
     simp only [Option.some.injEq, Prod.mk.injEq] at H
     obtain ⟨rfl, rfl⟩ := H
     go_wp2
     go_ret2
     exact ⟨_, by first | rfl | (simp [errW_none, errW_some] <;> rfl) | (simp [*, errW_none, errW_some] <;> rfl), by (with_reducible repeat (first | apply Kd.R_alloc | apply Kd.R_drewN | apply Kd.R_drew)); exact HO_4.out, by repeat (first | (with_reducible first | exact HB.out | apply below_alloc | apply pw_below_drewN | apply below_drew1) | exact HB.out)⟩
 ·
  replace c3 := Bool.eq_false_iff.mpr c3
  subst c3
  have H1 : (some (([] : List ByteArray), false)) = some (r1, r2) := by rw [if_neg (show ¬ (false = true) by decide)] at H; exact H
  clear H
  have H := H1
  clear H1
  simp only [Option.some.injEq, Prod.mk.injEq] at H
  obtain ⟨rfl, rfl⟩ := H
  go_enter Tryd.func25, Tryd.ntmps25
  go_wp2_with (first | ((with_reducible refine gate_callee (f := 40) rfl ?_); refine goesL_ (some 11) rfl rfl Tryd.func40 (by kernel_rfl) rfl #[.string a0] rfl (by (try simp only [List.map_toArray, List.map_cons, List.map_nil]); first | done | rfl | (simp only [List.length_drop, List.length_take]; rfl)) ?_; (with_reducible refine (spec_wdWord.calls k a0 false _ A2.out).mono ?_); rintro e w' ⟨rfl, ⟨nd, rfl⟩⟩; refine ⟨_, rfl, ?_⟩))
  go_ret2
  exact ⟨_, by first | rfl | (simp [errW_none, errW_some] <;> rfl) | (simp [*, errW_none, errW_some] <;> rfl), by first | exact Kd.R_nil _ _ _ _ _ | exact Kd.N_nil _ _ _ _ _ | exact Kd.V_nil _ _ _ _ _ | exact Kd.Q_nil _ _ _ _ _ | exact Kd.S_nil _ _ _ _ _, by repeat (first | (with_reducible first | exact HB.out | apply below_alloc | apply pw_below_drewN | apply below_drew1) | exact HB.out)⟩

end Go.Proofs.YtcidlaabbkimdaaDoor.P

-- printed by xprint.py
namespace Go.Proofs.YtcidlaabbkimdaaDoor.P
open Go.RowKit Go.Proofs.YtcidlaabbkimdaaDoorW.PrintWords Go.Proofs.YtcidlaabbkimdaaDoorW.PrintLast Go.Proofs.YtcidlaabbkimdaaDoorW.PrintMore
attribute [local go_sem] max2_int min2_int max_two min_two max_three min_three max_four min_four   -- for this text's walks alone
set_option linter.unusedVariables false
set_option linter.unusedSimpArgs false

/-! ### laws_FnExactWrongOnKey: function 9 -/
mutual
def laws_FnExactWrongOnKey.j0 : Nat → ByteArray → List ByteArray → Bool → List ByteArray → Bool → Option (Bool)
 | 0, _, _, _, _, _ => none
 | k + 1, x0, x3, x4, x5, x32 => if x32 = true then (some false) else ((laws_markStringS.f k x5 1).bind fun bt110 => ((laws_heldStringS.f k bt110.2 1).bind fun t112 => (if t112 < 0 then (some false) else (if t112 = bt110.1 then ((impl_WrongOnKey.f k x0).bind fun bt113 => ((laws_eqStringS.f k bt113.1 x3).bind fun t117 => (if t117 = true then (laws_FnExactWrongOnKey.j1 k bt110.2 bt110.1 (bt113.2 != x4)) else (laws_FnExactWrongOnKey.j1 k bt110.2 bt110.1 true)))) else (some false)))))
def laws_FnExactWrongOnKey.j1 : Nat → List ByteArray → Int → Bool → Option (Bool)
 | 0, _, _, _ => none
 | k + 1, x5, x7, x57 => if x57 = true then (some false) else ((laws_heldStringS.f k x5 1).bind fun t118 => (if t118 < 0 then (some false) else (if t118 = x7 then (some true) else (some false))))
end
def laws_FnExactWrongOnKey.f (k : Nat) (a0 : ByteArray) : Option (Bool) := if (a0.size : Int) > 1048576 then (some true) else ((spec_WrongOnKey.f k a0).bind fun bt101 => ((impl_WrongOnKey.f k a0).bind fun bt105 => ((laws_eqStringS.f k bt105.1 bt101.1).bind fun t109 => (if t109 = true then (laws_FnExactWrongOnKey.j0 k a0 bt101.1 bt101.2 bt105.1 (bt105.2 != bt101.2)) else (laws_FnExactWrongOnKey.j0 k a0 bt101.1 bt101.2 bt105.1 true)))))
theorem laws_FnExactWrongOnKey.mono_l : ∀ k, (∀ y0 y1 y2 y3 y4, LeO (laws_FnExactWrongOnKey.j0 k y0 y1 y2 y3 y4) (laws_FnExactWrongOnKey.j0 (k + 1) y0 y1 y2 y3 y4)) ∧ (∀ y0 y1 y2, LeO (laws_FnExactWrongOnKey.j1 k y0 y1 y2) (laws_FnExactWrongOnKey.j1 (k + 1) y0 y1 y2))
 | 0 => ⟨by intros; intro r h; simp [laws_FnExactWrongOnKey.j0] at h, by intros; intro r h; simp [laws_FnExactWrongOnKey.j1] at h⟩
 | k + 1 => by
  obtain ⟨ih0, ih1⟩ := laws_FnExactWrongOnKey.mono_l k
  refine ⟨?_, ?_⟩
  ·
   intro y0 y1 y2 y3 y4
   unfold laws_FnExactWrongOnKey.j0
   repeat' first
   | (with_reducible exact ih0 _ _ _ _ _)
   | (with_reducible exact ih1 _ _ _)
   | (with_reducible exact impl_WrongOnKey.mono _ _)
   | (with_reducible exact laws_eqStringS.mono _ _ _)
   | (with_reducible exact laws_heldStringS.mono _ _ _)
   | (with_reducible exact laws_markStringS.mono _ _ _)
   | (with_reducible exact spec_WrongOnKey.mono _ _)
   | (with_reducible exact LeO.refl _)
   | (with_reducible exact LeO.none _)
   | (with_reducible refine LeO.ite ?_ ?_)
   | (with_reducible refine LeO.bind ?_ (fun _ => ?_))
   | exact ih0 _ _ _ _ _
   | exact ih1 _ _ _
   | exact impl_WrongOnKey.mono _ _
   | exact laws_eqStringS.mono _ _ _
   | exact laws_heldStringS.mono _ _ _
   | exact laws_markStringS.mono _ _ _
   | exact spec_WrongOnKey.mono _ _
   | exact LeO.none _
   | refine LeO.ite ?_ ?_
   | refine LeO.bind ?_ (fun _ => ?_)
  ·
   intro y0 y1 y2
   unfold laws_FnExactWrongOnKey.j1
   repeat' first
   | (with_reducible exact ih0 _ _ _ _ _)
   | (with_reducible exact ih1 _ _ _)
   | (with_reducible exact impl_WrongOnKey.mono _ _)
   | (with_reducible exact laws_eqStringS.mono _ _ _)
   | (with_reducible exact laws_heldStringS.mono _ _ _)
   | (with_reducible exact laws_markStringS.mono _ _ _)
   | (with_reducible exact spec_WrongOnKey.mono _ _)
   | (with_reducible exact LeO.refl _)
   | (with_reducible exact LeO.none _)
   | (with_reducible refine LeO.ite ?_ ?_)
   | (with_reducible refine LeO.bind ?_ (fun _ => ?_))
   | exact ih0 _ _ _ _ _
   | exact ih1 _ _ _
   | exact impl_WrongOnKey.mono _ _
   | exact laws_eqStringS.mono _ _ _
   | exact laws_heldStringS.mono _ _ _
   | exact laws_markStringS.mono _ _ _
   | exact spec_WrongOnKey.mono _ _
   | exact LeO.none _
   | refine LeO.ite ?_ ?_
   | refine LeO.bind ?_ (fun _ => ?_)
theorem laws_FnExactWrongOnKey.mono : ∀ y0 k, LeO (laws_FnExactWrongOnKey.f k y0) (laws_FnExactWrongOnKey.f (k + 1) y0) := by
 intro y0 k
 obtain ⟨ih0, ih1⟩ := laws_FnExactWrongOnKey.mono_l k
 unfold laws_FnExactWrongOnKey.f
 repeat' first
   | (with_reducible exact ih0 _ _ _ _ _)
   | (with_reducible exact ih1 _ _ _)
   | (with_reducible exact impl_WrongOnKey.mono _ _)
   | (with_reducible exact laws_eqStringS.mono _ _ _)
   | (with_reducible exact laws_heldStringS.mono _ _ _)
   | (with_reducible exact laws_markStringS.mono _ _ _)
   | (with_reducible exact spec_WrongOnKey.mono _ _)
   | (with_reducible exact LeO.refl _)
   | (with_reducible exact LeO.none _)
   | (with_reducible refine LeO.ite ?_ ?_)
   | (with_reducible refine LeO.bind ?_ (fun _ => ?_))
   | exact ih0 _ _ _ _ _
   | exact ih1 _ _ _
   | exact impl_WrongOnKey.mono _ _
   | exact laws_eqStringS.mono _ _ _
   | exact laws_heldStringS.mono _ _ _
   | exact laws_markStringS.mono _ _ _
   | exact spec_WrongOnKey.mono _ _
   | exact LeO.none _
   | refine LeO.ite ?_ ?_
   | refine LeO.bind ?_ (fun _ => ?_)
set_option maxHeartbeats 8000000 in
set_option maxRecDepth 100000 in
theorem laws_FnExactWrongOnKey.calls (k : Nat) (a0 : ByteArray) (r : Bool) (w : World) (h : laws_FnExactWrongOnKey.f k a0 = some r) :
  Calls Tryd.prog 9 #[.string a0] w fun e w' => e = .returned (.bool r) ∧ Below w.heap.size w w' := by
 have HB := Aside0.mk (Below.refl w.heap.size w)
 have H : (if (a0.size : Int) > 1048576 then (some true) else ((spec_WrongOnKey.f k a0).bind fun bt101 => ((impl_WrongOnKey.f k a0).bind fun bt105 => ((laws_eqStringS.f k bt105.1 bt101.1).bind fun t109 => (if t109 = true then (laws_FnExactWrongOnKey.j0 k a0 bt101.1 bt101.2 bt105.1 (bt105.2 != bt101.2)) else (laws_FnExactWrongOnKey.j0 k a0 bt101.1 bt101.2 bt105.1 true)))))) = some r := h
 clear h
 by_cases c2 : (a0.size : Int) > 1048576
 ·
  rw [if_pos c2] at H
  have c2b0 : decide (1048576 < (a0.size : Int)) = true := decide_eq_true c2
  have c2b1 : decide (1048576 < a0.size) = true := decide_eq_true (by omega)
  clear c2
  obtain rfl := Option.some.inj H
  go_enter Tryd.func9, Tryd.ntmps9
  go_wp2
  go_ret
  exact ⟨by first | rfl | (simp [errW_none, errW_some] <;> rfl) | (simp [*, errW_none, errW_some] <;> rfl), by repeat (first | (with_reducible first | exact HB.out | apply below_alloc | apply pw_below_drewN | apply below_drew1) | exact HB.out)⟩
 ·
  rw [if_neg c2] at H
  have c2b0 : decide (1048576 < (a0.size : Int)) = false := decide_eq_false c2
  have c2b1 : decide (1048576 < a0.size) = false := decide_eq_false (by omega)
  clear c2
  replace H := Option.bind_eq_some_iff.mp H
  obtain ⟨⟨t101, t102⟩, A30, H⟩ := H
  replace H : ((impl_WrongOnKey.f k a0).bind fun bt105 => ((laws_eqStringS.f k bt105.1 t101).bind fun t109 => (if t109 = true then (laws_FnExactWrongOnKey.j0 k a0 t101 t102 bt105.1 (bt105.2 != t102)) else (laws_FnExactWrongOnKey.j0 k a0 t101 t102 bt105.1 true)))) = some r := H
  have A3 := Aside0.mk A30
  clear A30
  replace H := Option.bind_eq_some_iff.mp H
  obtain ⟨⟨t105, t106⟩, A40, H⟩ := H
  replace H : ((laws_eqStringS.f k t105 t101).bind fun t109 => (if t109 = true then (laws_FnExactWrongOnKey.j0 k a0 t101 t102 t105 (t106 != t102)) else (laws_FnExactWrongOnKey.j0 k a0 t101 t102 t105 true))) = some r := H
  have A4 := Aside0.mk A40
  clear A40
  have HC5 := Aside0.mk H
  clear H
  go_enter Tryd.func9, Tryd.ntmps9
  go_upto_region 5 with (first | ((with_reducible refine gate_callee (f := 25) rfl ?_); refine goesL_ (some 16) rfl rfl Tryd.func25 (by kernel_rfl) rfl #[.string a0] rfl (by (try simp only [List.map_toArray, List.map_cons, List.map_nil]); first | done | rfl | (simp only [List.length_drop, List.length_take]; rfl)) ?_; (with_reducible refine (spec_WrongOnKey.calls k a0 t101 t102 _ A3.out).mono ?_); rintro e w6 ⟨v103, rfl, ho0, hb⟩; refine ⟨_, rfl, ?_⟩; have n0_ := Aside0.mk (Kd.R_lower ho0 (below_size (by repeat (first | (with_reducible first | exact HB.out | apply below_alloc | apply pw_below_drewN | apply below_drew1) | exact HB.out)))); have n1_ := Aside0.mk (below_step (by repeat (first | (with_reducible first | exact HB.out | apply below_alloc | apply pw_below_drewN | apply below_drew1) | exact HB.out)) hb); clear HB; have HO104 := n0_; have HB := n1_; clear n0_ n1_; (try clear hb); (try clear hb2); (try clear hk); (try clear hi); (try clear ho0)) | ((with_reducible refine gate_callee (f := 26) rfl ?_); refine goesL_ (some 21) rfl rfl Tryd.func26 (by kernel_rfl) rfl #[.string a0] rfl (by (try simp only [List.map_toArray, List.map_cons, List.map_nil]); first | done | rfl | (simp only [List.length_drop, List.length_take]; rfl)) ?_; (with_reducible refine (impl_WrongOnKey.calls k a0 t105 t106 _ A4.out).mono ?_); rintro e w7 ⟨v107, rfl, ho0, hb⟩; refine ⟨_, rfl, ?_⟩; have n0_ := Aside0.mk (Kd.R_elder' (by (with_reducible repeat (first | apply Kd.R_alloc | apply Kd.R_drewN | apply Kd.R_drew)); exact HO104.out) (Kd.R_base ho0) hb); have n1_ := Aside0.mk (Kd.R_lower (Kd.R_new' ho0 (Kd.R_lt (by (with_reducible repeat (first | apply Kd.R_alloc | apply Kd.R_drewN | apply Kd.R_drew)); exact HO104.out))) (below_size (by repeat (first | (with_reducible first | exact HB.out | apply below_alloc | apply pw_below_drewN | apply below_drew1) | exact HB.out)))); have n2_ := Aside0.mk (below_step (by repeat (first | (with_reducible first | exact HB.out | apply below_alloc | apply pw_below_drewN | apply below_drew1) | exact HB.out)) hb); clear HO104; clear HB; have HO104 := n0_; have HO108 := n1_; have HB := n2_; clear n0_ n1_ n2_; (try clear hb); (try clear hb2); (try clear hk); (try clear hi); (try clear ho0)))
  (try simp only [Act.put, List.setIfInBounds_toArray, List.set_cons_zero, List.set_cons_succ])
  go_cut [32] (fun v32 wc => ∃ (kq : Nat) (x32_4 : Bool), v32 = .bool x32_4 ∧ Aside0 (laws_FnExactWrongOnKey.j0 kq a0 t101 t102 t105 x32_4 = some r) ∧ Aside0 (kq ≤ k) ∧ Aside0 (Kd.R Kd.string 9 wc w.heap.size (fun k_ => some k_ ≠ (v107 : Value).ownBlock) v103 t101) ∧ Aside0 (Kd.R Kd.string 9 wc w.heap.size (fun k_ => some k_ ≠ (v103 : Value).ownBlock) v107 t105) ∧ Aside0 (Below w.heap.size w wc))
  case first =>
   have H := HC5.out
   clear HC5
   replace H := Option.bind_eq_some_iff.mp H
   obtain ⟨t109, A80, H⟩ := H
   replace H : (if t109 = true then (laws_FnExactWrongOnKey.j0 k a0 t101 t102 t105 (t106 != t102)) else (laws_FnExactWrongOnKey.j0 k a0 t101 t102 t105 true)) = some r := H
   have A8 := Aside0.mk A80
   clear A80
   by_cases c9 : t109 = true
   ·
    subst c9
    have H1 : (laws_FnExactWrongOnKey.j0 k a0 t101 t102 t105 (t106 != t102)) = some r := by rw [if_pos rfl] at H; exact H
    clear H
    have H := H1
    clear H1
    have H' := Aside0.mk H
    clear H
    obtain ⟨Ao10, co10, eo10⟩ := Kd.R_slice HO108.out
    subst eo10
    obtain ⟨Ao11, co11, eo11⟩ := Kd.R_slice HO104.out
    subst eo11
    go_wp2_with (first | ((with_reducible refine gate_callee (f := 22) rfl ?_); refine goesL_ (some 26) rfl rfl Tryd.func22 (by kernel_rfl) rfl #[.slice Ao10 t105.length co10, .slice Ao11 t101.length co11] rfl (by (try simp only [List.map_toArray, List.map_cons, List.map_nil]); first | done | rfl | (simp only [List.length_drop, List.length_take]; rfl)) ?_; (with_reducible refine (laws_eqStringS.calls k _ _ t105 _ _ t101 true _ ?side1 ?side2 ?side3 ?side4 A8.out).mono ?_); (case side1 => repeat (first | exact (Kd.R_reads' HO108.out).2.2 | (with_reducible refine Kd.C_alloc ?_ _) | (with_reducible refine Kd.C_drewN ?_ _) | (with_reducible refine Kd.C_drew ?_))); (case side2 => exact (Kd.R_reads' HO108.out).2.1); (case side3 => repeat (first | exact (Kd.R_reads' HO104.out).2.2 | (with_reducible refine Kd.C_alloc ?_ _) | (with_reducible refine Kd.C_drewN ?_ _) | (with_reducible refine Kd.C_drew ?_))); (case side4 => exact (Kd.R_reads' HO104.out).2.1); rintro e w' ⟨rfl, ⟨nd, rfl⟩⟩; refine ⟨_, rfl, ?_⟩))
    go_meet
    case rel => exact ⟨_, ((t106 != t102)), (by first | rfl | (simp; done) | (simp [*]; done)), H', ⟨by first | omega | exact Nat.le_refl _⟩, ⟨by (with_reducible repeat (first | apply Kd.R_alloc | apply Kd.R_drewN | apply Kd.R_drew)); exact Kd.R_mono HO104.out (fun _ hk => hk.2)⟩, ⟨by (with_reducible repeat (first | apply Kd.R_alloc | apply Kd.R_drewN | apply Kd.R_drew)); exact Kd.R_mono HO108.out (fun _ hk => hk.2)⟩, ⟨by repeat (first | (with_reducible first | exact HB.out | apply below_alloc | apply pw_below_drewN | apply below_drew1) | exact HB.out)⟩⟩
   ·
    replace c9 := Bool.eq_false_iff.mpr c9
    subst c9
    have H1 : (laws_FnExactWrongOnKey.j0 k a0 t101 t102 t105 true) = some r := by rw [if_neg (show ¬ (false = true) by decide)] at H; exact H
    clear H
    have H := H1
    clear H1
    have H' := Aside0.mk H
    clear H
    obtain ⟨Ao12, co12, eo12⟩ := Kd.R_slice HO108.out
    subst eo12
    obtain ⟨Ao13, co13, eo13⟩ := Kd.R_slice HO104.out
    subst eo13
    go_wp2_with (first | ((with_reducible refine gate_callee (f := 22) rfl ?_); refine goesL_ (some 26) rfl rfl Tryd.func22 (by kernel_rfl) rfl #[.slice Ao12 t105.length co12, .slice Ao13 t101.length co13] rfl (by (try simp only [List.map_toArray, List.map_cons, List.map_nil]); first | done | rfl | (simp only [List.length_drop, List.length_take]; rfl)) ?_; (with_reducible refine (laws_eqStringS.calls k _ _ t105 _ _ t101 false _ ?side1 ?side2 ?side3 ?side4 A8.out).mono ?_); (case side1 => repeat (first | exact (Kd.R_reads' HO108.out).2.2 | (with_reducible refine Kd.C_alloc ?_ _) | (with_reducible refine Kd.C_drewN ?_ _) | (with_reducible refine Kd.C_drew ?_))); (case side2 => exact (Kd.R_reads' HO108.out).2.1); (case side3 => repeat (first | exact (Kd.R_reads' HO104.out).2.2 | (with_reducible refine Kd.C_alloc ?_ _) | (with_reducible refine Kd.C_drewN ?_ _) | (with_reducible refine Kd.C_drew ?_))); (case side4 => exact (Kd.R_reads' HO104.out).2.1); rintro e w' ⟨rfl, ⟨nd, rfl⟩⟩; refine ⟨_, rfl, ?_⟩))
    go_meet
    case rel => exact ⟨_, (true), (by first | rfl | (simp; done) | (simp [*]; done)), H', ⟨by first | omega | exact Nat.le_refl _⟩, ⟨by (with_reducible repeat (first | apply Kd.R_alloc | apply Kd.R_drewN | apply Kd.R_drew)); exact Kd.R_mono HO104.out (fun _ hk => hk.2)⟩, ⟨by (with_reducible repeat (first | apply Kd.R_alloc | apply Kd.R_drewN | apply Kd.R_drew)); exact Kd.R_mono HO108.out (fun _ hk => hk.2)⟩, ⟨by repeat (first | (with_reducible first | exact HB.out | apply below_alloc | apply pw_below_drewN | apply below_drew1) | exact HB.out)⟩⟩
  case rest =>
   clear HC5
   try clear c2
   try clear c2b0
   try clear c2b1
   try clear p2
   try clear c9
   obtain ⟨kq, x32_4, rfl, HA, HJ4, HO_3, HO_5, HB⟩ := hcut
   cases kq with
   | zero => exact absurd HA.out (by simp [laws_FnExactWrongOnKey.j0])
   | succ kj4 =>
    have H := HA.out
    clear HA
    simp only [laws_FnExactWrongOnKey.j0] at H
    by_cases c14 : x32_4 = true
    ·
     subst c14
     have H1 : (some false) = some r := by rw [if_pos rfl] at H; exact H
     clear H
     have H := H1
     clear H1
     obtain rfl := Option.some.inj H
     go_wp2
     go_ret
     exact ⟨by first | rfl | (simp [errW_none, errW_some] <;> rfl) | (simp [*, errW_none, errW_some] <;> rfl), by repeat (first | (with_reducible first | exact HB.out | apply below_alloc | apply pw_below_drewN | apply below_drew1) | exact HB.out)⟩
    ·
     replace c14 := Bool.eq_false_iff.mpr c14
     subst c14
     have H1 : ((laws_markStringS.f kj4 t105 1).bind fun bt110 => ((laws_heldStringS.f kj4 bt110.2 1).bind fun t112 => (if t112 < 0 then (some false) else (if t112 = bt110.1 then ((impl_WrongOnKey.f kj4 a0).bind fun bt113 => ((laws_eqStringS.f kj4 bt113.1 t101).bind fun t117 => (if t117 = true then (laws_FnExactWrongOnKey.j1 kj4 bt110.2 bt110.1 (bt113.2 != t102)) else (laws_FnExactWrongOnKey.j1 kj4 bt110.2 bt110.1 true)))) else (some false))))) = some r := by rw [if_neg (show ¬ (false = true) by decide)] at H; exact H
     clear H
     have H := H1
     clear H1
     replace H := Option.bind_eq_some_iff.mp H
     obtain ⟨⟨t110, t111⟩, A150, H⟩ := H
     replace H : ((laws_heldStringS.f kj4 t111 1).bind fun t112 => (if t112 < 0 then (some false) else (if t112 = t110 then ((impl_WrongOnKey.f kj4 a0).bind fun bt113 => ((laws_eqStringS.f kj4 bt113.1 t101).bind fun t117 => (if t117 = true then (laws_FnExactWrongOnKey.j1 kj4 t111 t110 (bt113.2 != t102)) else (laws_FnExactWrongOnKey.j1 kj4 t111 t110 true)))) else (some false)))) = some r := H
     have A15 := Aside0.mk A150
     clear A150
     replace H := Option.bind_eq_some_iff.mp H
     obtain ⟨t112, A160, H⟩ := H
     replace H : (if t112 < 0 then (some false) else (if t112 = t110 then ((impl_WrongOnKey.f kj4 a0).bind fun bt113 => ((laws_eqStringS.f kj4 bt113.1 t101).bind fun t117 => (if t117 = true then (laws_FnExactWrongOnKey.j1 kj4 t111 t110 (bt113.2 != t102)) else (laws_FnExactWrongOnKey.j1 kj4 t111 t110 true)))) else (some false))) = some r := H
     have A16 := Aside0.mk A160
     clear A160
     by_cases c17 : t112 < 0
     ·
      rw [if_pos c17] at H
      have c17b0 : decide (t112 < 0) = true := decide_eq_true c17
      clear c17
      obtain rfl := Option.some.inj H
      obtain ⟨Ao18, co18, eo18⟩ := Kd.R_slice HO_5.out
      subst eo18
      go_wp2_with (first | ((with_reducible refine gate_callee (f := 23) rfl ?_); refine goesL_ (some 35) rfl rfl Tryd.func23 (by kernel_rfl) rfl #[.slice Ao18 t105.length co18, .int .i64 1] rfl (by (try simp only [List.map_toArray, List.map_cons, List.map_nil]); first | done | rfl | (simp only [List.length_drop, List.length_take]; rfl)) ?_; (with_reducible refine (laws_markStringS.calls kj4 (fun k_ => some k_ = (.slice Ao18 t105.length co18 : Value).ownBlock) (.slice Ao18 t105.length co18) t105 1 t110 t111 w _ ?side1 ?side2 A15.out).mono ?_); (case side1 => repeat (first | (with_reducible first | exact HB.out | apply below_alloc | apply pw_below_drewN | apply below_drew1) | exact HB.out)); (case side2 => exact Kd.R_tight rfl HO_5.out); rintro e w19 ⟨rfl, hy0, hb, hkp⟩; refine ⟨_, rfl, ?_⟩; have n0_ := Aside0.mk (Kd.R_mono (ok' := fun k_ => some k_ ≠ (.slice Ao18 t105.length co18 : Value).ownBlock) (Kd.R_keptB (HO_3.out) hkp (fun k_ hk_ hs_ => (hk_) hs_)) (fun k_ hk_ => hk_.1)); have n1_ := Aside0.mk (Kd.R_reok rfl hy0 (fun k_ e_ => HO_5.out.1 k_ e_)); have n2_ := Aside0.mk (hb); clear HO_3; clear HO_5; clear HB; have HO_3 := n0_; have HO_5 := n1_; have HB := n2_; clear n0_ n1_ n2_; (try clear hb); (try clear hkp); (try clear hy0)) | ((with_reducible refine gate_callee (f := 24) rfl ?_); refine goesL_ (some 38) rfl rfl Tryd.func24 (by kernel_rfl) rfl #[.slice Ao18 t111.length co18, .int .i64 1] rfl (by (try simp only [List.map_toArray, List.map_cons, List.map_nil]); first | done | (rw [show t111.length = t105.length from (Kd.R_reads' HO_5.out).1.symm] <;> rfl) | rfl | (simp only [List.length_drop, List.length_take]; rfl)) ?_; (with_reducible refine (laws_heldStringS.calls kj4 _ _ t111 1 t112 _ ?side1 ?side2 A16.out).mono ?_); (case side1 => repeat (first | exact (Kd.R_reads' HO_5.out).2.2 | (with_reducible refine Kd.C_alloc ?_ _) | (with_reducible refine Kd.C_drewN ?_ _) | (with_reducible refine Kd.C_drew ?_))); (case side2 => rw [show t111.length = t105.length from (Kd.R_reads' HO_5.out).1.symm]; exact (Kd.R_reads' HO_5.out).2.1); rintro e w20 ⟨rfl, hb⟩; refine ⟨_, rfl, ?_⟩; have n0_ := Aside0.mk (Kd.R_below (by (with_reducible repeat (first | apply Kd.R_alloc | apply Kd.R_drewN | apply Kd.R_drew)); exact HO_3.out) hb); have n1_ := Aside0.mk (Kd.R_below (by (with_reducible repeat (first | apply Kd.R_alloc | apply Kd.R_drewN | apply Kd.R_drew)); exact HO_5.out) hb); have n2_ := Aside0.mk (below_step (by repeat (first | (with_reducible first | exact HB.out | apply below_alloc | apply pw_below_drewN | apply below_drew1) | exact HB.out)) hb); clear HO_3; clear HO_5; clear HB; have HO_3 := n0_; have HO_5 := n1_; have HB := n2_; clear n0_ n1_ n2_; (try clear hb); (try clear hb2); (try clear hk); (try clear hi)))
      go_ret
      exact ⟨by first | rfl | (simp [errW_none, errW_some] <;> rfl) | (simp [*, errW_none, errW_some] <;> rfl), by repeat (first | (with_reducible first | exact HB.out | apply below_alloc | apply pw_below_drewN | apply below_drew1) | exact HB.out)⟩
     ·
      rw [if_neg c17] at H
      have c17b0 : decide (t112 < 0) = false := decide_eq_false c17
      clear c17
      by_cases c21 : t112 = t110
      ·
       rw [if_pos c21] at H
       have c21b0 : (t112 == t110) = true := beq_iff_eq.mpr c21
       have c21b1 : (t112 != t110) = false := bne_eq_false_iff_eq.mpr c21
       clear c21
       replace H := Option.bind_eq_some_iff.mp H
       obtain ⟨⟨t113, t114⟩, A220, H⟩ := H
       replace H : ((laws_eqStringS.f kj4 t113 t101).bind fun t117 => (if t117 = true then (laws_FnExactWrongOnKey.j1 kj4 t111 t110 (t114 != t102)) else (laws_FnExactWrongOnKey.j1 kj4 t111 t110 true))) = some r := H
       have A22 := Aside0.mk A220
       clear A220
       have HC23 := Aside0.mk H
       clear H
       obtain ⟨Ao24, co24, eo24⟩ := Kd.R_slice HO_5.out
       subst eo24
       go_upto_region 16 with (first | ((with_reducible refine gate_callee (f := 23) rfl ?_); refine goesL_ (some 35) rfl rfl Tryd.func23 (by kernel_rfl) rfl #[.slice Ao24 t105.length co24, .int .i64 1] rfl (by (try simp only [List.map_toArray, List.map_cons, List.map_nil]); first | done | rfl | (simp only [List.length_drop, List.length_take]; rfl)) ?_; (with_reducible refine (laws_markStringS.calls kj4 (fun k_ => some k_ = (.slice Ao24 t105.length co24 : Value).ownBlock) (.slice Ao24 t105.length co24) t105 1 t110 t111 w _ ?side1 ?side2 A15.out).mono ?_); (case side1 => repeat (first | (with_reducible first | exact HB.out | apply below_alloc | apply pw_below_drewN | apply below_drew1) | exact HB.out)); (case side2 => exact Kd.R_tight rfl HO_5.out); rintro e w25 ⟨rfl, hy0, hb, hkp⟩; refine ⟨_, rfl, ?_⟩; have n0_ := Aside0.mk (Kd.R_mono (ok' := fun k_ => some k_ ≠ (.slice Ao24 t105.length co24 : Value).ownBlock) (Kd.R_keptB (HO_3.out) hkp (fun k_ hk_ hs_ => (hk_) hs_)) (fun k_ hk_ => hk_.1)); have n1_ := Aside0.mk (Kd.R_reok rfl hy0 (fun k_ e_ => HO_5.out.1 k_ e_)); have n2_ := Aside0.mk (hb); clear HO_3; clear HO_5; clear HB; have HO_3 := n0_; have HO_5 := n1_; have HB := n2_; clear n0_ n1_ n2_; (try clear hb); (try clear hkp); (try clear hy0)) | ((with_reducible refine gate_callee (f := 24) rfl ?_); refine goesL_ (some 38) rfl rfl Tryd.func24 (by kernel_rfl) rfl #[.slice Ao24 t111.length co24, .int .i64 1] rfl (by (try simp only [List.map_toArray, List.map_cons, List.map_nil]); first | done | (rw [show t111.length = t105.length from (Kd.R_reads' HO_5.out).1.symm] <;> rfl) | rfl | (simp only [List.length_drop, List.length_take]; rfl)) ?_; (with_reducible refine (laws_heldStringS.calls kj4 _ _ t111 1 t112 _ ?side1 ?side2 A16.out).mono ?_); (case side1 => repeat (first | exact (Kd.R_reads' HO_5.out).2.2 | (with_reducible refine Kd.C_alloc ?_ _) | (with_reducible refine Kd.C_drewN ?_ _) | (with_reducible refine Kd.C_drew ?_))); (case side2 => rw [show t111.length = t105.length from (Kd.R_reads' HO_5.out).1.symm]; exact (Kd.R_reads' HO_5.out).2.1); rintro e w26 ⟨rfl, hb⟩; refine ⟨_, rfl, ?_⟩; have n0_ := Aside0.mk (Kd.R_below (by (with_reducible repeat (first | apply Kd.R_alloc | apply Kd.R_drewN | apply Kd.R_drew)); exact HO_3.out) hb); have n1_ := Aside0.mk (Kd.R_below (by (with_reducible repeat (first | apply Kd.R_alloc | apply Kd.R_drewN | apply Kd.R_drew)); exact HO_5.out) hb); have n2_ := Aside0.mk (below_step (by repeat (first | (with_reducible first | exact HB.out | apply below_alloc | apply pw_below_drewN | apply below_drew1) | exact HB.out)) hb); clear HO_3; clear HO_5; clear HB; have HO_3 := n0_; have HO_5 := n1_; have HB := n2_; clear n0_ n1_ n2_; (try clear hb); (try clear hb2); (try clear hk); (try clear hi)) | ((with_reducible refine gate_callee (f := 26) rfl ?_); refine goesL_ (some 46) rfl rfl Tryd.func26 (by kernel_rfl) rfl #[.string a0] rfl (by (try simp only [List.map_toArray, List.map_cons, List.map_nil]); first | done | rfl | (simp only [List.length_drop, List.length_take]; rfl)) ?_; (with_reducible refine (impl_WrongOnKey.calls kj4 a0 t113 t114 _ A22.out).mono ?_); rintro e w27 ⟨v115, rfl, ho0, hb⟩; refine ⟨_, rfl, ?_⟩; have n0_ := Aside0.mk (Kd.R_elder' (by (with_reducible repeat (first | apply Kd.R_alloc | apply Kd.R_drewN | apply Kd.R_drew)); exact HO_3.out) (Kd.R_base ho0) hb); have n1_ := Aside0.mk (Kd.R_elder' (by (with_reducible repeat (first | apply Kd.R_alloc | apply Kd.R_drewN | apply Kd.R_drew)); exact HO_5.out) (Kd.R_base ho0) hb); have n2_ := Aside0.mk (Kd.R_lower (Kd.R_new' (Kd.R_new' ho0 (Kd.R_lt (by (with_reducible repeat (first | apply Kd.R_alloc | apply Kd.R_drewN | apply Kd.R_drew)); exact HO_3.out))) (Kd.R_lt (by (with_reducible repeat (first | apply Kd.R_alloc | apply Kd.R_drewN | apply Kd.R_drew)); exact HO_5.out))) (below_size (by repeat (first | (with_reducible first | exact HB.out | apply below_alloc | apply pw_below_drewN | apply below_drew1) | exact HB.out)))); have n3_ := Aside0.mk (below_step (by repeat (first | (with_reducible first | exact HB.out | apply below_alloc | apply pw_below_drewN | apply below_drew1) | exact HB.out)) hb); clear HO_3; clear HO_5; clear HB; have HO_3 := n0_; have HO_5 := n1_; have HO116 := n2_; have HB := n3_; clear n0_ n1_ n2_ n3_; (try clear hb); (try clear hb2); (try clear hk); (try clear hi); (try clear ho0)))
       (try simp only [Act.put, List.setIfInBounds_toArray, List.set_cons_zero, List.set_cons_succ])
       go_cut [57] (fun v57 wc => ∃ (kq : Nat) (x57_22 : Bool), v57 = .bool x57_22 ∧ Aside0 (laws_FnExactWrongOnKey.j1 kq t111 t110 x57_22 = some r) ∧ Aside0 (kq ≤ kj4) ∧ Aside0 (Kd.R Kd.string 9 wc w.heap.size (fun _ => True) (.slice Ao24 t105.length co24) t111) ∧ Aside0 (Below w.heap.size w wc))
       case first =>
        have H := HC23.out
        clear HC23
        replace H := Option.bind_eq_some_iff.mp H
        obtain ⟨t117, A280, H⟩ := H
        replace H : (if t117 = true then (laws_FnExactWrongOnKey.j1 kj4 t111 t110 (t114 != t102)) else (laws_FnExactWrongOnKey.j1 kj4 t111 t110 true)) = some r := H
        have A28 := Aside0.mk A280
        clear A280
        by_cases c29 : t117 = true
        ·
         subst c29
         have H1 : (laws_FnExactWrongOnKey.j1 kj4 t111 t110 (t114 != t102)) = some r := by rw [if_pos rfl] at H; exact H
         clear H
         have H := H1
         clear H1
         have H' := Aside0.mk H
         clear H
         obtain ⟨Ao30, co30, eo30⟩ := Kd.R_slice HO116.out
         subst eo30
         obtain ⟨Ao31, co31, eo31⟩ := Kd.R_slice HO_3.out
         subst eo31
         go_wp2_with (first | ((with_reducible refine gate_callee (f := 22) rfl ?_); refine goesL_ (some 51) rfl rfl Tryd.func22 (by kernel_rfl) rfl #[.slice Ao30 t113.length co30, .slice Ao31 t101.length co31] rfl (by (try simp only [List.map_toArray, List.map_cons, List.map_nil]); first | done | rfl | (simp only [List.length_drop, List.length_take]; rfl)) ?_; (with_reducible refine (laws_eqStringS.calls kj4 _ _ t113 _ _ t101 true _ ?side1 ?side2 ?side3 ?side4 A28.out).mono ?_); (case side1 => repeat (first | exact (Kd.R_reads' HO116.out).2.2 | (with_reducible refine Kd.C_alloc ?_ _) | (with_reducible refine Kd.C_drewN ?_ _) | (with_reducible refine Kd.C_drew ?_))); (case side2 => exact (Kd.R_reads' HO116.out).2.1); (case side3 => repeat (first | exact (Kd.R_reads' HO_3.out).2.2 | (with_reducible refine Kd.C_alloc ?_ _) | (with_reducible refine Kd.C_drewN ?_ _) | (with_reducible refine Kd.C_drew ?_))); (case side4 => exact (Kd.R_reads' HO_3.out).2.1); rintro e w' ⟨rfl, ⟨nd, rfl⟩⟩; refine ⟨_, rfl, ?_⟩))
         go_meet
         case rel => exact ⟨_, ((t114 != t102)), (by first | rfl | (simp; done) | (simp [*]; done)), H', ⟨by have := HJ4.out; first | omega | exact Nat.le_refl _⟩, ⟨by (with_reducible repeat (first | apply Kd.R_alloc | apply Kd.R_drewN | apply Kd.R_drew)); exact Kd.R_mono HO_5.out (fun _ hk => trivial)⟩, ⟨by repeat (first | (with_reducible first | exact HB.out | apply below_alloc | apply pw_below_drewN | apply below_drew1) | exact HB.out)⟩⟩
        ·
         replace c29 := Bool.eq_false_iff.mpr c29
         subst c29
         have H1 : (laws_FnExactWrongOnKey.j1 kj4 t111 t110 true) = some r := by rw [if_neg (show ¬ (false = true) by decide)] at H; exact H
         clear H
         have H := H1
         clear H1
         have H' := Aside0.mk H
         clear H
         obtain ⟨Ao32, co32, eo32⟩ := Kd.R_slice HO116.out
         subst eo32
         obtain ⟨Ao33, co33, eo33⟩ := Kd.R_slice HO_3.out
         subst eo33
         go_wp2_with (first | ((with_reducible refine gate_callee (f := 22) rfl ?_); refine goesL_ (some 51) rfl rfl Tryd.func22 (by kernel_rfl) rfl #[.slice Ao32 t113.length co32, .slice Ao33 t101.length co33] rfl (by (try simp only [List.map_toArray, List.map_cons, List.map_nil]); first | done | rfl | (simp only [List.length_drop, List.length_take]; rfl)) ?_; (with_reducible refine (laws_eqStringS.calls kj4 _ _ t113 _ _ t101 false _ ?side1 ?side2 ?side3 ?side4 A28.out).mono ?_); (case side1 => repeat (first | exact (Kd.R_reads' HO116.out).2.2 | (with_reducible refine Kd.C_alloc ?_ _) | (with_reducible refine Kd.C_drewN ?_ _) | (with_reducible refine Kd.C_drew ?_))); (case side2 => exact (Kd.R_reads' HO116.out).2.1); (case side3 => repeat (first | exact (Kd.R_reads' HO_3.out).2.2 | (with_reducible refine Kd.C_alloc ?_ _) | (with_reducible refine Kd.C_drewN ?_ _) | (with_reducible refine Kd.C_drew ?_))); (case side4 => exact (Kd.R_reads' HO_3.out).2.1); rintro e w' ⟨rfl, ⟨nd, rfl⟩⟩; refine ⟨_, rfl, ?_⟩))
         go_meet
         case rel => exact ⟨_, (true), (by first | rfl | (simp; done) | (simp [*]; done)), H', ⟨by have := HJ4.out; first | omega | exact Nat.le_refl _⟩, ⟨by (with_reducible repeat (first | apply Kd.R_alloc | apply Kd.R_drewN | apply Kd.R_drew)); exact Kd.R_mono HO_5.out (fun _ hk => trivial)⟩, ⟨by repeat (first | (with_reducible first | exact HB.out | apply below_alloc | apply pw_below_drewN | apply below_drew1) | exact HB.out)⟩⟩
       case rest =>
        clear HC23
        try clear c1
        try clear c2
        try clear c2b0
        try clear c2b1
        try clear p2
        try clear c9
        try clear c14
        try clear c17
        try clear c17b0
        try clear c21
        try clear c21b0
        try clear c21b1
        try clear c22
        try clear c23
        try clear c24
        try clear c25
        try clear c26
        try clear c29
        try clear p2
        obtain ⟨kq, x57_22, rfl, HA, HJ22, HO_5, HB⟩ := hcut
        have hl5_22 := (Kd.R_reads' HO_5.out).1
        rw [hl5_22] at HO_5
        (try simp only [hl5_22])
        cases kq with
        | zero => exact absurd HA.out (by simp [laws_FnExactWrongOnKey.j1])
        | succ kj22 =>
         have H := HA.out
         clear HA
         simp only [laws_FnExactWrongOnKey.j1] at H
         by_cases c34 : x57_22 = true
         ·
          subst c34
          have H1 : (some false) = some r := by rw [if_pos rfl] at H; exact H
          clear H
          have H := H1
          clear H1
          obtain rfl := Option.some.inj H
          go_wp2
          go_ret
          exact ⟨by first | rfl | (simp [errW_none, errW_some] <;> rfl) | (simp [*, errW_none, errW_some] <;> rfl), by repeat (first | (with_reducible first | exact HB.out | apply below_alloc | apply pw_below_drewN | apply below_drew1) | exact HB.out)⟩
         ·
          replace c34 := Bool.eq_false_iff.mpr c34
          subst c34
          have H1 : ((laws_heldStringS.f kj22 t111 1).bind fun t118 => (if t118 < 0 then (some false) else (if t118 = t110 then (some true) else (some false)))) = some r := by rw [if_neg (show ¬ (false = true) by decide)] at H; exact H
          clear H
          have H := H1
          clear H1
          replace H := Option.bind_eq_some_iff.mp H
          obtain ⟨t118, A350, H⟩ := H
          replace H : (if t118 < 0 then (some false) else (if t118 = t110 then (some true) else (some false))) = some r := H
          have A35 := Aside0.mk A350
          clear A350
          by_cases c36 : t118 < 0
          ·
           rw [if_pos c36] at H
           have c36b0 : decide (t118 < 0) = true := decide_eq_true c36
           clear c36
           obtain rfl := Option.some.inj H
           go_wp2_with (first | ((with_reducible refine gate_callee (f := 24) rfl ?_); refine goesL_ (some 60) rfl rfl Tryd.func24 (by kernel_rfl) rfl #[.slice Ao24 t111.length co24, .int .i64 1] rfl (by (try simp only [List.map_toArray, List.map_cons, List.map_nil]); first | done | rfl | (simp only [List.length_drop, List.length_take]; rfl)) ?_; (with_reducible refine (laws_heldStringS.calls kj22 _ _ t111 1 t118 _ ?side1 ?side2 A35.out).mono ?_); (case side1 => repeat (first | exact (Kd.R_reads' HO_5.out).2.2 | (with_reducible refine Kd.C_alloc ?_ _) | (with_reducible refine Kd.C_drewN ?_ _) | (with_reducible refine Kd.C_drew ?_))); (case side2 => exact (Kd.R_reads' HO_5.out).2.1); rintro e w37 ⟨rfl, hb⟩; refine ⟨_, rfl, ?_⟩; have n0_ := Aside0.mk (Kd.R_below (by (with_reducible repeat (first | apply Kd.R_alloc | apply Kd.R_drewN | apply Kd.R_drew)); exact HO_5.out) hb); have n1_ := Aside0.mk (below_step (by repeat (first | (with_reducible first | exact HB.out | apply below_alloc | apply pw_below_drewN | apply below_drew1) | exact HB.out)) hb); clear HO_5; clear HB; have HO_5 := n0_; have HB := n1_; clear n0_ n1_; (try clear hb); (try clear hb2); (try clear hk); (try clear hi)))
           go_ret
           exact ⟨by first | rfl | (simp [errW_none, errW_some] <;> rfl) | (simp [*, errW_none, errW_some] <;> rfl), by repeat (first | (with_reducible first | exact HB.out | apply below_alloc | apply pw_below_drewN | apply below_drew1) | exact HB.out)⟩
          ·
           rw [if_neg c36] at H
           have c36b0 : decide (t118 < 0) = false := decide_eq_false c36
           clear c36
           by_cases c38 : t118 = t110
           ·
            rw [if_pos c38] at H
            have c38b0 : (t118 == t110) = true := beq_iff_eq.mpr c38
            have c38b1 : (t118 != t110) = false := bne_eq_false_iff_eq.mpr c38
            clear c38
            obtain rfl := Option.some.inj H
            go_wp2_with (first | ((with_reducible refine gate_callee (f := 24) rfl ?_); refine goesL_ (some 60) rfl rfl Tryd.func24 (by kernel_rfl) rfl #[.slice Ao24 t111.length co24, .int .i64 1] rfl (by (try simp only [List.map_toArray, List.map_cons, List.map_nil]); first | done | rfl | (simp only [List.length_drop, List.length_take]; rfl)) ?_; (with_reducible refine (laws_heldStringS.calls kj22 _ _ t111 1 t118 _ ?side1 ?side2 A35.out).mono ?_); (case side1 => repeat (first | exact (Kd.R_reads' HO_5.out).2.2 | (with_reducible refine Kd.C_alloc ?_ _) | (with_reducible refine Kd.C_drewN ?_ _) | (with_reducible refine Kd.C_drew ?_))); (case side2 => exact (Kd.R_reads' HO_5.out).2.1); rintro e w39 ⟨rfl, hb⟩; refine ⟨_, rfl, ?_⟩; have n0_ := Aside0.mk (Kd.R_below (by (with_reducible repeat (first | apply Kd.R_alloc | apply Kd.R_drewN | apply Kd.R_drew)); exact HO_5.out) hb); have n1_ := Aside0.mk (below_step (by repeat (first | (with_reducible first | exact HB.out | apply below_alloc | apply pw_below_drewN | apply below_drew1) | exact HB.out)) hb); clear HO_5; clear HB; have HO_5 := n0_; have HB := n1_; clear n0_ n1_; (try clear hb); (try clear hb2); (try clear hk); (try clear hi)))
            go_ret
            exact ⟨by first | rfl | (simp [errW_none, errW_some] <;> rfl) | (simp [*, errW_none, errW_some] <;> rfl), by repeat (first | (with_reducible first | exact HB.out | apply below_alloc | apply pw_below_drewN | apply below_drew1) | exact HB.out)⟩
           ·
            rw [if_neg c38] at H
            have c38b0 : (t118 == t110) = false := beq_eq_false_iff_ne.mpr c38
            have c38b1 : (t118 != t110) = true := bne_iff_ne.mpr c38
            obtain rfl := Option.some.inj H
            go_wp2_with (first | ((with_reducible refine gate_callee (f := 24) rfl ?_); refine goesL_ (some 60) rfl rfl Tryd.func24 (by kernel_rfl) rfl #[.slice Ao24 t111.length co24, .int .i64 1] rfl (by (try simp only [List.map_toArray, List.map_cons, List.map_nil]); first | done | rfl | (simp only [List.length_drop, List.length_take]; rfl)) ?_; (with_reducible refine (laws_heldStringS.calls kj22 _ _ t111 1 t118 _ ?side1 ?side2 A35.out).mono ?_); (case side1 => repeat (first | exact (Kd.R_reads' HO_5.out).2.2 | (with_reducible refine Kd.C_alloc ?_ _) | (with_reducible refine Kd.C_drewN ?_ _) | (with_reducible refine Kd.C_drew ?_))); (case side2 => exact (Kd.R_reads' HO_5.out).2.1); rintro e w40 ⟨rfl, hb⟩; refine ⟨_, rfl, ?_⟩; have n0_ := Aside0.mk (Kd.R_below (by (with_reducible repeat (first | apply Kd.R_alloc | apply Kd.R_drewN | apply Kd.R_drew)); exact HO_5.out) hb); have n1_ := Aside0.mk (below_step (by repeat (first | (with_reducible first | exact HB.out | apply below_alloc | apply pw_below_drewN | apply below_drew1) | exact HB.out)) hb); clear HO_5; clear HB; have HO_5 := n0_; have HB := n1_; clear n0_ n1_; (try clear hb); (try clear hb2); (try clear hk); (try clear hi)))
            go_ret
            exact ⟨by first | rfl | (simp [errW_none, errW_some] <;> rfl) | (simp [*, errW_none, errW_some] <;> rfl), by repeat (first | (with_reducible first | exact HB.out | apply below_alloc | apply pw_below_drewN | apply below_drew1) | exact HB.out)⟩
      ·
       rw [if_neg c21] at H
       have c21b0 : (t112 == t110) = false := beq_eq_false_iff_ne.mpr c21
       have c21b1 : (t112 != t110) = true := bne_iff_ne.mpr c21
       obtain rfl := Option.some.inj H
       obtain ⟨Ao41, co41, eo41⟩ := Kd.R_slice HO_5.out
       subst eo41
       go_wp2_with (first | ((with_reducible refine gate_callee (f := 23) rfl ?_); refine goesL_ (some 35) rfl rfl Tryd.func23 (by kernel_rfl) rfl #[.slice Ao41 t105.length co41, .int .i64 1] rfl (by (try simp only [List.map_toArray, List.map_cons, List.map_nil]); first | done | rfl | (simp only [List.length_drop, List.length_take]; rfl)) ?_; (with_reducible refine (laws_markStringS.calls kj4 (fun k_ => some k_ = (.slice Ao41 t105.length co41 : Value).ownBlock) (.slice Ao41 t105.length co41) t105 1 t110 t111 w _ ?side1 ?side2 A15.out).mono ?_); (case side1 => repeat (first | (with_reducible first | exact HB.out | apply below_alloc | apply pw_below_drewN | apply below_drew1) | exact HB.out)); (case side2 => exact Kd.R_tight rfl HO_5.out); rintro e w42 ⟨rfl, hy0, hb, hkp⟩; refine ⟨_, rfl, ?_⟩; have n0_ := Aside0.mk (Kd.R_mono (ok' := fun k_ => some k_ ≠ (.slice Ao41 t105.length co41 : Value).ownBlock) (Kd.R_keptB (HO_3.out) hkp (fun k_ hk_ hs_ => (hk_) hs_)) (fun k_ hk_ => hk_.1)); have n1_ := Aside0.mk (Kd.R_reok rfl hy0 (fun k_ e_ => HO_5.out.1 k_ e_)); have n2_ := Aside0.mk (hb); clear HO_3; clear HO_5; clear HB; have HO_3 := n0_; have HO_5 := n1_; have HB := n2_; clear n0_ n1_ n2_; (try clear hb); (try clear hkp); (try clear hy0)) | ((with_reducible refine gate_callee (f := 24) rfl ?_); refine goesL_ (some 38) rfl rfl Tryd.func24 (by kernel_rfl) rfl #[.slice Ao41 t111.length co41, .int .i64 1] rfl (by (try simp only [List.map_toArray, List.map_cons, List.map_nil]); first | done | (rw [show t111.length = t105.length from (Kd.R_reads' HO_5.out).1.symm] <;> rfl) | rfl | (simp only [List.length_drop, List.length_take]; rfl)) ?_; (with_reducible refine (laws_heldStringS.calls kj4 _ _ t111 1 t112 _ ?side1 ?side2 A16.out).mono ?_); (case side1 => repeat (first | exact (Kd.R_reads' HO_5.out).2.2 | (with_reducible refine Kd.C_alloc ?_ _) | (with_reducible refine Kd.C_drewN ?_ _) | (with_reducible refine Kd.C_drew ?_))); (case side2 => rw [show t111.length = t105.length from (Kd.R_reads' HO_5.out).1.symm]; exact (Kd.R_reads' HO_5.out).2.1); rintro e w43 ⟨rfl, hb⟩; refine ⟨_, rfl, ?_⟩; have n0_ := Aside0.mk (Kd.R_below (by (with_reducible repeat (first | apply Kd.R_alloc | apply Kd.R_drewN | apply Kd.R_drew)); exact HO_3.out) hb); have n1_ := Aside0.mk (Kd.R_below (by (with_reducible repeat (first | apply Kd.R_alloc | apply Kd.R_drewN | apply Kd.R_drew)); exact HO_5.out) hb); have n2_ := Aside0.mk (below_step (by repeat (first | (with_reducible first | exact HB.out | apply below_alloc | apply pw_below_drewN | apply below_drew1) | exact HB.out)) hb); clear HO_3; clear HO_5; clear HB; have HO_3 := n0_; have HO_5 := n1_; have HB := n2_; clear n0_ n1_ n2_; (try clear hb); (try clear hb2); (try clear hk); (try clear hi)))
       go_ret
       exact ⟨by first | rfl | (simp [errW_none, errW_some] <;> rfl) | (simp [*, errW_none, errW_some] <;> rfl), by repeat (first | (with_reducible first | exact HB.out | apply below_alloc | apply pw_below_drewN | apply below_drew1) | exact HB.out)⟩

end Go.Proofs.YtcidlaabbkimdaaDoor.P

namespace Go.Proofs.YtcidlaabbkimdaaDoor
open Go.RowKit Go.Proofs.YtcidlaabbkimdaaDoor.P Go.Proofs.YtcidlaabbkimdaaDoorW.PrintWords Go.Proofs.YtcidlaabbkimdaaDoorW.PrintLast
/-- The pure statement of FnExactWrongOnKey. -/
def PureFnExactWrongOnKey : Prop := ∀ (a0 : ByteArray), a0.size ≤ 9223372036854775807 →  ∃ k, laws_FnExactWrongOnKey.f k a0 = some true
end Go.Proofs.YtcidlaabbkimdaaDoor

namespace Go.Proofs.YtcidlaabbkimdaaDoor
open Go.RowKit Go.Proofs.YtcidlaabbkimdaaDoorW.PrintWords
/-! Plain words for the pure statements: answers that stand from some number of rounds on. -/
theorem Ev.succ {α : Type} {g : Nat → Option α} {r : α} (h : Ev (fun k => g (k + 1)) r) : Ev g r := Ev.step (fun _ => rfl) h
theorem Ev.const {α : Type} {a : Option α} {r : α} (h : a = some r) : Ev (fun _ => a) r := ⟨0, fun _ _ => h⟩
theorem Ev.pos {α : Type} {c : Prop} [Decidable c] {g f : Nat → Option α} {r : α} (hc : c) (h : Ev g r) : Ev (fun k => if c then g k else f k) r := by simp only [if_pos hc]; exact h
theorem Ev.neg {α : Type} {c : Prop} [Decidable c] {g f : Nat → Option α} {r : α} (hc : ¬ c) (h : Ev f r) : Ev (fun k => if c then g k else f k) r := by simp only [if_neg hc]; exact h
theorem Ev.yes {α : Type} {c : Prop} [Decidable c] {g f : Nat → Option α} {r : α} (h : Ev g r) (hc : c := by first | omega | rfl | trivial | decide | simp | (simp; omega)) : Ev (fun k => if c then g k else f k) r := Ev.pos hc h
theorem Ev.no {α : Type} {c : Prop} [Decidable c] {g f : Nat → Option α} {r : α} (h : Ev f r) (hc : ¬ c := by first | omega | decide | simp | (simp; omega)) : Ev (fun k => if c then g k else f k) r := Ev.neg hc h
theorem Ev.bindc {α β : Type} {a : Option α} {x : α} {f : Nat → α → Option β} {r : β} (h : a = some x) (k : Ev (fun n => f n x) r) : Ev (fun n => a.bind (f n)) r := by subst h; exact k
theorem wrap_id {n : Int} (h1 : -9223372036854775808 ≤ n) (h2 : n ≤ 9223372036854775807) : wrap64 n = n := IntWalk.wrap64_in n ⟨h1, h2⟩
theorem wf_i64 {n : Int} (h : (Lit.int .i64 n).wf = true) : -9223372036854775808 ≤ n ∧ n ≤ 9223372036854775807 := by
  have e1 : IntKind.i64.min = -9223372036854775808 := rfl
  have e2 : IntKind.i64.max = 9223372036854775807 := rfl
  simp only [Lit.wf, e1, e2, Bool.and_eq_true, decide_eq_true_eq] at h
  exact h
theorem rd_nat (l : List Int) (j : Nat) (h : j < l.length) : rd l (j : Int) = l[j] := by unfold rd; simp [List.getD, h]
end Go.Proofs.YtcidlaabbkimdaaDoor

namespace Go.Proofs.YtcidlaabbkimdaaDoor
open Go.RowKit Go.Proofs.YtcidlaabbkimdaaDoorW.PrintWords
set_option linter.unusedSimpArgs false
set_option linter.unusedVariables false
/-! Strings as lists of bytes. -/
/-- A string's bytes. -/
def bl (s : ByteArray) : List UInt8 := s.data.toList
theorem bl_len (s : ByteArray) : s.size = (bl s).length := rfl
theorem bl_inj {s t : ByteArray} (h : bl s = bl t) : s = t := ByteArray.ext (Array.toList_inj.1 h)
theorem bl_toList (s : ByteArray) : s.toList = bl s := Go.ByteArray.toList_eq s
theorem bl_mk (a : Array UInt8) : bl ⟨a⟩ = a.toList := rfl
theorem mk_bl (s : ByteArray) : (⟨(bl s).toArray⟩ : ByteArray) = s := bl_inj (by simp [bl])
theorem bl_extract (s : ByteArray) (i j : Nat) : bl (s.extract i j) = ((bl s).drop i).take (j - i) := by simp [bl, ByteArray.data_extract]
theorem bl_append (s t : ByteArray) : bl (s ++ t) = bl s ++ bl t := by simp [bl, ByteArray.data_append]
theorem bl_nums (l : List Int) : bl (strOfNums l) = l.map fun n => UInt8.ofNat n.toNat := rfl
theorem bl_empty : bl (⟨#[]⟩ : ByteArray) = [] := rfl
theorem bt_nat (s : ByteArray) (i : Nat) (h : i < (bl s).length) : bt s (i : Int) = ((bl s)[i].toNat : Int) := by
  unfold bt
  have h' : ((i : Int)).toNat < s.size := by rw [Int.toNat_natCast]; exact h
  rw [dif_pos h']; rfl
theorem of_toNat (c : UInt8) : UInt8.ofNat ((c.toNat : Int)).toNat = c := by rw [Int.toNat_natCast]; simp
theorem bt_of (s : ByteArray) (i : Nat) (h : i < (bl s).length) : UInt8.ofNat (bt s (i : Int)).toNat = (bl s)[i] := by rw [bt_nat s i h]; exact of_toNat _
theorem byte_eq (c d : UInt8) : ((c.toNat : Int) = (d.toNat : Int)) ↔ c = d := by
  constructor
  · intro h; exact UInt8.toNat_inj.1 (by exact_mod_cast h)
  · intro h; rw [h]
theorem byte_lt (c d : UInt8) : ((c.toNat : Int) < (d.toNat : Int)) ↔ c < d := by rw [UInt8.lt_iff_toNat_lt]; omega
theorem byte_le (c d : UInt8) : ((c.toNat : Int) ≤ (d.toNat : Int)) ↔ c ≤ d := by rw [UInt8.le_iff_toNat_le]; omega
theorem dropWhile_nil {α : Type} (p : α → Bool) : ∀ l : List α, l.dropWhile p = [] ↔ l.all p = true
  | [] => by simp
  | x :: xs => by
    by_cases h : p x = true
    · simp [List.dropWhile_cons, h, dropWhile_nil p xs]
    · simp [List.dropWhile_cons, h]
theorem dropWhile_keeps {α : Type} (p : α → Bool) : ∀ l : List α, (l.dropWhile p).all p = l.all p
  | [] => rfl
  | x :: xs => by
    by_cases h : p x = true
    · simp only [List.dropWhile_cons, h, if_true, List.all_cons, Bool.true_and]; exact dropWhile_keeps p xs
    · simp [List.dropWhile_cons, h]
theorem trimS_nil (l cs : List UInt8) : Lib.trimS l cs = [] ↔ l.all (cs.contains ·) = true := by
  unfold Lib.trimS Lib.trimLeftS Lib.trimRightS
  rw [dropWhile_nil, List.all_reverse, dropWhile_keeps, List.all_reverse]
theorem indexByte_neg (l : List UInt8) (c : UInt8) : Lib.indexByte l c < 0 ↔ ¬ c ∈ l := by
  induction l with
  | nil => simp [Lib.indexByte]
  | cons b l ih =>
    have hge := Lib.indexByte_ge l c
    unfold Lib.indexByte
    by_cases h : b = c
    · subst h; simp
    · have h1 : (b == c) = false := by simpa using h
      rw [h1]
      have h2 : ¬ c = b := fun e => h e.symm
      simp only [Bool.false_eq_true, if_false, List.mem_cons, h2, false_or]
      by_cases e : Lib.indexByte l c = -1
      · simp only [e, beq_self_eq_true, if_true]
        have := ih.1 (by omega)
        simp [this]
      · have e' : (Lib.indexByte l c == -1) = false := by simpa using e
        rw [e']
        simp only [Bool.false_eq_true, if_false]
        have hp : ¬ Lib.indexByte l c < 0 := by omega
        have := mt ih.2 hp
        constructor
        · intro h3; omega
        · intro h3; exact absurd h3 this
/-- The letters. -/
def isLow (c : UInt8) : Bool := decide (97 ≤ c.toNat) && decide (c.toNat ≤ 122)
theorem u8_all (P : UInt8 → Prop) [DecidablePred P] (h : ∀ n, n < 256 → P (UInt8.ofNat n)) (c : UInt8) : P c := by
  have := h c.toNat c.toNat_lt
  rwa [show UInt8.ofNat c.toNat = c from by simp] at this
theorem low_contains (c : UInt8) : ([97, 98, 99, 100, 101, 102, 103, 104, 105, 106, 107, 108, 109, 110, 111, 112, 113, 114, 115, 116, 117, 118, 119, 120, 121, 122] : List UInt8).contains c = isLow c := by
  refine u8_all (fun c => _ = isLow c) ?_ c
  decide +kernel
theorem dig_contains (c : UInt8) : ([48, 49, 50, 51, 52, 53, 54, 55, 56, 57] : List UInt8).contains c = (decide (48 ≤ c.toNat) && decide (c.toNat ≤ 57)) := by
  refine u8_all (fun c => _ = (decide (48 ≤ c.toNat) && decide (c.toNat ≤ 57))) ?_ c
  decide +kernel
end Go.Proofs.YtcidlaabbkimdaaDoor

-- printed by xprint.py
namespace Go.Proofs.YtcidlaabbkimdaaDoor.P
open Go.RowKit Go.Proofs.YtcidlaabbkimdaaDoorW.PrintWords Go.Proofs.YtcidlaabbkimdaaDoorW.PrintLast Go.Proofs.YtcidlaabbkimdaaDoorW.PrintMore
attribute [local go_sem] max2_int min2_int max_two min_two max_three min_three max_four min_four   -- for this text's walks alone
set_option linter.unusedVariables false
set_option linter.unusedSimpArgs false

/-! ### impl_isText: function 29 -/
def impl_isText.f (a0 : ByteArray) : Option (Bool) := if (a0.size : Int) ≤ 20 then ((impl_over.f a0 (⟨#[97, 98, 99, 100, 101, 102, 103, 104, 105, 106, 107, 108, 109, 110, 111, 112, 113, 114, 115, 116, 117, 118, 119, 120, 121, 122]⟩ : ByteArray)).bind fun t101 => (some t101)) else (some false)
set_option maxHeartbeats 8000000 in
set_option maxRecDepth 100000 in
theorem impl_isText.calls (a0 : ByteArray) (r : Bool) (w : World) (h : impl_isText.f a0 = some r) :
  Calls Tryd.prog 29 #[.string a0] w fun e w' => e = .returned (.bool r) ∧ Below w.heap.size w w' := by
 have HB := Aside0.mk (Below.refl w.heap.size w)
 have H : (if (a0.size : Int) ≤ 20 then ((impl_over.f a0 (⟨#[97, 98, 99, 100, 101, 102, 103, 104, 105, 106, 107, 108, 109, 110, 111, 112, 113, 114, 115, 116, 117, 118, 119, 120, 121, 122]⟩ : ByteArray)).bind fun t101 => (some t101)) else (some false)) = some r := h
 clear h
 by_cases c2 : (a0.size : Int) ≤ 20
 ·
  rw [if_pos c2] at H
  have c2b0 : decide ((a0.size : Int) ≤ 20) = true := decide_eq_true c2
  have c2b1 : decide (a0.size ≤ 20) = true := decide_eq_true (by omega)
  clear c2
  replace H := Option.bind_eq_some_iff.mp H
  obtain ⟨t101, A30, H⟩ := H
  replace H : (some t101) = some r := H
  have A3 := Aside0.mk A30
  clear A30
  obtain rfl := Option.some.inj H
  go_enter Tryd.func29, Tryd.ntmps29
  go_wp2_with (first | (go_at_call 47; (with_reducible refine (impl_over.calls a0 (⟨#[97, 98, 99, 100, 101, 102, 103, 104, 105, 106, 107, 108, 109, 110, 111, 112, 113, 114, 115, 116, 117, 118, 119, 120, 121, 122]⟩ : ByteArray) t101 _ A3.out).mono ?_); rintro e w4 ⟨rfl, hb⟩; have n0_ := Aside0.mk (below_step (by repeat (first | (with_reducible first | exact HB.out | apply below_alloc | apply pw_below_drewN | apply below_drew1) | exact HB.out)) hb); clear HB; have HB := n0_; clear n0_; (try clear hb); (try clear hb2); (try clear hk); (try clear hi)))
  go_ret
  exact ⟨by first | rfl | (simp [errW_none, errW_some] <;> rfl) | (simp [*, errW_none, errW_some] <;> rfl), by repeat (first | (with_reducible first | exact HB.out | apply below_alloc | apply pw_below_drewN | apply below_drew1) | exact HB.out)⟩
 ·
  rw [if_neg c2] at H
  have c2b0 : decide ((a0.size : Int) ≤ 20) = false := decide_eq_false c2
  have c2b1 : decide (a0.size ≤ 20) = false := decide_eq_false (by omega)
  clear c2
  obtain rfl := Option.some.inj H
  go_enter Tryd.func29, Tryd.ntmps29
  go_wp2
  go_ret
  exact ⟨by first | rfl | (simp [errW_none, errW_some] <;> rfl) | (simp [*, errW_none, errW_some] <;> rfl), by repeat (first | (with_reducible first | exact HB.out | apply below_alloc | apply pw_below_drewN | apply below_drew1) | exact HB.out)⟩

end Go.Proofs.YtcidlaabbkimdaaDoor.P

-- printed by xprint.py
namespace Go.Proofs.YtcidlaabbkimdaaDoor.P
open Go.RowKit Go.Proofs.YtcidlaabbkimdaaDoorW.PrintWords Go.Proofs.YtcidlaabbkimdaaDoorW.PrintLast Go.Proofs.YtcidlaabbkimdaaDoorW.PrintMore
attribute [local go_sem] max2_int min2_int max_two min_two max_three min_three max_four min_four   -- for this text's walks alone
set_option linter.unusedVariables false
set_option linter.unusedSimpArgs false

/-! ### spec_bkText: function 27 -/
def spec_bkText.l0 : Nat → ByteArray → Int → Option (Bool)
 | 0, _, _ => none
 | k + 1, x0, x3 => if x3 < (x0.size : Int) then (if 0 ≤ x3 then (if (bt x0 x3) < 97 then (some false) else (if (bt x0 x3) > 122 then (some false) else (spec_bkText.l0 k x0 (wrap64 (x3 + 1))))) else (none)) else (some true)
def spec_bkText.f (k : Nat) (a0 : ByteArray) : Option (Bool) := if (a0.size : Int) > 20 then (some false) else (spec_bkText.l0 k a0 0)
theorem spec_bkText.mono_l : ∀ k, (∀ y0 y1, LeO (spec_bkText.l0 k y0 y1) (spec_bkText.l0 (k + 1) y0 y1))
 | 0 => by intros; intro r h; simp [spec_bkText.l0] at h
 | k + 1 => by
  have ih0 := spec_bkText.mono_l k
  ·
   intro y0 y1
   unfold spec_bkText.l0
   repeat' first
   | (with_reducible exact ih0 _ _)
   | (with_reducible exact LeO.refl _)
   | (with_reducible exact LeO.none _)
   | (with_reducible refine LeO.ite ?_ ?_)
   | (with_reducible refine LeO.bind ?_ (fun _ => ?_))
   | exact ih0 _ _
   | exact LeO.none _
   | refine LeO.ite ?_ ?_
   | refine LeO.bind ?_ (fun _ => ?_)
theorem spec_bkText.mono : ∀ y0 k, LeO (spec_bkText.f k y0) (spec_bkText.f (k + 1) y0) := by
 intro y0 k
 have ih0 := spec_bkText.mono_l k
 unfold spec_bkText.f
 repeat' first
   | (with_reducible exact ih0 _ _)
   | (with_reducible exact LeO.refl _)
   | (with_reducible exact LeO.none _)
   | (with_reducible refine LeO.ite ?_ ?_)
   | (with_reducible refine LeO.bind ?_ (fun _ => ?_))
   | exact ih0 _ _
   | exact LeO.none _
   | refine LeO.ite ?_ ?_
   | refine LeO.bind ?_ (fun _ => ?_)
set_option maxHeartbeats 8000000 in
set_option maxRecDepth 100000 in
theorem spec_bkText.calls (k : Nat) (a0 : ByteArray) (r : Bool) (w : World) (h : spec_bkText.f k a0 = some r) :
  Calls Tryd.prog 27 #[.string a0] w fun e w' => e = .returned (.bool r) ∧ Drawn0 w w' := by
 have H : (if (a0.size : Int) > 20 then (some false) else (spec_bkText.l0 k a0 0)) = some r := h
 clear h
 by_cases c2 : (a0.size : Int) > 20
 ·
  rw [if_pos c2] at H
  have c2b0 : decide (20 < (a0.size : Int)) = true := decide_eq_true c2
  have c2b1 : decide (20 < a0.size) = true := decide_eq_true (by omega)
  clear c2
  obtain rfl := Option.some.inj H
  go_enter Tryd.func27, Tryd.ntmps27
  go_wp2
  go_ret
  exact ⟨by first | rfl | (simp; done) | (simp [*]; done), by repeat (first | exact Drawn0.refl _ | apply Drawn0.step)⟩
 ·
  rw [if_neg c2] at H
  have c2b0 : decide (20 < (a0.size : Int)) = false := decide_eq_false c2
  have c2b1 : decide (20 < a0.size) = false := decide_eq_false (by omega)
  clear c2
  have H' := Aside0.mk H
  clear H
  go_enter Tryd.func27, Tryd.ntmps27
  go_wp2
  go_loopg [3] k (fun kq v3 w' => ∃ (x3_1 : Int), v3 = .int .i64 x3_1 ∧ Aside0 (spec_bkText.l0 kq a0 x3_1 = some r) ∧ Aside0 (kq ≤ k) ∧ Drawn0 w w')
  case atStart => exact ⟨(0), (by first | rfl | (simp; done) | (simp [*]; done)), H', ⟨Nat.le_refl _⟩, by repeat (first | exact Drawn0.refl _ | apply Drawn0.step)⟩
  case round =>
   clear H'
   try clear c2
   try clear c2b0
   try clear c2b1
   try clear p2
   obtain ⟨x3_1, rfl, HA, HK1, ⟨m1, rfl⟩⟩ := hrel
   cases gk with
   | zero => exact absurd HA.out (by simp [spec_bkText.l0])
   | succ k1 =>
    have H := HA.out
    clear HA
    simp only [spec_bkText.l0] at H
    by_cases c3 : x3_1 < (a0.size : Int)
    ·
     rw [if_pos c3] at H
     have c3b0 : decide (x3_1 < (a0.size : Int)) = true := decide_eq_true c3
     clear c3
     by_cases c4 : 0 ≤ x3_1
     ·
      rw [if_pos c4] at H
      have c4b0 : decide (0 ≤ x3_1) = true := decide_eq_true c4
      clear c4
      by_cases c6 : (bt a0 x3_1) < 97
      ·
       rw [if_pos c6] at H
       have c6b0 : decide ((bt a0 x3_1) < 97) = true := decide_eq_true c6
       clear c6
       obtain rfl := Option.some.inj H
       have p5 : 0 ≤ (x3_1 : Int) := of_decide_eq_true (by first | (with_reducible assumption) | assumption)
       have q5 : x3_1 < (a0.size : Int) := of_decide_eq_true (by first | (with_reducible assumption) | assumption)
       have hx5 := bt_at a0 x3_1
       replace p5 := eq_true p5
       replace q5 := eq_true q5
       go_wp2
       go_ret
       exact ⟨by first | rfl | (simp; done) | (simp [*]; done), by repeat (first | exact Drawn0.refl _ | apply Drawn0.step)⟩
      ·
       rw [if_neg c6] at H
       have c6b0 : decide ((bt a0 x3_1) < 97) = false := decide_eq_false c6
       clear c6
       by_cases c8 : (bt a0 x3_1) > 122
       ·
        rw [if_pos c8] at H
        have c8b0 : decide (122 < (bt a0 x3_1)) = true := decide_eq_true c8
        clear c8
        obtain rfl := Option.some.inj H
        have p5 : 0 ≤ (x3_1 : Int) := of_decide_eq_true (by first | (with_reducible assumption) | assumption)
        have q5 : x3_1 < (a0.size : Int) := of_decide_eq_true (by first | (with_reducible assumption) | assumption)
        have hx5 := bt_at a0 x3_1
        replace p5 := eq_true p5
        replace q5 := eq_true q5
        have p7 : 0 ≤ (x3_1 : Int) := of_decide_eq_true (by first | (with_reducible assumption) | assumption)
        have q7 : x3_1 < (a0.size : Int) := of_decide_eq_true (by first | (with_reducible assumption) | assumption)
        have hx7 := bt_at a0 x3_1
        replace p7 := eq_true p7
        replace q7 := eq_true q7
        go_wp2
        go_ret
        exact ⟨by first | rfl | (simp; done) | (simp [*]; done), by repeat (first | exact Drawn0.refl _ | apply Drawn0.step)⟩
       ·
        rw [if_neg c8] at H
        have c8b0 : decide (122 < (bt a0 x3_1)) = false := decide_eq_false c8
        clear c8
        have H' := Aside0.mk H
        clear H
        have p5 : 0 ≤ (x3_1 : Int) := of_decide_eq_true (by first | (with_reducible assumption) | assumption)
        have q5 : x3_1 < (a0.size : Int) := of_decide_eq_true (by first | (with_reducible assumption) | assumption)
        have hx5 := bt_at a0 x3_1
        replace p5 := eq_true p5
        replace q5 := eq_true q5
        have p7 : 0 ≤ (x3_1 : Int) := of_decide_eq_true (by first | (with_reducible assumption) | assumption)
        have q7 : x3_1 < (a0.size : Int) := of_decide_eq_true (by first | (with_reducible assumption) | assumption)
        have hx7 := bt_at a0 x3_1
        replace p7 := eq_true p7
        replace q7 := eq_true q7
        go_wp2
        go_roundg k1
        case measure => have := HK1.out; omega
        case rel => exact ⟨(wrap64 (x3_1 + 1)), (by first | rfl | (simp; done) | (simp [*]; done)), H', ⟨by have := HK1.out; omega⟩, by repeat (first | exact Drawn0.refl _ | apply Drawn0.step)⟩
     ·
      rw [if_neg c4] at H
      exact absurd H (by simp)
    ·
     rw [if_neg c3] at H
     have c3b0 : decide (x3_1 < (a0.size : Int)) = false := decide_eq_false c3
     clear c3
     obtain rfl := Option.some.inj H
     go_wp2
     go_ret
     exact ⟨by first | rfl | (simp; done) | (simp [*]; done), by repeat (first | exact Drawn0.refl _ | apply Drawn0.step)⟩

end Go.Proofs.YtcidlaabbkimdaaDoor.P

namespace Go.Proofs.YtcidlaabbkimdaaDoor
open Go.RowKit Go.Proofs.YtcidlaabbkimdaaDoor.P Go.Proofs.YtcidlaabbkimdaaDoorW.PrintWords
set_option linter.unusedSimpArgs false
set_option linter.unusedVariables false
theorem over_eq (s cs : ByteArray) (h1 : s.size ≤ 9223372036854775807) (h2 : cs.size < 4294967281) (h3 : (bl cs).all (fun b => decide (b.toNat < 128)) = true) : impl_over.f s cs = some ((bl s).all ((bl cs).contains ·)) := by
  unfold impl_over.f strings_Trim.f
  rw [if_pos ⟨h1, h2, h3⟩]
  simp only [Option.bind_some]
  congr 1
  rw [bl_toList, bl_mk, List.toList_toArray]
  have := trimS_nil (bl s) (bl cs)
  unfold bl at this ⊢
  rw [Bool.eq_iff_iff, beq_iff_eq]
  exact this
theorem overLow_eq (s : ByteArray) (h1 : s.size ≤ 9223372036854775807) : impl_over.f s (⟨#[97, 98, 99, 100, 101, 102, 103, 104, 105, 106, 107, 108, 109, 110, 111, 112, 113, 114, 115, 116, 117, 118, 119, 120, 121, 122]⟩ : ByteArray) = some ((bl s).all isLow) := by
  rw [over_eq s _ h1 (by decide) (by decide)]
  congr 1
  congr 1
  funext c
  exact low_contains c
/-- Is it a text? -/
def textB (l : List UInt8) : Bool := decide (l.length ≤ 20) && l.all isLow
theorem isText_eq (s : ByteArray) (h1 : s.size ≤ 9223372036854775807) : impl_isText.f s = some (textB (bl s)) := by
  unfold impl_isText.f textB
  by_cases c : s.size ≤ 20
  · rw [if_pos (by omega), overLow_eq s h1, decide_eq_true (by rw [← bl_len]; exact c)]; rfl
  · rw [if_neg (by omega), decide_eq_false (by rw [← bl_len]; exact c), Bool.false_and]
theorem bkText_l0 (s : ByteArray) (hs : s.size ≤ 9223372036854775806) : ∀ (d i : Nat), i + d = s.size → Ev (fun k => spec_bkText.l0 k s i) (((bl s).drop i).all isLow)
  | 0, i, hi => by
    apply Ev.succ
    simp only [spec_bkText.l0]
    refine Ev.neg (by omega) (Ev.const ?_)
    rw [List.drop_of_length_le (by rw [← bl_len]; omega)]; rfl
  | d + 1, i, hi => by
    have hlt : i < (bl s).length := by rw [← bl_len]; omega
    apply Ev.succ
    simp only [spec_bkText.l0]
    refine Ev.pos (by omega) (Ev.pos (by omega) ?_)
    rw [wrap_id (by omega) (by omega), bt_nat s i hlt, List.drop_eq_getElem_cons hlt, List.all_cons]
    by_cases c1 : ((bl s)[i].toNat : Int) < 97
    · refine Ev.pos c1 (Ev.const ?_)
      have : isLow (bl s)[i] = false := by unfold isLow; rw [Bool.and_eq_false_iff]; left; rw [decide_eq_false_iff_not]; omega
      rw [this]; rfl
    · refine Ev.neg c1 ?_
      by_cases c2 : ((bl s)[i].toNat : Int) > 122
      · refine Ev.pos c2 (Ev.const ?_)
        have : isLow (bl s)[i] = false := by unfold isLow; rw [Bool.and_eq_false_iff]; right; rw [decide_eq_false_iff_not]; omega
        rw [this]; rfl
      · refine Ev.neg c2 ?_
        have : isLow (bl s)[i] = true := by unfold isLow; rw [Bool.and_eq_true, decide_eq_true_eq, decide_eq_true_eq]; omega
        rw [this, Bool.true_and]
        exact_mod_cast bkText_l0 s hs d (i + 1) (by omega)
theorem bkText_ev (s : ByteArray) : Ev (fun k => spec_bkText.f k s) (textB (bl s)) := by
  unfold spec_bkText.f textB
  by_cases c : s.size ≤ 20
  · refine Ev.neg (by omega) ?_
    rw [decide_eq_true (by rw [← bl_len]; exact c), Bool.true_and]
    exact bkText_l0 s (by omega) s.size 0 (by omega)
  · refine Ev.pos (by omega) (Ev.const ?_)
    rw [decide_eq_false (by rw [← bl_len]; exact c), Bool.false_and]
end Go.Proofs.YtcidlaabbkimdaaDoor

namespace Go.Proofs.YtcidlaabbkimdaaDoor
open Go.RowKit Go.Proofs.YtcidlaabbkimdaaDoor.P Go.Proofs.YtcidlaabbkimdaaDoorW.PrintWords
set_option linter.unusedSimpArgs false
set_option linter.unusedVariables false
theorem in_eq (n a b : Int) : impl_in.f n a b = some (decide (a ≤ n) && decide (n ≤ b)) := by
  unfold impl_in.f
  by_cases h : a ≤ n
  · rw [if_pos h]; simp [h]
  · rw [if_neg h]; simp [h]
theorem l1In_eq (n a b : Int) : spec_l1In.f n a b = some (decide (a ≤ n) && decide (n ≤ b)) := by
  unfold spec_l1In.f
  by_cases h : a ≤ n
  · rw [if_pos h]; simp [h]
  · rw [if_neg h]; simp [h]
end Go.Proofs.YtcidlaabbkimdaaDoor

namespace Go.Proofs.YtcidlaabbkimdaaDoor
open Go.RowKit Go.Proofs.YtcidlaabbkimdaaDoor.P Go.Proofs.YtcidlaabbkimdaaDoorW.PrintWords
set_option linter.unusedSimpArgs false
set_option linter.unusedVariables false
/-! Texts in strict order, each once: put in one after the other, or sorted at the end. -/
def SS (l : List ByteArray) : Prop := l.Pairwise (fun x y => bl x < bl y)
theorem less_iff (x y : ByteArray) : Op.bytesLess x.toList y.toList = decide (bl x < bl y) := by rw [ByteArray.toList_eq, ByteArray.toList_eq, bytesLess_eq]; rfl
theorem lt_total {a b : List UInt8} (h1 : ¬ a < b) (h2 : a ≠ b) : b < a := by
  by_cases h : b < a
  · exact h
  · exact absurd (List.le_antisymm (List.not_lt.1 h) (List.not_lt.1 h1)) h2
theorem ss_ext : ∀ l m : List ByteArray, SS l → SS m → (∀ z, z ∈ l ↔ z ∈ m) → l = m
  | [], [], _, _, _ => rfl
  | [], b :: m, _, _, h => by have := (h b).2 List.mem_cons_self; cases this
  | a :: l, [], _, _, h => by have := (h a).1 List.mem_cons_self; cases this
  | a :: l, b :: m, hl, hm, h => by
    obtain ⟨l1, l2⟩ := List.pairwise_cons.1 hl
    obtain ⟨m1, m2⟩ := List.pairwise_cons.1 hm
    have e : a = b := by
      rcases List.mem_cons.1 ((h a).1 List.mem_cons_self) with e | q1
      · exact e
      · rcases List.mem_cons.1 ((h b).2 List.mem_cons_self) with e | q2
        · exact e.symm
        · exact absurd (List.lt_trans (l1 _ q2) (m1 _ q1)) (List.lt_irrefl _)
    subst e
    congr 1
    refine ss_ext l m l2 m2 (fun z => ⟨fun hz => ?_, fun hz => ?_⟩)
    · rcases List.mem_cons.1 ((h z).1 (List.mem_cons_of_mem _ hz)) with e | q
      · subst e; exact absurd (l1 _ hz) (List.lt_irrefl _)
      · exact q
    · rcases List.mem_cons.1 ((h z).2 (List.mem_cons_of_mem _ hz)) with e | q
      · subst e; exact absurd (m1 _ hz) (List.lt_irrefl _)
      · exact q
theorem ss_get {l : List ByteArray} (h : SS l) {i j : Nat} (hi : i < l.length) (hj : j < l.length) (hij : i < j) : bl l[i] < bl l[j] := List.pairwise_iff_getElem.1 h i j hi hj hij
def Put (l : List ByteArray) (w : ByteArray) (R : List ByteArray) : Prop := SS R ∧ (∀ z, z ∈ R ↔ z = w ∨ z ∈ l) ∧ R.length ≤ l.length + 1
theorem put_ins {l : List ByteArray} {w : ByteArray} (hs : SS l) {m : Nat} (hm : m ≤ l.length) (h1 : ∀ i (h : i < l.length), i < m → bl l[i] < bl w) (h2 : ∀ i (h : i < l.length), m ≤ i → ¬ bl l[i] < bl w) (h3 : ∀ h : m < l.length, l[m] ≠ w) : Put l w ((l.take m ++ [w]) ++ l.drop m) := by
  have ht : ∀ z ∈ l.take m, bl z < bl w := by
    intro z hz
    obtain ⟨i, hi, rfl⟩ := List.mem_iff_getElem.1 hz
    rw [List.length_take] at hi
    rw [List.getElem_take]
    exact h1 i (by omega) (by omega)
  have hd : ∀ z ∈ l.drop m, bl w < bl z := by
    intro z hz
    obtain ⟨i, hi, rfl⟩ := List.mem_iff_getElem.1 hz
    rw [List.length_drop] at hi
    rw [List.getElem_drop]
    refine lt_total (h2 (m + i) (by omega) (by omega)) (fun e => ?_)
    have e' := bl_inj e
    rcases Nat.eq_zero_or_pos i with h0 | h0
    · subst h0; exact h3 (by omega) e'
    · have := ss_get hs (i := m) (j := m + i) (by omega) (by omega) (by omega)
      rw [e'] at this
      exact h2 m (by omega) (Nat.le_refl _) this
  refine ⟨?_, fun z => ?_, ?_⟩
  · unfold SS
    rw [List.pairwise_append, List.pairwise_append]
    refine ⟨⟨hs.sublist (List.take_sublist _ _), List.pairwise_singleton _ _, fun a ha b hb => by rw [List.mem_singleton.1 hb]; exact ht a ha⟩, hs.sublist (List.drop_sublist _ _), fun a ha b hb => ?_⟩
    rcases List.mem_append.1 ha with ha | ha
    · exact List.lt_trans (ht a ha) (hd b hb)
    · rw [List.mem_singleton.1 ha]; exact hd b hb
  · rw [List.mem_append, List.mem_append, List.mem_singleton]
    have e : z ∈ l ↔ z ∈ l.take m ∨ z ∈ l.drop m := by rw [← List.mem_append, List.take_append_drop]
    rw [e]
    constructor
    · rintro ((h | h) | h)
      · exact .inr (.inl h)
      · exact .inl h
      · exact .inr (.inr h)
    · rintro (h | h | h)
      · exact .inl (.inr h)
      · exact .inl (.inl h)
      · exact .inr h
  · rw [List.length_append, List.length_append, List.length_take, List.length_drop, List.length_singleton]; omega
def putF (x0 : List ByteArray) (x1 : ByteArray) (x5 : Int) : Option (List ByteArray) := if x5 < (x0.length : Int) then (if 0 ≤ x5 then (if (rdOf ByteArray.empty x0 x5).toList = x1.toList then (some x0) else (if x5 ≤ (x0.length : Int) then ((spec_l1OwnS.f (x0.take (x5 : Int).toNat)).bind fun t107 => (if t107.length < 8796093022208 then ((some (t107 ++ [x1] : List ByteArray)).bind fun y110 => ((some (x0.drop (x5 : Int).toNat : List ByteArray)).bind fun y113 => (if y110.length + y113.length < 8796093022208 then (some (y110 ++ y113)) else (none)))) else (none))) else (none))) else (none)) else (if 0 ≤ x5 then (if x5 ≤ (x0.length : Int) then ((spec_l1OwnS.f (x0.take (x5 : Int).toNat)).bind fun t124 => (if t124.length < 8796093022208 then ((some (t124 ++ [x1] : List ByteArray)).bind fun y127 => ((some (x0.drop (x5 : Int).toNat : List ByteArray)).bind fun y130 => (if y127.length + y130.length < 8796093022208 then (some (y127 ++ y130)) else (none)))) else (none))) else (none)) else (none))
theorem toList_inj {x y : ByteArray} : x.toList = y.toList ↔ x = y := by
  rw [ByteArray.toList_eq, ByteArray.toList_eq]
  exact ⟨fun h => bl_inj h, fun h => by rw [h]⟩
theorem put_fin {l : List ByteArray} {w : ByteArray} (hs : SS l) (hl : l.length ≤ 1000000) {m : Nat} (hm : m ≤ l.length) (h1 : ∀ i (h : i < l.length), i < m → bl l[i] < bl w) (h2 : ∀ i (h : i < l.length), m ≤ i → ¬ bl l[i] < bl w) : ∃ R, putF l w (m : Int) = some R ∧ Put l w R := by
  have hown : spec_l1OwnS.f (l.take m) = some (l.take m) := by
    unfold spec_l1OwnS.f
    simp only [Option.bind_some, List.length_nil, List.nil_append]
    rw [if_pos (by rw [List.length_take]; omega)]
  have hin : (if (l.take m).length < 8796093022208 then ((some (l.take m ++ [w] : List ByteArray)).bind fun y110 => ((some (l.drop m : List ByteArray)).bind fun y113 => (if y110.length + y113.length < 8796093022208 then (some (y110 ++ y113)) else (none)))) else (none)) = some ((l.take m ++ [w]) ++ l.drop m) := by
    rw [if_pos (by rw [List.length_take]; omega)]
    simp only [Option.bind_some]
    rw [if_pos (by rw [List.length_append, List.length_take, List.length_drop, List.length_singleton]; omega)]
  unfold putF
  rw [Int.toNat_natCast]
  by_cases c : m < l.length
  · rw [if_pos (by omega), if_pos (by omega)]
    have er : rdOf ByteArray.empty l (m : Int) = l[m] := by unfold rdOf; simp [List.getD, c]
    rw [er]
    by_cases e : l[m] = w
    · rw [if_pos (toList_inj.2 e)]
      exact ⟨l, rfl, hs, fun z => ⟨fun h => .inr h, fun h => h.elim (fun q => by rw [q, ← e]; exact List.getElem_mem c) id⟩, by omega⟩
    · rw [if_neg (fun q => e (toList_inj.1 q)), if_pos (by omega), hown, Option.bind_some, hin]
      exact ⟨_, rfl, put_ins hs hm h1 h2 (fun _ => e)⟩
  · rw [if_neg (by omega), if_pos (by omega), if_pos (by omega), hown, Option.bind_some, hin]
    exact ⟨_, rfl, put_ins hs hm h1 h2 (fun h => absurd h c)⟩
theorem wdPut_l0 {l : List ByteArray} {w : ByteArray} (hs : SS l) (hl : l.length ≤ 1000000) : ∀ m : Nat, m ≤ l.length → (∀ i (h : i < l.length), m ≤ i → ¬ bl l[i] < bl w) → ∃ R, Ev (fun k => spec_wdPut.l0 k l w (m : Int)) R ∧ Put l w R
  | 0, hm, h2 => by
    obtain ⟨R, e, hp⟩ := put_fin hs hl hm (fun i h q => by omega) h2
    refine ⟨R, ?_, hp⟩
    apply Ev.succ; simp only [spec_wdPut.l0]
    exact Ev.neg (by omega) (Ev.const e)
  | m + 1, hm, h2 => by
    have e1 : wrap64 (((m + 1 : Nat) : Int) - 1) = (m : Int) := by rw [wrap_id (by omega) (by omega)]; omega
    have er : rdOf ByteArray.empty l (m : Int) = l[m] := by unfold rdOf; simp [List.getD, show m < l.length by omega]
    by_cases c : bl l[m] < bl w
    · obtain ⟨R, e, hp⟩ := put_fin hs hl hm (fun i h q => by
        rcases Nat.lt_or_ge i m with q2 | q2
        · exact List.lt_trans (ss_get hs h (by omega) q2) c
        · obtain rfl : i = m := by omega
          exact c) h2
      refine ⟨R, ?_, hp⟩
      apply Ev.succ; simp only [spec_wdPut.l0, e1, er, less_iff]
      exact Ev.pos (by omega) (Ev.pos (by omega) (Ev.pos (by omega) (Ev.pos (decide_eq_true c) (Ev.const e))))
    · obtain ⟨R, e, hp⟩ := wdPut_l0 hs hl m (by omega) (fun i h q => by
        rcases Nat.lt_or_ge m i with q2 | q2
        · exact h2 i h q2
        · obtain rfl : i = m := by omega
          exact c)
      refine ⟨R, ?_, hp⟩
      apply Ev.succ; simp only [spec_wdPut.l0, e1, er, less_iff]
      exact Ev.pos (by omega) (Ev.pos (by omega) (Ev.pos (by omega) (Ev.neg (by rw [decide_eq_false c]; decide) e)))
theorem wdPut_ev {l : List ByteArray} (w : ByteArray) (hs : SS l) (hl : l.length ≤ 1000000) : ∃ R, Ev (fun k => spec_wdPut.f k l w) R ∧ Put l w R := wdPut_l0 hs hl l.length (Nat.le_refl _) (fun i h q => by omega)
/-! Sorted, each once. -/
theorem compact_ss (t : List ByteArray) (hs : t.Pairwise (fun x y => ¬ bl y < bl x)) : ∀ m : Nat, m ≤ t.length → SS (Lib.compactUpTo t.toArray m) ∧ ∀ z, z ∈ Lib.compactUpTo t.toArray m ↔ z ∈ t.take m
  | 0, _ => by
    unfold Lib.compactUpTo
    exact ⟨List.Pairwise.nil, fun z => by simp⟩
  | m + 1, hm => by
    obtain ⟨i1, i2⟩ := compact_ss t hs m (by omega)
    have hlt : m < t.length := by omega
    have eg : t.toArray[m]! = t[m] := by rw [getElem!_pos t.toArray m (by simpa using hlt)]; simp
    have et : t.take (m + 1) = t.take m ++ [t[m]] := by rw [List.take_succ_eq_append_getElem hlt]
    rw [Lib.compactUpTo_succ, eg, et]
    by_cases k : Lib.keeps t.toArray m = true
    · rw [if_pos k]
      refine ⟨?_, fun z => by rw [List.mem_append, List.mem_append, i2]⟩
      unfold SS
      rw [List.pairwise_append]
      refine ⟨i1, List.pairwise_singleton _ _, fun a ha b hb => ?_⟩
      rw [List.mem_singleton.1 hb]
      obtain ⟨i, hi, rfl⟩ := List.mem_iff_getElem.1 ((i2 a).1 ha)
      rw [List.length_take] at hi
      rw [List.getElem_take]
      unfold Lib.keeps at k
      rw [decide_eq_true_eq] at k
      have h0 : m ≠ 0 := by omega
      have k' := k.resolve_left h0
      rw [eg, getElem!_pos t.toArray (m - 1) (by simp; omega)] at k'
      have hle : ¬ bl t[m] < bl t[m - 1] := List.pairwise_iff_getElem.1 hs (m - 1) m (by omega) hlt (by omega)
      have hl2 : bl t[m - 1] < bl t[m] := lt_total hle (fun e => k' (by simpa using bl_inj e))
      rcases Nat.lt_or_ge i (m - 1) with q | q
      · have h3 : ¬ bl t[m - 1] < bl t[i] := List.pairwise_iff_getElem.1 hs i (m - 1) (by omega) (by omega) q
        by_cases e : bl t[i] = bl t[m - 1]
        · rw [e]; exact hl2
        · exact List.lt_trans (lt_total h3 (fun e' => e e'.symm)) hl2
      · have e : i = m - 1 := by omega
        subst e
        exact hl2
    · rw [if_neg k, List.append_nil]
      refine ⟨i1, fun z => ?_⟩
      rw [i2, List.mem_append, List.mem_singleton]
      refine ⟨fun h => .inl h, fun h => h.elim id (fun e => ?_)⟩
      unfold Lib.keeps at k
      rw [decide_eq_true_eq, not_or, Decidable.not_not] at k
      obtain ⟨k1, k2⟩ := k
      rw [eg, getElem!_pos t.toArray (m - 1) (by simp; omega)] at k2
      rw [e, k2, List.mem_iff_getElem]
      exact ⟨m - 1, by rw [List.length_take]; omega, by rw [List.getElem_take]; simp⟩
theorem sorted_eq (l : List ByteArray) (hl : l.length < 1000000) : ∃ R, impl_sorted.f l = some R ∧ SS R ∧ (∀ z, z ∈ R ↔ z ∈ l) ∧ R.length ≤ l.length := by
  have hp : (sortB l).Perm (l.map (·.data.toList)) := List.mergeSort_perm _ _
  have hsrt : (sortB l).Pairwise (fun x y => ¬ y < x) := by
    have := List.pairwise_mergeSort (le := fun x y : List UInt8 => decide (x ≤ y)) (fun a b c h1 h2 => by simp only [decide_eq_true_eq] at *; exact List.le_trans h1 h2) (fun a b => by
      by_cases h : a ≤ b
      · simp [h]
      · have : b ≤ a := List.le_of_lt (List.not_le.1 h)
        simp [this]) (l.map (·.data.toList))
    refine this.imp ?_
    intro a b h
    simp only [decide_eq_true_eq] at h
    exact List.not_lt.2 h
  have hS : (sortS l).Pairwise (fun x y => ¬ bl y < bl x) := by
    unfold sortS
    rw [List.pairwise_map]
    exact hsrt.imp (fun {a b} h => by simpa [bl] using h)
  have hmem : ∀ z, z ∈ sortS l ↔ z ∈ l := by
    intro z
    unfold sortS
    rw [List.mem_map]
    constructor
    · rintro ⟨b, hb, rfl⟩
      obtain ⟨x, hx, rfl⟩ := List.mem_map.1 (hp.mem_iff.1 hb)
      simpa using hx
    · intro hz
      exact ⟨z.data.toList, hp.mem_iff.2 (List.mem_map.2 ⟨z, hz, rfl⟩), by simp⟩
  obtain ⟨c1, c2⟩ := compact_ss (sortS l) hS (sortS l).length (Nat.le_refl _)
  rw [List.take_length] at c2
  refine ⟨Lib.compactUpTo (sortS l).toArray (sortS l).length, ?_, c1, fun z => (c2 z).trans (hmem z), ?_⟩
  · unfold impl_sorted.f slices_Sort_string_string.f slices_Compact_string_string.f
    rw [if_pos hl, Option.bind_some, if_pos (by rw [sortS_len]; exact hl)]
    rfl
  · have := compactS_len (sortS l)
    rw [sortS_len] at this ⊢
    exact this
end Go.Proofs.YtcidlaabbkimdaaDoor

namespace Go.Proofs.YtcidlaabbkimdaaDoor
open Go.RowKit Go.Proofs.YtcidlaabbkimdaaDoor.P Go.Proofs.YtcidlaabbkimdaaDoorW.PrintWords
set_option linter.unusedSimpArgs false
set_option linter.unusedVariables false
/-- Is it a word of a dictionary? -/
def wordB (l : List UInt8) : Bool := ((decide (1 ≤ l.length) && decide (l.length ≤ 40)) && l.all isLow) && decide (l.length ≤ 10)
theorem len_in40 (n : Nat) : (decide ((1 : Int) ≤ (n : Int)) && decide ((n : Int) ≤ 40)) = (decide (1 ≤ n) && decide (n ≤ 40)) := by
  congr 1 <;> (rw [decide_eq_decide]; omega)
theorem prWord_l0 (s : ByteArray) (hs : s.size ≤ 9223372036854775806) : ∀ (d i : Nat), i + d = s.size → Ev (fun k => spec_prWord.l0 k s i) (((bl s).drop i).all isLow)
  | 0, i, hi => by
    apply Ev.succ
    simp only [spec_prWord.l0]
    refine Ev.neg (by omega) (Ev.const ?_)
    rw [List.drop_of_length_le (by rw [← bl_len]; omega)]; rfl
  | d + 1, i, hi => by
    have hlt : i < (bl s).length := by rw [← bl_len]; omega
    have ih := prWord_l0 s hs d (i + 1) (by omega)
    apply Ev.succ
    simp only [spec_prWord.l0]
    refine Ev.pos (by omega) (Ev.pos (by omega) ?_)
    rw [wrap_id (by omega) (by omega), bt_nat s i hlt, List.drop_eq_getElem_cons hlt, List.all_cons]
    by_cases c1 : ((bl s)[i].toNat : Int) < 97
    · refine Ev.pos c1 (Ev.const ?_)
      have : isLow (bl s)[i] = false := by unfold isLow; rw [Bool.and_eq_false_iff]; left; rw [decide_eq_false_iff_not]; omega
      rw [this]; rfl
    · refine Ev.neg c1 ?_
      by_cases c2 : ((bl s)[i].toNat : Int) > 122
      · refine Ev.pos c2 (Ev.const ?_)
        have : isLow (bl s)[i] = false := by unfold isLow; rw [Bool.and_eq_false_iff]; right; rw [decide_eq_false_iff_not]; omega
        rw [this]; rfl
      · refine Ev.neg c2 ?_
        have : isLow (bl s)[i] = true := by unfold isLow; rw [Bool.and_eq_true, decide_eq_true_eq, decide_eq_true_eq]; omega
        rw [this, Bool.true_and]
        exact_mod_cast ih
theorem wdWord_ev (s : ByteArray) (h1 : s.size ≤ 1048576) : Ev (fun k => spec_wdWord.f k s) (wordB (bl s)) := by
  unfold spec_wdWord.f wordB
  refine Ev.bind (a := (decide (1 ≤ (bl s).length) && decide ((bl s).length ≤ 40)) && (bl s).all isLow) ?_ ?_
  · unfold spec_prWord.f
    refine Ev.bindc (l1In_eq _ _ _) ?_
    rw [len_in40, ← bl_len]
    cases (decide (1 ≤ s.size) && decide (s.size ≤ 40)) with
    | false => exact Ev.no (Ev.now _)
    | true =>
      refine Ev.yes ?_
      rw [Bool.true_and]
      have := prWord_l0 s (by omega) s.size 0 (by omega)
      rwa [List.drop_zero] at this
  · have e : decide ((s.size : Int) ≤ 10) = decide ((bl s).length ≤ 10) := by rw [decide_eq_decide]; rw [← bl_len]; omega
    rw [e]
    cases ((decide (1 ≤ (bl s).length) && decide ((bl s).length ≤ 40)) && (bl s).all isLow) with
    | false => exact Ev.no (Ev.now _)
    | true => exact Ev.yes (Ev.now _)
theorem isWord_eq (s : ByteArray) (h1 : s.size ≤ 1048576) : impl_IsWord.f s = some ((decide (1 ≤ (bl s).length) && decide ((bl s).length ≤ 40)) && (bl s).all isLow) := by
  unfold impl_IsWord.f
  rw [in_eq, len_in40, overLow_eq s (by omega), ← bl_len]
  cases (decide (1 ≤ s.size) && decide (s.size ≤ 40)) with
  | false => simp
  | true => cases (bl s).all isLow <;> simp
/-! A letter's key and the key's letters, on both sides. -/
def keyChk (n : Nat) : Option Bool := (impl_keyOf.f 20 (n : Int)).bind fun key => (spec_prKey.f 100 (n : Int)).bind fun q => (impl_group.f key).bind fun G => (spec_prLetters.f key).bind fun G2 => some (decide (key = q.1) && decide (G.data.toList = G2.data.toList) && decide (G.size ≤ 4) && G.data.toList.all (fun d => decide (d.toNat < 128)))
theorem key_all : ∀ n : Fin 26, keyChk (97 + n.val) = some true := by decide +kernel
theorem ev_of_mono {α : Type} {g : Nat → Option α} (h : ∀ k, LeO (g k) (g (k + 1))) {K : Nat} {r : α} (e : g K = some r) : Ev g r := by
  refine ⟨K, fun k hk => ?_⟩
  obtain ⟨d, rfl⟩ := Nat.exists_eq_add_of_le hk
  clear hk
  induction d with
  | zero => exact e
  | succ d ih => exact h (K + d) r ih
theorem key_ev (c : UInt8) (h : isLow c = true) : ∃ (key pl : Int) (G : ByteArray), Ev (fun k => impl_keyOf.f k (c.toNat : Int)) key ∧ impl_group.f key = some G ∧ Ev (fun k => spec_prKey.f k (c.toNat : Int)) (key, pl) ∧ spec_prLetters.f key = some G ∧ G.size ≤ 4 ∧ ∀ d ∈ bl G, d.toNat < 128 := by
  unfold isLow at h
  rw [Bool.and_eq_true, decide_eq_true_eq, decide_eq_true_eq] at h
  have hc := key_all ⟨c.toNat - 97, by omega⟩
  simp only at hc
  rw [show 97 + (c.toNat - 97) = c.toNat by omega] at hc
  unfold keyChk at hc
  obtain ⟨key, hk, hc⟩ := Option.bind_eq_some_iff.mp hc
  obtain ⟨q, hq, hc⟩ := Option.bind_eq_some_iff.mp hc
  obtain ⟨G, hG, hc⟩ := Option.bind_eq_some_iff.mp hc
  obtain ⟨G2, hG2, hc⟩ := Option.bind_eq_some_iff.mp hc
  have hc' := Option.some.inj hc
  simp only [Bool.and_eq_true, decide_eq_true_eq, List.all_eq_true] at hc'
  obtain ⟨⟨⟨e1, e2⟩, e3⟩, e4⟩ := hc'
  have e : G = G2 := bl_inj e2
  subst e
  subst e1
  exact ⟨q.1, q.2, G, ev_of_mono (fun k => impl_keyOf.mono _ k) hk, hG, ev_of_mono (fun k => spec_prKey.mono _ k) hq, hG2, e3, e4⟩
theorem wrong_bl (a : ByteArray) (i : Nat) (c : UInt8) (h : i < a.size) : bl (wrongW a i c) = (bl a).take i ++ [c] ++ (bl a).drop (i + 1) := by
  unfold wrongW
  rw [bl_append, bl_append, bl_extract, bl_extract, show bl (⟨#[c]⟩ : ByteArray) = [c] from rfl]
  have e1 : ((bl a).drop 0).take (i - 0) = (bl a).take i := by simp
  have e2 : ((bl a).drop (i + 1)).take (a.size - (i + 1)) = (bl a).drop (i + 1) := List.take_of_length_le (by rw [List.length_drop, ← bl_len]; exact Nat.le_refl _)
  rw [e1, e2]
theorem wrong_eq (a : ByteArray) (i : Nat) (c : UInt8) (h : i < (bl a).length) : (wrongW a i c).toList = a.toList ↔ c = (bl a)[i] := by
  rw [bl_toList, bl_toList, wrong_bl a i c h]
  constructor
  · intro e
    have e3 := congrArg (fun l : List UInt8 => l[i]?) e
    rw [List.append_assoc, List.getElem?_append_right (by rw [List.length_take]; omega), List.length_take, List.getElem?_eq_getElem h, show i - min i (bl a).length = 0 by omega] at e3
    simpa using e3
  · intro e
    subst e
    rw [List.append_assoc, List.singleton_append, ← List.drop_eq_getElem_cons h, List.take_append_drop]
theorem letters_at (a : ByteArray) (i : Nat) (hi : i < a.size) (G : ByteArray) (hasc : ∀ d ∈ bl G, d.toNat < 128) (kk : Nat) (hk : kk < G.size) : ∃ cG cA : UInt8, (bl G).drop kk = cG :: (bl G).drop (kk + 1) ∧ bt G (kk : Int) = (cG.toNat : Int) ∧ cG.toNat < 128 ∧ G.extract kk (kk + 1) = ⟨#[cG]⟩ ∧ ((wrongW a i cG).toList = a.toList ↔ cG = cA) ∧ bt a (i : Int) = (cA.toNat : Int) := by
  have hlt : kk < (bl G).length := hk
  have hil : i < (bl a).length := hi
  exact ⟨(bl G)[kk], (bl a)[i], List.drop_eq_getElem_cons hlt, bt_nat G kk hlt, hasc _ (List.getElem_mem hlt), bl_inj (by rw [bl_extract, show kk + 1 - kk = 1 by omega, List.drop_eq_getElem_cons hlt]; rfl), wrong_eq a i _ hil, bt_nat a i hil⟩
section
variable (a : ByteArray) (ha : a.size ≤ 10) (i : Nat) (hi : i < a.size) (G : ByteArray) (hG : G.size ≤ 4) (hasc : ∀ d ∈ bl G, d.toNat < 128)
include ha hi hG hasc
theorem wrong_l1 : ∀ (d kk : Nat) (S I : List ByteArray), kk + d = G.size → SS S → (∀ z, z ∈ S ↔ z ∈ I) → S.length ≤ 4 * i + kk → I.length ≤ 4 * i + kk →
    ∃ S2 acc2, wrongIn a i ((bl G).drop kk) I = some acc2 ∧ SS S2 ∧ (∀ z, z ∈ S2 ↔ z ∈ acc2) ∧ S2.length ≤ 4 * i + 4 ∧ acc2.length ≤ 4 * i + 4 ∧ ∀ r, Ev (fun k => spec_WrongOnKey.l0 k a S2 ((i + 1 : Nat) : Int)) r → Ev (fun k => spec_WrongOnKey.l1 k a S (i : Int) G (kk : Int)) r
  | 0, kk, S, I, hk, hS, hm, hl, hl2 => by
    refine ⟨S, I, by rw [List.drop_of_length_le (by rw [← bl_len]; omega)]; rfl, hS, hm, by omega, by omega, fun r hr => ?_⟩
    apply Ev.succ; simp only [spec_WrongOnKey.l1]
    refine Ev.neg (by omega) ?_
    rw [show wrap64 ((i : Int) + 1) = ((i + 1 : Nat) : Int) by rw [wrap_id (by omega) (by omega)]; omega]
    exact hr
  | d + 1, kk, S, I, hk, hS, hm, hl, hl2 => by
    have hk1 : kk < G.size := by omega
    have e1 : wrap64 ((i : Int) + 1) = ((i + 1 : Nat) : Int) := by rw [wrap_id (by omega) (by omega)]; omega
    have e2 : wrap64 ((kk : Int) + 1) = ((kk + 1 : Nat) : Int) := by rw [wrap_id (by omega) (by omega)]; omega
    obtain ⟨cG, cA, F1, F2, F3, F4, F5, F6⟩ := letters_at a i hi G hasc kk hk1
    rw [F1]
    have W1 := Aside0.mk F3
    have W2 := Aside0.mk F5
    have z1 : (a.extract 0 i).size ≤ 10 := by rw [ByteArray.size_extract]; omega
    have z2 : (G.extract kk (kk + 1)).size ≤ 4 := by rw [ByteArray.size_extract]; omega
    have z3 : (a.extract (i + 1) a.size).size ≤ 10 := by rw [ByteArray.size_extract]; omega
    have z4 : (a.extract 0 i ++ G.extract kk (kk + 1)).size ≤ 14 := by rw [ByteArray.size_append]; omega
    clear F3 F5 F1
    by_cases c : cG = cA
    · have C := Aside0.mk c
      clear c
      obtain ⟨S2, acc2, h1, h2, h3, h4, h5, h6⟩ := wrong_l1 d (kk + 1) S I (by omega) hS hm (Nat.le_succ_of_le hl) (Nat.le_succ_of_le hl2)
      refine ⟨S2, acc2, ?_, h2, h3, h4, h5, fun r hr => ?_⟩
      · unfold wrongIn
        rw [if_pos ⟨W1.out, by omega⟩, if_pos (W2.out.2 C.out)]
        exact h1
      · apply Ev.succ; simp only [spec_WrongOnKey.l1, e2]
        rw [F2, F6]
        exact Ev.pos (by omega) (Ev.pos (by omega) (Ev.pos (by omega) (Ev.pos (by omega) (Ev.pos (by rw [C.out]) (h6 r hr)))))
    · have C := Aside0.mk c
      clear c
      obtain ⟨w, hw⟩ : ∃ w, w = wrongW a i cG := ⟨_, rfl⟩
      have HW := Aside0.mk hw
      clear hw
      obtain ⟨R, p1, p2, p3, p4⟩ := wdPut_ev w hS (by omega)
      obtain ⟨S2, acc2, h1, h2, h3, h4, h5, h6⟩ := wrong_l1 d (kk + 1) R (I ++ [w]) (by omega) p2 (fun z => by rw [p3, List.mem_append, List.mem_singleton, hm]; exact Or.comm) (Nat.le_trans p4 (Nat.succ_le_succ hl)) (by rw [List.length_append, List.length_singleton]; exact Nat.succ_le_succ hl2)
      refine ⟨S2, acc2, ?_, h2, h3, h4, h5, fun r hr => ?_⟩
      · unfold wrongIn
        rw [if_pos ⟨W1.out, by omega⟩, if_neg (fun q => C.out (W2.out.1 q)), ← HW.out]
        exact h1
      · apply Ev.succ; simp only [spec_WrongOnKey.l1, e1, e2, Int.toNat_natCast]
        rw [F2, F6]
        refine Ev.pos (by omega) (Ev.pos (by omega) (Ev.pos (by omega) (Ev.pos (by omega) (Ev.neg (fun q => C.out ((byte_eq _ _).1 q)) (Ev.pos (by omega) (Ev.pos (by omega) (Ev.pos (by omega) (Ev.pos (by omega) (Ev.pos (by omega) (Ev.pos (by omega) (Ev.pos (by omega) ?_)))))))))))
        rw [F4, show a.extract 0 i ++ ⟨#[cG]⟩ ++ a.extract (i + 1) a.size = w by rw [HW.out]; rfl]
        exact Ev.bind p1 (h6 r hr)
end
theorem wrong_l0 (a : ByteArray) (ha : a.size ≤ 10) (hlow : ∀ d ∈ bl a, isLow d = true) : ∀ (n i : Nat) (S I : List ByteArray), i + n = a.size → SS S → (∀ z, z ∈ S ↔ z ∈ I) → S.length ≤ 4 * i → I.length ≤ 4 * i →
    ∃ R q, Ev (fun k => spec_WrongOnKey.l0 k a S (i : Int)) (R, true) ∧ Ev (fun k => wrongOut k a n i I) q ∧ impl_sorted.f q = some R ∧ R.length ≤ 100
  | 0, i, S, I, hi, hS, hm, hl, hl2 => by
    obtain ⟨R, e1, e2, e3, e4⟩ := sorted_eq I (by omega)
    have e : S = R := ss_ext S R hS e2 (fun z => (hm z).trans (e3 z).symm)
    subst e
    refine ⟨S, I, ?_, Ev.now _, e1, by omega⟩
    apply Ev.succ; simp only [spec_WrongOnKey.l0]
    exact Ev.neg (by omega) (Ev.now _)
  | n + 1, i, S, I, hi, hS, hm, hl, hl2 => by
    have hlt : i < (bl a).length := by rw [← bl_len]; omega
    obtain ⟨key, pl, G, k1, k2, k3, k4, k5, k6⟩ := key_ev (bl a)[i] (hlow _ (List.getElem_mem hlt))
    obtain ⟨S2, acc2, h1, h2, h3, h4, h5, h6⟩ := wrong_l1 a ha i (by omega) G k5 k6 G.size 0 S I (by omega) hS hm (by omega) (by omega)
    obtain ⟨R, q, r1, r2, r3, r4⟩ := wrong_l0 a ha hlow n (i + 1) S2 acc2 (by omega) h2 h3 (by omega) (by omega)
    refine ⟨R, q, ?_, ?_, r3, r4⟩
    · apply Ev.succ; simp only [spec_WrongOnKey.l0]
      rw [bt_nat a i hlt]
      exact Ev.pos (by omega) (Ev.pos (by omega) (Ev.bind k3 (Ev.bindc k4 (h6 _ r1))))
    · show Ev (fun k => (impl_keyOf.f k (bt a (i : Int))).bind fun key => (impl_group.f key).bind fun g => (wrongIn a i g.data.toList I).bind fun acc' => wrongOut k a n (i + 1) acc') q
      rw [bt_nat a i hlt]
      exact Ev.bind k1 (Ev.bindc k2 (Ev.bindc h1 r2))
theorem wrong_both (s : ByteArray) (h : s.size ≤ 1048576) : ∃ r : List ByteArray × Bool, Ev (fun k => spec_WrongOnKey.f k s) r ∧ Ev (fun k => impl_WrongOnKey.f k s) r ∧ r.1.length ≤ 100 := by
  unfold spec_WrongOnKey.f impl_WrongOnKey.f
  have hw := wdWord_ev s h
  have hi := isWord_eq s h
  unfold wordB at hw
  cases h1 : ((decide (1 ≤ (bl s).length) && decide ((bl s).length ≤ 40)) && (bl s).all isLow) with
  | false =>
    rw [h1] at hw hi
    exact ⟨([], false), Ev.bind hw (Ev.no (Ev.now _)), Ev.bindc hi (Ev.no (Ev.now _)), Nat.zero_le _⟩
  | true =>
    rw [h1, Bool.true_and] at hw
    rw [h1] at hi
    by_cases c : s.size ≤ 10
    · rw [decide_eq_true (by rw [← bl_len]; exact c)] at hw
      rw [Bool.and_eq_true, List.all_eq_true] at h1
      obtain ⟨R, q, r1, r2, r3, r4⟩ := wrong_l0 s c h1.2 s.size 0 [] [] (by omega) List.Pairwise.nil (fun z => Iff.rfl) (by simp) (by simp)
      exact ⟨(R, true), Ev.bind hw (Ev.yes r1), Ev.bindc hi (Ev.yes (Ev.neg (by omega) (Ev.bind r2 (Ev.const (by rw [r3]; rfl))))), r4⟩
    · rw [decide_eq_false (by rw [← bl_len]; exact c)] at hw
      exact ⟨([], false), Ev.bind hw (Ev.no (Ev.now _)), Ev.bindc hi (Ev.yes (Ev.pos (by omega) (Ev.now _))), Nat.zero_le _⟩
end Go.Proofs.YtcidlaabbkimdaaDoor

namespace Go.Proofs.YtcidlaabbkimdaaDoor
open Go.RowKit Go.Proofs.YtcidlaabbkimdaaDoor.P Go.Proofs.YtcidlaabbkimdaaDoorW.PrintWords
set_option linter.unusedSimpArgs false
set_option linter.unusedVariables false
/-! Lists of texts: what the laws do with them. -/
theorem rdB (l : List ByteArray) (j : Nat) (h : j < l.length) : rdOf ByteArray.empty l (j : Int) = l[j] := by unfold rdOf; simp [List.getD, h]
theorem eqSS_l0 (a : List ByteArray) (hl : a.length ≤ 9223372036854775806) : ∀ (d i : Nat), i + d = a.length → Ev (fun k => laws_eqStringS.l0 k a a i) true
  | 0, i, hi => by
    apply Ev.succ; simp only [laws_eqStringS.l0]
    exact Ev.neg (by omega) (Ev.now _)
  | d + 1, i, hi => by
    have ih := eqSS_l0 a hl d (i + 1) (by omega)
    apply Ev.succ; simp only [laws_eqStringS.l0]
    refine Ev.pos (by omega) (Ev.pos (by omega) (Ev.pos (by omega) (Ev.pos (by trivial) ?_)))
    rw [show wrap64 ((i : Int) + 1) = ((i + 1 : Nat) : Int) by rw [wrap_id (by omega) (by omega)]; omega]
    exact ih
theorem eqSS_ev (a : List ByteArray) (hl : a.length ≤ 9223372036854775806) : Ev (fun k => laws_eqStringS.f k a a) true := by
  unfold laws_eqStringS.f
  exact Ev.pos rfl (eqSS_l0 a hl a.length 0 (by omega))
theorem markText_l0 : ∀ (n x : Nat) (out : ByteArray), x ≤ n → out.size + x ≤ 4611686018427387904 → ∃ t, Ev (fun k => laws_markText.l0 k (x : Int) out) t
  | 0, x, out, hx, ho => by
    obtain rfl : x = 0 := by omega
    refine ⟨(⟨#[109]⟩ : ByteArray) ++ out, Ev.succ ?_⟩
    simp only [laws_markText.l0]
    exact Ev.neg (by omega) (Ev.pos (by omega) (Ev.now _))
  | n + 1, x, out, hx, ho => by
    by_cases c : 0 < x
    · have hs : (strOfNums ([(wrap64 (48 + (Int.tmod (x : Int) 10))) % 256] : List Int)).size = 1 := by rw [strOfNums_size]; rfl
      have hs2 : (strOfNums ([(wrap64 (48 + (Int.tmod (x : Int) 10))) % 256] : List Int) ++ out).size = 1 + out.size := by rw [ByteArray.size_append, hs]
      obtain ⟨t, ht⟩ := markText_l0 n (x / 10) (strOfNums ([(wrap64 (48 + (Int.tmod (x : Int) 10))) % 256] : List Int) ++ out) (by omega) (by omega)
      refine ⟨t, Ev.succ ?_⟩
      simp only [laws_markText.l0]
      refine Ev.pos (by omega) (Ev.bindc rfl (Ev.pos (by rw [hs]; omega) ?_))
      rw [show wrap64 (Int.tdiv (x : Int) 10) = ((x / 10 : Nat) : Int) by rw [Int.tdiv_eq_ediv_of_nonneg (by omega), wrap_id (by omega) (by omega)]; omega]
      exact ht
    · obtain rfl : x = 0 := by omega
      refine ⟨(⟨#[109]⟩ : ByteArray) ++ out, Ev.succ ?_⟩
      simp only [laws_markText.l0]
      exact Ev.neg (by omega) (Ev.pos (by omega) (Ev.now _))
theorem markText_ev (x : Nat) (hx : x ≤ 4611686018427387904) : ∃ t, Ev (fun k => laws_markText.f k (x : Int)) t := by
  unfold laws_markText.f
  by_cases c : x = 0
  · exact ⟨_, Ev.pos (by omega) (Ev.now _)⟩
  · obtain ⟨t, ht⟩ := markText_l0 x x (⟨#[]⟩ : ByteArray) (Nat.le_refl _) (by show 0 + x ≤ _; omega)
    exact ⟨t, Ev.neg (by omega) ht⟩
theorem marks : ∃ M : Nat → ByteArray, ∀ x : Nat, x ≤ 4611686018427387904 → Ev (fun k => laws_markText.f k (x : Int)) (M x) := by
  refine ⟨fun x => if h : x ≤ 4611686018427387904 then Classical.choose (markText_ev x h) else ByteArray.empty, fun x hx => ?_⟩
  simp only [dif_pos hx]
  exact Classical.choose_spec (markText_ev x hx)
section
variable (M : Nat → ByteArray) (hM : ∀ x : Nat, x ≤ 4611686018427387904 → Ev (fun k => laws_markText.f k (x : Int)) (M x))
include hM
theorem markSS_l0 : ∀ (d i : Nat) (l : List ByteArray), i + d = l.length → l.length ≤ 1000000000 → l.take i = (List.range i).map (fun j => M (1 + j)) → Ev (fun k => laws_markStringS.l0 k l ((1 + i : Nat) : Int) (i : Int)) (((1 + l.length : Nat) : Int), (List.range l.length).map (fun j => M (1 + j)))
  | 0, i, l, hi, hl, ht => by
    apply Ev.succ; simp only [laws_markStringS.l0]
    refine Ev.neg (by omega) (Ev.const ?_)
    obtain rfl : i = l.length := by omega
    rw [List.take_length] at ht
    rw [← ht]
  | d + 1, i, l, hi, hl, ht => by
    have hlt : i < l.length := by omega
    have ih := markSS_l0 d (i + 1) (l.set i (M (1 + i))) (by rw [List.length_set]; omega) (by rw [List.length_set]; omega) (by
      rw [List.take_succ_eq_append_getElem (by rw [List.length_set]; omega), List.take_set_of_le (Nat.le_refl _), ht, List.range_succ, List.map_append]; simp)
    rw [List.length_set] at ih
    apply Ev.succ; simp only [laws_markStringS.l0]
    refine Ev.pos (by omega) (Ev.bind (hM (1 + i) (by omega)) (Ev.pos (by omega) ?_))
    rw [Int.toNat_natCast, show wrap64 (((1 + i : Nat) : Int) + 1) = ((1 + (i + 1) : Nat) : Int) by rw [wrap_id (by omega) (by omega)]; omega, show wrap64 ((i : Int) + 1) = ((i + 1 : Nat) : Int) by rw [wrap_id (by omega) (by omega)]; omega]
    exact ih
theorem markSS_ev (l : List ByteArray) (hl : l.length ≤ 1000000000) : Ev (fun k => laws_markStringS.f k l 1) (((1 + l.length : Nat) : Int), (List.range l.length).map (fun j => M (1 + j))) := markSS_l0 M hM l.length 0 l (by omega) hl rfl
theorem heldSS_l0 (n : Nat) (hn : n ≤ 1000000000) : ∀ (d i : Nat), i + d = n → Ev (fun k => laws_heldStringS.l0 k ((List.range n).map (fun j => M (1 + j))) ((1 + i : Nat) : Int) (i : Int)) ((1 + n : Nat) : Int)
  | 0, i, hi => by
    apply Ev.succ; simp only [laws_heldStringS.l0, List.length_map, List.length_range]
    refine Ev.neg (by omega) (Ev.const ?_)
    rw [show i = n by omega]
  | d + 1, i, hi => by
    have ih := heldSS_l0 n hn d (i + 1) (by omega)
    apply Ev.succ; simp only [laws_heldStringS.l0, List.length_map, List.length_range]
    refine Ev.pos (by omega) (Ev.pos (by omega) (Ev.bind (hM (1 + i) (by omega)) (Ev.pos ?_ ?_)))
    · rw [rdB _ i (by simp; omega)]; simp
    · rw [show wrap64 (((1 + i : Nat) : Int) + 1) = ((1 + (i + 1) : Nat) : Int) by rw [wrap_id (by omega) (by omega)]; omega, show wrap64 ((i : Int) + 1) = ((i + 1 : Nat) : Int) by rw [wrap_id (by omega) (by omega)]; omega]
      exact ih
theorem heldSS_ev (n : Nat) (hn : n ≤ 1000000000) : Ev (fun k => laws_heldStringS.f k ((List.range n).map (fun j => M (1 + j))) 1) ((1 + n : Nat) : Int) := heldSS_l0 M hM n hn n 0 (by omega)
end
end Go.Proofs.YtcidlaabbkimdaaDoor

/- FnExactWrongOnKey: both sides tell the same words of one wrong letter on its key, in order and each once, and what is told is nobody else's: over the functions that the walk computes. -/
namespace Go.Proofs.YtcidlaabbkimdaaDoor
open Go.RowKit Go.Proofs.YtcidlaabbkimdaaDoor.P Go.Proofs.YtcidlaabbkimdaaDoorW.PrintWords
set_option linter.unusedSimpArgs false
set_option linter.unusedVariables false
theorem pure_FnExactWrongOnKey : PureFnExactWrongOnKey := by
  intro s h
  refine Ev.rounds (g := fun k => laws_FnExactWrongOnKey.f k s) ?_
  unfold laws_FnExactWrongOnKey.f
  rcases Nat.lt_or_ge 1048576 s.size with c0 | c0
  · exact Ev.pos (by omega) (Ev.now _)
  obtain ⟨q, q1, q2, q3⟩ := wrong_both s c0
  obtain ⟨M, hM⟩ := marks
  have eq := eqSS_ev q.1 (by omega)
  have mk := markSS_ev M hM q.1 (by omega)
  have hd := heldSS_ev M hM q.1.length (by omega)
  refine Ev.neg (by omega) (Ev.bind q1 (Ev.bind q2 (Ev.bind eq (Ev.pos rfl ?_))))
  apply Ev.succ
  simp only [laws_FnExactWrongOnKey.j0]
  refine Ev.neg (by simp) (Ev.bind mk (Ev.bind hd (Ev.neg (by omega) (Ev.pos rfl (Ev.bind q2 (Ev.bind eq (Ev.pos rfl ?_)))))))
  apply Ev.succ
  simp only [laws_FnExactWrongOnKey.j1]
  exact Ev.neg (by simp) (Ev.bind hd (Ev.neg (by omega) (Ev.pos rfl (Ev.now _))))
end Go.Proofs.YtcidlaabbkimdaaDoor

namespace Go.Proofs.YtcidlaabbkimdaaDoor
open Go.RowKit Go.Proofs.YtcidlaabbkimdaaDoorW.PrintWords Go.ChangeShapes Go.WideShapes

theorem C_scalar {α : Type} {enc : α → Value} {h1 : ∀ x, (enc x).oneCell' = true} {w : World} {A : Option Addr} {l : List α} (hn : l.length ≤ 9223372036854775807)
    (hcell : 0 < l.length → ∃ ad, A = some ad ∧ ∀ j x, l[j]? = some x → w.cell? (ad.add j) = some (enc x)) : (Kd.scalar enc h1).C w A l.length l := by
  refine ⟨rfl, hn, fun hp => ?_⟩
  obtain ⟨ad, hA, hc⟩ := hcell hp
  refine ⟨ad, hA, fun j x hx => ⟨[enc x], rfl, rfl, fun i u hu => ?_⟩⟩
  match i, hu with
  | 0, hu =>
    have : enc x = u := by simpa using hu
    subst this
    show w.cell? (ad.add (j * 1 + 0)) = _
    rw [Nat.mul_one, Nat.add_zero]
    exact hc j x hx
  | i + 1, hu => simp at hu

section
variable {H : Type} {enc : TypeId × Value → H} {P : Program} {w : World} {base : Nat} {spare : Nat → Bool} {held : Bool}

/-- A cell that reads at a slice of whole numbers. -/
theorem read_ints {t e : TypeId} {k : IntKind} {fuel : Nat} {v : Value} {y : DataW H × List MemPlace} (ht : P.underlying t = some (.slice e)) (he : P.underlying e = some (.int k)) (hc : P.cellsOf e = 1)
    (hf : DataW.trod enc P w base spare held fuel t [v] = some y) :
    ∃ (A : Option Addr) (c : Nat) (l : List Int), v = .slice A l.length c ∧ l.length ≤ c ∧ (∀ x ∈ l, (Lit.int k x).wf = true) ∧ (Kd.int k).C w A l.length l := by
  rcases open_ints ht he hc hf with ⟨hcs, _⟩ | ⟨a, len, cap, zs, hcs, _, hl, hm, hz, _, hcell, hwf⟩
  · obtain rfl : v = .slice none 0 0 := by simpa using hcs
    exact ⟨none, 0, [], rfl, Nat.le_refl _, fun x hx => by simp at hx, rfl, by simp, fun h => absurd h (by simp)⟩
  · obtain rfl : v = .slice (some a) len cap := by simpa using hcs
    have hlz : len ≤ zs.length := by rw [hz]; split <;> omega
    have hlen : (zs.take len).length = len := by rw [List.length_take]; omega
    refine ⟨some a, cap, zs.take len, by rw [hlen], by rw [hlen]; exact hl, fun x hx => hwf x (List.mem_of_mem_take hx), ?_⟩
    refine C_scalar (by rw [hlen]; unfold maxLen at hm; omega) (fun hp => ⟨a, rfl, fun j x hj => ?_⟩)
    have hj' : j < len := by have := (List.getElem?_eq_some_iff.1 hj).1; rw [hlen] at this; exact this
    rw [hcell j (by omega)]
    rw [List.getElem?_take_of_lt hj'] at hj
    rw [List.getD_eq_getElem?_getD, hj]; rfl

/-- A cell that reads at a slice of strings. -/
theorem read_strs {t e : TypeId} {fuel : Nat} {v : Value} {y : DataW H × List MemPlace} (ht : P.underlying t = some (.slice e)) (he : P.underlying e = some .string) (hc : P.cellsOf e = 1)
    (hf : DataW.trod enc P w base spare held fuel t [v] = some y) :
    ∃ (A : Option Addr) (c : Nat) (l : List ByteArray), v = .slice A l.length c ∧ l.length ≤ c ∧ (∀ s ∈ l, s.size ≤ 9223372036854775807) ∧ Kd.string.C w A l.length l := by
  rcases open_strings ht he hc hf with ⟨hcs, _⟩ | ⟨a, len, cap, zs, hcs, _, hl, hm, hz, _, hcell, hwf⟩
  · obtain rfl : v = .slice none 0 0 := by simpa using hcs
    exact ⟨none, 0, [], rfl, Nat.le_refl _, fun x hx => by simp at hx, rfl, by simp, fun h => absurd h (by simp)⟩
  · obtain rfl : v = .slice (some a) len cap := by simpa using hcs
    have hlz : len ≤ zs.length := by rw [hz]; split <;> omega
    have hlen : (zs.take len).length = len := by rw [List.length_take]; omega
    refine ⟨some a, cap, zs.take len, by rw [hlen], by rw [hlen]; exact hl, fun x hx => by have := hwf x (List.mem_of_mem_take hx); unfold maxLen at this; omega, ?_⟩
    refine C_scalar (by rw [hlen]; unfold maxLen at hm; omega) (fun hp => ⟨a, rfl, fun j x hj => ?_⟩)
    have hj' : j < len := by have := (List.getElem?_eq_some_iff.1 hj).1; rw [hlen] at this; exact this
    rw [hcell j (by omega)]
    rw [List.getElem?_take_of_lt hj'] at hj
    rw [List.getD_eq_getElem?_getD, hj]; rfl

theorem read_int {t : TypeId} {k : IntKind} {fuel : Nat} {v : Value} {y : DataW H × List MemPlace} (ht : P.underlying t = some (.int k))
    (hf : DataW.trod enc P w base spare held fuel t [v] = some y) : ∃ n : Int, v = .int k n ∧ (Lit.int k n).wf = true := by
  obtain ⟨n, e1, _, h⟩ := DataW.trod_int ht hf
  exact ⟨n, by simpa using e1, h⟩
end

/-- The cells of a datum that holds numbers alone, an array's elements being numbers or structs of numbers. -/
def litsOf : DataW Unit → List Value
  | .lit (.int k n) => [.int k n]
  | .agg l => l.flatMap fun
    | .lit (.int k n) => [.int k n]
    | .agg l2 => l2.flatMap fun
      | .lit (.int k n) => [.int k n]
      | _ => []
    | _ => []
  | _ => []
end Go.Proofs.YtcidlaabbkimdaaDoor

/- FnExactWrongOnKeyCardSaid: the law 'FnExactWrongOnKey' answers true for every input, and leaves its arguments as they were. The row and its tied card, over the walk of its calls and the pure statement. -/
namespace Go.Proofs.YtcidlaabbkimdaaDoor.fnExactWrongOnKey
open Go.ChangeShapes Go.WideShapes Go.ChangeAt Go.RowKit Go.Proofs.YtcidlaabbkimdaaDoor.P Go.Proofs.YtcidlaabbkimdaaDoorW.PrintWords
open Go.ChangeMaps (open_string shut_string)
set_option linter.unusedVariables false
theorem own : ownKnob Tryd.prog.godebug = none := by kernel_rfl
/-- What the row lists of package-level variables. -/
noncomputable def laidList : List (String × DataW Unit) := [("unicode/utf8.acceptRanges", Rows.laid_unicode_utf8_acceptRanges), ("unicode/utf8.first", Rows.laid_unicode_utf8_first)]
/-- A world that meets it: the settled one, the listed variables laid. -/
noncomputable def laidWorld (os : Os) : World :=
  let w0 := World.holding Tryd.prog os ⟨#[], #[], []⟩
  { w0 with heap := ((w0.heap.modify 2 fun o => match o with | .cells _ t frozen => .cells (litsOf Rows.laid_unicode_utf8_acceptRanges).toArray t frozen | o => o).modify 1 fun o => match o with | .cells _ t frozen => .cells (litsOf Rows.laid_unicode_utf8_first).toArray t frozen | o => o) }
theorem laidWorld_met (os : Os) (args : Array Value) : laidMetH Tryd.prog laidList ((laidWorld os).forCall (fun _ _ => 0) ⟨#[], args, []⟩).memory :=
  laidMetH_of_parts3 (fuel := 8) (laidMet_of_run' 8 (by kernel_rfl) (by kernel_rfl)) (by kernel_rfl) (by kernel_rfl)
set_option maxRecDepth 100000 in
theorem lifted (os : Os) (started : os.Started) (H : Type) (enc : TypeId × Value → H) :
    ReturnsInHanded {} Tryd.checked os 9 .any (fun w args => (Rows.fnExactWrongOnKeySpec.pre enc Tryd.prog Tryd.f9 [] false w args ∧ laidMetH Tryd.prog laidList w) ∧ sizedMet enc Tryd.prog Tryd.f9 (OpenSpec.ofChange Rows.fnExactWrongOnKeySpec) false w args)
      (Rows.fnExactWrongOnKeySpec.post enc Tryd.prog Tryd.f9 false true false false) := by
  refine returnsInHanded_of_change_and (C := Tryd.checked) (X := fun w _ => laidMetH Tryd.prog laidList w) (fun _ _ _ hh h => h.of_heap hh) own started (by kernel_rfl) Tryd.func9
    (ChangeSpec.witness_at (enc := enc) (C := Tryd.checked) (os := os) (X := fun w _ => laidMetH Tryd.prog laidList w) false (laidWorld os) #[.string ByteArray.empty] 8 rfl (by kernel_rfl) (by kernel_rfl) (by kernel_rfl) (by kernel_rfl) (by kernel_rfl) (laidWorld_met os _)) ?_
  intro W base args ds gs before hval0 hW _ _ hL _
  have hval : ∀ (j : Nat) t v, Tryd.f9.params[j]? = some t → args[j]? = some v → Value.okWide Tryd.prog W .any base t v := hval0
  have hW' := hW
  obtain ⟨p, q, hA0, hV, rfl, hfz, hnd⟩ := hW
  have hA : DataW.TrodAll enc Tryd.prog W 0 (fun _ => true) true Tryd.f9.params.toList args.toList ds p := hA0
  rw [Tryd.params9] at hA hval
  obtain ⟨v0, vs0, d0, ds0, p0, q0, hargs, rfl, rfl, h0, r0⟩ := trodAll_cons hA
  obtain ⟨rfl, rfl, rfl⟩ := trodAll_nil r0
  obtain rfl : args = #[v0] := by cases args; simp_all
  obtain ⟨rfl, rfl⟩ := trodVars_none hV
  obtain ⟨a0, rfl, rfl, rfl, y0⟩ := open_string Tryd.underlying9 (hval 0 9 v0 rfl rfl) h0
  have z0 : a0.size ≤ 9223372036854775807 := by unfold maxLen at y0; omega
  clear hA0 hval0
  simp only [List.append_nil] at hW'
  obtain ⟨k, hk⟩ := pure_FnExactWrongOnKey a0 z0
  refine (laws_FnExactWrongOnKey.calls k a0 true W  hk).mono fun e W' ⟨he, bel0⟩ => ?_
  have bel : Below W.heap.size W W' := bel0
  subst he
  exact ⟨_, rfl, _, _, _, [], _, [], hW', trodAll_mk1 (shut_bool Tryd.underlying4 _), (trodAll_cons_mk (shut_string Tryd.underlying9 y0) trodAll_mk0), rfl, bel.frame _, fun h => by cases h⟩
theorem over : Rows.fnExactWrongOnKeyRow.holds Tryd.pinned (OpenSpec.ofChange Rows.fnExactWrongOnKeySpec) :=
  OpenClaim.holds_of_wide 9 Tryd.f9 rfl rfl rfl rfl rfl rfl rfl ⟨rfl, rfl, rfl, rfl, rfl⟩ rfl rfl rfl rfl rfl (by kernel_rfl) Tryd.func9 (by kernel_rfl)
    (of_decide_eq_true (by kernel_rfl)) (by unfold Func.isWrapper; first | (rw [if_pos (by decide +kernel)]; kernel_rfl) | (rw [if_neg (by decide +kernel)]; exact ⟨rfl, rfl⟩))
    (fun os started H enc _ => lifted os started H enc)
theorem proved : Rows.FnExactWrongOnKeySaid := over
theorem card : Rows.FnExactWrongOnKeyCardSaid :=
  Claim7.holds_tied_plain_at .later [] [.data, .pinned] true (true, "d140f6f1362a90cb9246e5652668875681c3f42ba2c2d01b802424be74bead35") false
    proved (fun _ h => by cases h) (by kernel_rfl) (fun _ h => by cases h) fnExactWrongOnKey_row_tie rfl ⟨rfl, rfl⟩ (by kernel_rfl) rfl
    (fun f fn hf hfn => by
      obtain rfl : f = 9 := Option.some.inj ((show Tryd.prog.funcNamed "loop.example/g01350/laws.FnExactWrongOnKey" = some 9 by kernel_rfl).symm.trans hf) |>.symm
      obtain rfl : fn = Tryd.f9 := (Option.some.inj (Tryd.func9.symm.trans hfn)).symm
      exact ⟨by kernel_rfl, fun j t ht => by
        rw [Tryd.params9] at ht
        have hm : t ∈ #[9] := Array.mem_of_getElem? ht
        have hm : t ∈ [9] := by simpa using hm
        have hall : ([9].all fun u => !Tryd.prog.wantsStandIn u) = true := by kernel_rfl
        exact (show Tryd.prog.wantsStandIn t = false by simpa using List.all_eq_true.1 hall t hm)⟩)
    (by kernel_rfl)
#print axioms card
end Go.Proofs.YtcidlaabbkimdaaDoor.fnExactWrongOnKey
namespace Go.Proofs.YtcidlaabbkimdaaDoor
theorem fnExactWrongOnKey_holds : Rows.FnExactWrongOnKeyCardSaid := fnExactWrongOnKey.card
end Go.Proofs.YtcidlaabbkimdaaDoor

