/- Part 4 of 6 of the proof of: FnExactStuckForCardSaid: the law 'FnExactStuckFor' answers true for every input, and leaves its arguments as they were. The row and its tied card, over the walk of its calls and the pure statement. -/
import Derived.Test.YtcidlaabbkimdaaDoorMFnExactStuckFor1
-- printed by xprint.py
namespace Go.Proofs.YtcidlaabbkimdaaDoor.P
open Go.RowKit Go.Proofs.YtcidlaabbkimdaaDoorW.PrintWords Go.Proofs.YtcidlaabbkimdaaDoorW.PrintLast Go.Proofs.YtcidlaabbkimdaaDoorW.PrintMore
attribute [local go_sem] max2_int min2_int max_two min_two max_three min_three max_four min_four   -- for this text's walks alone
set_option linter.unusedVariables false
set_option linter.unusedSimpArgs false

/-! ### slices_partitionOrdered_byte: function 84 -/
mutual
def slices_partitionOrdered_byte.j1 : Nat → List Int → Int → Int → Int → Option (Int × Bool × List Int)
 | 0,_,_,_,_ => none
 | k + 1,x0,x1,x10,x11 => slices_partitionOrdered_byte.l1 k x0 x1 x10 x11
def slices_partitionOrdered_byte.j3 : Nat → List Int → Int → Int → Int → Option (Int × Bool × List Int)
 | 0,_,_,_,_ => none
 | k + 1,x0,x1,x10,x11 => if x10 > x11 then (if 0 ≤ x1 then (if x1 < (x0.length : Int) then (if 0 ≤ x11 then (if x11 < (x0.length : Int) then (some (x11,true,((x0.set (x11 : Int).toNat (rd x0 x1)).set (x1 : Int).toNat (rd x0 x11)))) else (none)) else (none)) else (none)) else (none)) else (if 0 ≤ x11 then (if x11 < (x0.length : Int) then (if 0 ≤ x10 then (if x10 < (x0.length : Int) then (slices_partitionOrdered_byte.l2 k ((x0.set (x10 : Int).toNat (rd x0 x11)).set (x11 : Int).toNat (rd x0 x10)) x1 (wrap64 (x10 + 1)) (wrap64 (x11 - 1))) else (none)) else (none)) else (none)) else (none))
def slices_partitionOrdered_byte.l2 : Nat → List Int → Int → Int → Int → Option (Int × Bool × List Int)
 | 0,_,_,_,_ => none
 | k + 1,x0,x1,x10,x11 => slices_partitionOrdered_byte.l3 k x0 x1 x10 x11
def slices_partitionOrdered_byte.j6 : Nat → List Int → Int → Int → Int → Option (Int × Bool × List Int)
 | 0,_,_,_,_ => none
 | k + 1,x0,x1,x10,x11 => slices_partitionOrdered_byte.l4 k x0 x1 x10 x11
def slices_partitionOrdered_byte.l4 : Nat → List Int → Int → Int → Int → Option (Int × Bool × List Int)
 | 0,_,_,_,_ => none
 | k + 1,x0,x1,x10,x11 => if x10 ≤ x11 then (if 0 ≤ x11 then (if x11 < (x0.length : Int) then (if 0 ≤ x1 then (if x1 < (x0.length : Int) then ((cmp_Less_byte.f (rd x0 x11) (rd x0 x1)).bind fun t124 => (if t124 = true then (if x10 > x11 then (some (x11,false,((x0.set (x11 : Int).toNat (rd x0 x1)).set (x1 : Int).toNat (rd x0 x11)))) else (if 0 ≤ x10 then (if x10 < (x0.length : Int) then (slices_partitionOrdered_byte.l2 k ((x0.set (x10 : Int).toNat (rd x0 x11)).set (x11 : Int).toNat (rd x0 x10)) x1 (wrap64 (x10 + 1)) (wrap64 (x11 - 1))) else (none)) else (none))) else (slices_partitionOrdered_byte.l4 k x0 x1 x10 (wrap64 (x11 - 1))))) else (none)) else (none)) else (none)) else (none)) else (if x10 > x11 then (if 0 ≤ x1 then (if x1 < (x0.length : Int) then (if 0 ≤ x11 then (if x11 < (x0.length : Int) then (some (x11,false,((x0.set (x11 : Int).toNat (rd x0 x1)).set (x1 : Int).toNat (rd x0 x11)))) else (none)) else (none)) else (none)) else (none)) else (if 0 ≤ x11 then (if x11 < (x0.length : Int) then (if 0 ≤ x10 then (if x10 < (x0.length : Int) then (slices_partitionOrdered_byte.l2 k ((x0.set (x10 : Int).toNat (rd x0 x11)).set (x11 : Int).toNat (rd x0 x10)) x1 (wrap64 (x10 + 1)) (wrap64 (x11 - 1))) else (none)) else (none)) else (none)) else (none)))
def slices_partitionOrdered_byte.l3 : Nat → List Int → Int → Int → Int → Option (Int × Bool × List Int)
 | 0,_,_,_,_ => none
 | k + 1,x0,x1,x10,x11 => if x10 ≤ x11 then (if 0 ≤ x10 then (if x10 < (x0.length : Int) then (if 0 ≤ x1 then (if x1 < (x0.length : Int) then ((cmp_Less_byte.f (rd x0 x10) (rd x0 x1)).bind fun t121 => (if t121 = true then (slices_partitionOrdered_byte.l3 k x0 x1 (wrap64 (x10 + 1)) x11) else (slices_partitionOrdered_byte.j6 k x0 x1 x10 x11))) else (none)) else (none)) else (none)) else (none)) else (slices_partitionOrdered_byte.j6 k x0 x1 x10 x11)
def slices_partitionOrdered_byte.l1 : Nat → List Int → Int → Int → Int → Option (Int × Bool × List Int)
 | 0,_,_,_,_ => none
 | k + 1,x0,x1,x10,x11 => if x10 ≤ x11 then (if 0 ≤ x11 then (if x11 < (x0.length : Int) then (if 0 ≤ x1 then (if x1 < (x0.length : Int) then ((cmp_Less_byte.f (rd x0 x11) (rd x0 x1)).bind fun t110 => (if t110 = true then (slices_partitionOrdered_byte.j3 k x0 x1 x10 x11) else (slices_partitionOrdered_byte.l1 k x0 x1 x10 (wrap64 (x11 - 1))))) else (none)) else (none)) else (none)) else (none)) else (slices_partitionOrdered_byte.j3 k x0 x1 x10 x11)
def slices_partitionOrdered_byte.l0 : Nat → List Int → Int → Int → Int → Option (Int × Bool × List Int)
 | 0,_,_,_,_ => none
 | k + 1,x0,x1,x10,x11 => if x10 ≤ x11 then (if 0 ≤ x10 then (if x10 < (x0.length : Int) then (if 0 ≤ x1 then (if x1 < (x0.length : Int) then ((cmp_Less_byte.f (rd x0 x10) (rd x0 x1)).bind fun t107 => (if t107 = true then (slices_partitionOrdered_byte.l0 k x0 x1 (wrap64 (x10 + 1)) x11) else (slices_partitionOrdered_byte.j1 k x0 x1 x10 x11))) else (none)) else (none)) else (none)) else (none)) else (slices_partitionOrdered_byte.j1 k x0 x1 x10 x11)
end
def slices_partitionOrdered_byte.f (k : Nat) (l0 : List Int) (a1 : Int) (a2 : Int) (a3 : Int) : Option (Int × Bool × List Int) := if 0 ≤ a3 then (if a3 < (l0.length : Int) then (if 0 ≤ a1 then (if a1 < (l0.length : Int) then (slices_partitionOrdered_byte.l0 k ((l0.set (a1 : Int).toNat (rd l0 a3)).set (a3 : Int).toNat (rd l0 a1)) a1 (wrap64 (a1 + 1)) (wrap64 (a2 - 1))) else (none)) else (none)) else (none)) else (none)
theorem slices_partitionOrdered_byte.mono_l : ∀ k,(∀ y0 y1 y2 y3,LeO (slices_partitionOrdered_byte.j1 k y0 y1 y2 y3) (slices_partitionOrdered_byte.j1 (k + 1) y0 y1 y2 y3)) ∧ (∀ y0 y1 y2 y3,LeO (slices_partitionOrdered_byte.j3 k y0 y1 y2 y3) (slices_partitionOrdered_byte.j3 (k + 1) y0 y1 y2 y3)) ∧ (∀ y0 y1 y2 y3,LeO (slices_partitionOrdered_byte.l2 k y0 y1 y2 y3) (slices_partitionOrdered_byte.l2 (k + 1) y0 y1 y2 y3)) ∧ (∀ y0 y1 y2 y3,LeO (slices_partitionOrdered_byte.j6 k y0 y1 y2 y3) (slices_partitionOrdered_byte.j6 (k + 1) y0 y1 y2 y3)) ∧ (∀ y0 y1 y2 y3,LeO (slices_partitionOrdered_byte.l4 k y0 y1 y2 y3) (slices_partitionOrdered_byte.l4 (k + 1) y0 y1 y2 y3)) ∧ (∀ y0 y1 y2 y3,LeO (slices_partitionOrdered_byte.l3 k y0 y1 y2 y3) (slices_partitionOrdered_byte.l3 (k + 1) y0 y1 y2 y3)) ∧ (∀ y0 y1 y2 y3,LeO (slices_partitionOrdered_byte.l1 k y0 y1 y2 y3) (slices_partitionOrdered_byte.l1 (k + 1) y0 y1 y2 y3)) ∧ (∀ y0 y1 y2 y3,LeO (slices_partitionOrdered_byte.l0 k y0 y1 y2 y3) (slices_partitionOrdered_byte.l0 (k + 1) y0 y1 y2 y3))
 | 0 => ⟨by intros; intro r h; simp [slices_partitionOrdered_byte.j1] at h,by intros; intro r h; simp [slices_partitionOrdered_byte.j3] at h,by intros; intro r h; simp [slices_partitionOrdered_byte.l2] at h,by intros; intro r h; simp [slices_partitionOrdered_byte.j6] at h,by intros; intro r h; simp [slices_partitionOrdered_byte.l4] at h,by intros; intro r h; simp [slices_partitionOrdered_byte.l3] at h,by intros; intro r h; simp [slices_partitionOrdered_byte.l1] at h,by intros; intro r h; simp [slices_partitionOrdered_byte.l0] at h⟩
 | k + 1 => by
  obtain ⟨ih0,ih1,ih2,ih3,ih4,ih5,ih6,ih7⟩ := slices_partitionOrdered_byte.mono_l k; refine ⟨?_,?_,?_,?_,?_,?_,?_,?_⟩
  ·
   intro y0 y1 y2 y3
   unfold slices_partitionOrdered_byte.j1
   repeat' first
   | (with_reducible exact ih0 _ _ _ _)
   | (with_reducible exact ih1 _ _ _ _)
   | (with_reducible exact ih2 _ _ _ _)
   | (with_reducible exact ih3 _ _ _ _)
   | (with_reducible exact ih4 _ _ _ _)
   | (with_reducible exact ih5 _ _ _ _)
   | (with_reducible exact ih6 _ _ _ _)
   | (with_reducible exact ih7 _ _ _ _)
   | (with_reducible exact LeO.refl _)
   | (with_reducible exact LeO.none _)
   | (with_reducible refine LeO.ite ?_ ?_)
   | (with_reducible refine LeO.bind ?_ (fun _ => ?_))
   | exact ih0 _ _ _ _
   | exact ih1 _ _ _ _
   | exact ih2 _ _ _ _
   | exact ih3 _ _ _ _
   | exact ih4 _ _ _ _
   | exact ih5 _ _ _ _
   | exact ih6 _ _ _ _
   | exact ih7 _ _ _ _
   | exact LeO.none _
   | refine LeO.ite ?_ ?_
   | refine LeO.bind ?_ (fun _ => ?_)
  ·
   intro y0 y1 y2 y3
   unfold slices_partitionOrdered_byte.j3
   repeat' first
   | (with_reducible exact ih0 _ _ _ _)
   | (with_reducible exact ih1 _ _ _ _)
   | (with_reducible exact ih2 _ _ _ _)
   | (with_reducible exact ih3 _ _ _ _)
   | (with_reducible exact ih4 _ _ _ _)
   | (with_reducible exact ih5 _ _ _ _)
   | (with_reducible exact ih6 _ _ _ _)
   | (with_reducible exact ih7 _ _ _ _)
   | (with_reducible exact LeO.refl _)
   | (with_reducible exact LeO.none _)
   | (with_reducible refine LeO.ite ?_ ?_)
   | (with_reducible refine LeO.bind ?_ (fun _ => ?_))
   | exact ih0 _ _ _ _
   | exact ih1 _ _ _ _
   | exact ih2 _ _ _ _
   | exact ih3 _ _ _ _
   | exact ih4 _ _ _ _
   | exact ih5 _ _ _ _
   | exact ih6 _ _ _ _
   | exact ih7 _ _ _ _
   | exact LeO.none _
   | refine LeO.ite ?_ ?_
   | refine LeO.bind ?_ (fun _ => ?_)
  ·
   intro y0 y1 y2 y3
   unfold slices_partitionOrdered_byte.l2
   repeat' first
   | (with_reducible exact ih0 _ _ _ _)
   | (with_reducible exact ih1 _ _ _ _)
   | (with_reducible exact ih2 _ _ _ _)
   | (with_reducible exact ih3 _ _ _ _)
   | (with_reducible exact ih4 _ _ _ _)
   | (with_reducible exact ih5 _ _ _ _)
   | (with_reducible exact ih6 _ _ _ _)
   | (with_reducible exact ih7 _ _ _ _)
   | (with_reducible exact LeO.refl _)
   | (with_reducible exact LeO.none _)
   | (with_reducible refine LeO.ite ?_ ?_)
   | (with_reducible refine LeO.bind ?_ (fun _ => ?_))
   | exact ih0 _ _ _ _
   | exact ih1 _ _ _ _
   | exact ih2 _ _ _ _
   | exact ih3 _ _ _ _
   | exact ih4 _ _ _ _
   | exact ih5 _ _ _ _
   | exact ih6 _ _ _ _
   | exact ih7 _ _ _ _
   | exact LeO.none _
   | refine LeO.ite ?_ ?_
   | refine LeO.bind ?_ (fun _ => ?_)
  ·
   intro y0 y1 y2 y3
   unfold slices_partitionOrdered_byte.j6
   repeat' first
   | (with_reducible exact ih0 _ _ _ _)
   | (with_reducible exact ih1 _ _ _ _)
   | (with_reducible exact ih2 _ _ _ _)
   | (with_reducible exact ih3 _ _ _ _)
   | (with_reducible exact ih4 _ _ _ _)
   | (with_reducible exact ih5 _ _ _ _)
   | (with_reducible exact ih6 _ _ _ _)
   | (with_reducible exact ih7 _ _ _ _)
   | (with_reducible exact LeO.refl _)
   | (with_reducible exact LeO.none _)
   | (with_reducible refine LeO.ite ?_ ?_)
   | (with_reducible refine LeO.bind ?_ (fun _ => ?_))
   | exact ih0 _ _ _ _
   | exact ih1 _ _ _ _
   | exact ih2 _ _ _ _
   | exact ih3 _ _ _ _
   | exact ih4 _ _ _ _
   | exact ih5 _ _ _ _
   | exact ih6 _ _ _ _
   | exact ih7 _ _ _ _
   | exact LeO.none _
   | refine LeO.ite ?_ ?_
   | refine LeO.bind ?_ (fun _ => ?_)
  ·
   intro y0 y1 y2 y3
   unfold slices_partitionOrdered_byte.l4
   repeat' first
   | (with_reducible exact ih0 _ _ _ _)
   | (with_reducible exact ih1 _ _ _ _)
   | (with_reducible exact ih2 _ _ _ _)
   | (with_reducible exact ih3 _ _ _ _)
   | (with_reducible exact ih4 _ _ _ _)
   | (with_reducible exact ih5 _ _ _ _)
   | (with_reducible exact ih6 _ _ _ _)
   | (with_reducible exact ih7 _ _ _ _)
   | (with_reducible exact LeO.refl _)
   | (with_reducible exact LeO.none _)
   | (with_reducible refine LeO.ite ?_ ?_)
   | (with_reducible refine LeO.bind ?_ (fun _ => ?_))
   | exact ih0 _ _ _ _
   | exact ih1 _ _ _ _
   | exact ih2 _ _ _ _
   | exact ih3 _ _ _ _
   | exact ih4 _ _ _ _
   | exact ih5 _ _ _ _
   | exact ih6 _ _ _ _
   | exact ih7 _ _ _ _
   | exact LeO.none _
   | refine LeO.ite ?_ ?_
   | refine LeO.bind ?_ (fun _ => ?_)
  ·
   intro y0 y1 y2 y3
   unfold slices_partitionOrdered_byte.l3
   repeat' first
   | (with_reducible exact ih0 _ _ _ _)
   | (with_reducible exact ih1 _ _ _ _)
   | (with_reducible exact ih2 _ _ _ _)
   | (with_reducible exact ih3 _ _ _ _)
   | (with_reducible exact ih4 _ _ _ _)
   | (with_reducible exact ih5 _ _ _ _)
   | (with_reducible exact ih6 _ _ _ _)
   | (with_reducible exact ih7 _ _ _ _)
   | (with_reducible exact LeO.refl _)
   | (with_reducible exact LeO.none _)
   | (with_reducible refine LeO.ite ?_ ?_)
   | (with_reducible refine LeO.bind ?_ (fun _ => ?_))
   | exact ih0 _ _ _ _
   | exact ih1 _ _ _ _
   | exact ih2 _ _ _ _
   | exact ih3 _ _ _ _
   | exact ih4 _ _ _ _
   | exact ih5 _ _ _ _
   | exact ih6 _ _ _ _
   | exact ih7 _ _ _ _
   | exact LeO.none _
   | refine LeO.ite ?_ ?_
   | refine LeO.bind ?_ (fun _ => ?_)
  ·
   intro y0 y1 y2 y3
   unfold slices_partitionOrdered_byte.l1
   repeat' first
   | (with_reducible exact ih0 _ _ _ _)
   | (with_reducible exact ih1 _ _ _ _)
   | (with_reducible exact ih2 _ _ _ _)
   | (with_reducible exact ih3 _ _ _ _)
   | (with_reducible exact ih4 _ _ _ _)
   | (with_reducible exact ih5 _ _ _ _)
   | (with_reducible exact ih6 _ _ _ _)
   | (with_reducible exact ih7 _ _ _ _)
   | (with_reducible exact LeO.refl _)
   | (with_reducible exact LeO.none _)
   | (with_reducible refine LeO.ite ?_ ?_)
   | (with_reducible refine LeO.bind ?_ (fun _ => ?_))
   | exact ih0 _ _ _ _
   | exact ih1 _ _ _ _
   | exact ih2 _ _ _ _
   | exact ih3 _ _ _ _
   | exact ih4 _ _ _ _
   | exact ih5 _ _ _ _
   | exact ih6 _ _ _ _
   | exact ih7 _ _ _ _
   | exact LeO.none _
   | refine LeO.ite ?_ ?_
   | refine LeO.bind ?_ (fun _ => ?_)
  ·
   intro y0 y1 y2 y3
   unfold slices_partitionOrdered_byte.l0
   repeat' first
   | (with_reducible exact ih0 _ _ _ _)
   | (with_reducible exact ih1 _ _ _ _)
   | (with_reducible exact ih2 _ _ _ _)
   | (with_reducible exact ih3 _ _ _ _)
   | (with_reducible exact ih4 _ _ _ _)
   | (with_reducible exact ih5 _ _ _ _)
   | (with_reducible exact ih6 _ _ _ _)
   | (with_reducible exact ih7 _ _ _ _)
   | (with_reducible exact LeO.refl _)
   | (with_reducible exact LeO.none _)
   | (with_reducible refine LeO.ite ?_ ?_)
   | (with_reducible refine LeO.bind ?_ (fun _ => ?_))
   | exact ih0 _ _ _ _
   | exact ih1 _ _ _ _
   | exact ih2 _ _ _ _
   | exact ih3 _ _ _ _
   | exact ih4 _ _ _ _
   | exact ih5 _ _ _ _
   | exact ih6 _ _ _ _
   | exact ih7 _ _ _ _
   | exact LeO.none _
   | refine LeO.ite ?_ ?_
   | refine LeO.bind ?_ (fun _ => ?_)
theorem slices_partitionOrdered_byte.mono : ∀ y0 y1 y2 y3 k,LeO (slices_partitionOrdered_byte.f k y0 y1 y2 y3) (slices_partitionOrdered_byte.f (k + 1) y0 y1 y2 y3) := by
 intro y0 y1 y2 y3 k; obtain ⟨ih0,ih1,ih2,ih3,ih4,ih5,ih6,ih7⟩ := slices_partitionOrdered_byte.mono_l k
 unfold slices_partitionOrdered_byte.f
 repeat' first
   | (with_reducible exact ih0 _ _ _ _)
   | (with_reducible exact ih1 _ _ _ _)
   | (with_reducible exact ih2 _ _ _ _)
   | (with_reducible exact ih3 _ _ _ _)
   | (with_reducible exact ih4 _ _ _ _)
   | (with_reducible exact ih5 _ _ _ _)
   | (with_reducible exact ih6 _ _ _ _)
   | (with_reducible exact ih7 _ _ _ _)
   | (with_reducible exact LeO.refl _)
   | (with_reducible exact LeO.none _)
   | (with_reducible refine LeO.ite ?_ ?_)
   | (with_reducible refine LeO.bind ?_ (fun _ => ?_))
   | exact ih0 _ _ _ _
   | exact ih1 _ _ _ _
   | exact ih2 _ _ _ _
   | exact ih3 _ _ _ _
   | exact ih4 _ _ _ _
   | exact ih5 _ _ _ _
   | exact ih6 _ _ _ _
   | exact ih7 _ _ _ _
   | exact LeO.none _
   | refine LeO.ite ?_ ?_
   | refine LeO.bind ?_ (fun _ => ?_)
def slices_partitionOrdered_byte.T1 : Bool × List (List Nat × List Nat) := (true,[([],[]),([],[]),([],[]),([],[]),([],[]),([],[]),([4,5],[4,5]),([6],[6]),([],[]),([],[]),([8,9],[8,9]),([10],[10]),([0,1,0,1,4,5,6,7,11],[0,1]),([12,7,0,1,4,5,6,7,11],[7,12]),([2,3,0,1,2,3,4,5,6,7,8,9,10,11,12,13],[2,3]),([14,11,13,0,1,2,3,4,5,6,7,8,9,10,11,12,13],[11,14])])
def slices_partitionOrdered_byte.B1 : List Nat := [0,0,0,0,0,0,48,112,0,0,768,1792,4083,8179,16383,32767]
theorem slices_partitionOrdered_byte.tab1 : rtab .any (opsOf Tryd.f84 1) = slices_partitionOrdered_byte.T1 := by kernel_rfl
theorem slices_partitionOrdered_byte.bits1 : waitsOk slices_partitionOrdered_byte.T1.2 slices_partitionOrdered_byte.B1 = true := by kernel_rfl
def slices_partitionOrdered_byte.T3 : Bool × List (List Nat × List Nat) := (true,[([],[]),([],[]),([0,1],[0,1]),([2],[2]),([3],[3]),([3],[3]),([4,5,3],[3,4,5]),([6,3],[3,6]),([3],[3]),([3],[3]),([8,9,3],[3,8,9]),([10,3],[3,10]),([7,11,3,3],[3,7,11]),([3,12],[3,12])])
def slices_partitionOrdered_byte.B3 : List Nat := [0,0,3,7,15,15,63,127,15,15,783,1807,4095,8191]
theorem slices_partitionOrdered_byte.tab3 : rtab .any (opsOf Tryd.f84 3) = slices_partitionOrdered_byte.T3 := by kernel_rfl
theorem slices_partitionOrdered_byte.bits3 : waitsOk slices_partitionOrdered_byte.T3.2 slices_partitionOrdered_byte.B3 = true := by kernel_rfl
def slices_partitionOrdered_byte.T5 : Bool × List (List Nat × List Nat) := (true,[([],[]),([],[]),([0,1],[0,1]),([2],[2]),([3],[3]),([3],[3]),([4,5,3],[3,4,5]),([6,3],[3,6]),([3],[3]),([3],[3]),([8,9,3],[3,8,9]),([10,3],[3,10]),([7,11,3,3],[3,7,11]),([12,3],[3,12]),([3,13],[3,13])])
def slices_partitionOrdered_byte.B5 : List Nat := [0,0,3,7,15,15,63,127,15,15,783,1807,4095,8191,16383]
theorem slices_partitionOrdered_byte.tab5 : rtab .any (opsOf Tryd.f84 5) = slices_partitionOrdered_byte.T5 := by kernel_rfl
theorem slices_partitionOrdered_byte.bits5 : waitsOk slices_partitionOrdered_byte.T5.2 slices_partitionOrdered_byte.B5 = true := by kernel_rfl
def slices_partitionOrdered_byte.T8 : Bool × List (List Nat × List Nat) := (true,[([],[]),([],[]),([],[]),([],[]),([],[]),([],[]),([4,5],[4,5]),([6],[6]),([],[]),([],[]),([8,9],[8,9]),([10],[10]),([0,1,0,1,4,5,6,7,11],[0,1]),([12,7,0,1,4,5,6,7,11],[7,12]),([2,3,0,1,2,3,4,5,6,7,8,9,10,11,12,13],[2,3]),([14,11,13,0,1,2,3,4,5,6,7,8,9,10,11,12,13],[11,14])])
def slices_partitionOrdered_byte.B8 : List Nat := [0,0,0,0,0,0,48,112,0,0,768,1792,4083,8179,16383,32767]
theorem slices_partitionOrdered_byte.tab8 : rtab .any (opsOf Tryd.f84 8) = slices_partitionOrdered_byte.T8 := by kernel_rfl
theorem slices_partitionOrdered_byte.bits8 : waitsOk slices_partitionOrdered_byte.T8.2 slices_partitionOrdered_byte.B8 = true := by kernel_rfl
def slices_partitionOrdered_byte.T10 : Bool × List (List Nat × List Nat) := (true,[([],[]),([],[]),([],[]),([],[]),([],[]),([],[]),([4,5],[4,5]),([6],[6]),([],[]),([],[]),([8,9],[8,9]),([10],[10]),([0,1,0,1,4,5,6,7,11],[0,1]),([12,7,0,1,4,5,6,7,11],[7,12]),([2,3,0,1,2,3,4,5,6,7,8,9,10,11,12,13],[2,3]),([14,11,13,0,1,2,3,4,5,6,7,8,9,10,11,12,13],[11,14])])
def slices_partitionOrdered_byte.B10 : List Nat := [0,0,0,0,0,0,48,112,0,0,768,1792,4083,8179,16383,32767]
theorem slices_partitionOrdered_byte.tab10 : rtab .any (opsOf Tryd.f84 10) = slices_partitionOrdered_byte.T10 := by kernel_rfl
theorem slices_partitionOrdered_byte.bits10 : waitsOk slices_partitionOrdered_byte.T10.2 slices_partitionOrdered_byte.B10 = true := by kernel_rfl
def slices_partitionOrdered_byte.T13 : Bool × List (List Nat × List Nat) := (true,[([],[]),([],[]),([0,1],[0,1]),([2],[2]),([3],[3]),([3],[3]),([4,5,3],[3,4,5]),([6,3],[3,6]),([3],[3]),([3],[3]),([8,9,3],[3,8,9]),([10,3],[3,10]),([7,11,3,3],[3,7,11]),([3,12],[3,12])])
def slices_partitionOrdered_byte.B13 : List Nat := [0,0,3,7,15,15,63,127,15,15,783,1807,4095,8191]
theorem slices_partitionOrdered_byte.tab13 : rtab .any (opsOf Tryd.f84 13) = slices_partitionOrdered_byte.T13 := by kernel_rfl
theorem slices_partitionOrdered_byte.bits13 : waitsOk slices_partitionOrdered_byte.T13.2 slices_partitionOrdered_byte.B13 = true := by kernel_rfl
def slices_partitionOrdered_byte.T15 : Bool × List (List Nat × List Nat) := (true,[([],[]),([],[]),([0,1],[0,1]),([2],[2]),([3],[3]),([3],[3]),([4,5,3],[3,4,5]),([6,3],[3,6]),([3],[3]),([3],[3]),([8,9,3],[3,8,9]),([10,3],[3,10]),([7,11,3,3],[3,7,11]),([12,3],[3,12]),([3,13],[3,13])])
def slices_partitionOrdered_byte.B15 : List Nat := [0,0,3,7,15,15,63,127,15,15,783,1807,4095,8191,16383]
theorem slices_partitionOrdered_byte.tab15 : rtab .any (opsOf Tryd.f84 15) = slices_partitionOrdered_byte.T15 := by kernel_rfl
theorem slices_partitionOrdered_byte.bits15 : waitsOk slices_partitionOrdered_byte.T15.2 slices_partitionOrdered_byte.B15 = true := by kernel_rfl
def slices_partitionOrdered_byte.T18 : Bool × List (List Nat × List Nat) := (true,[([],[]),([],[]),([],[]),([],[]),([],[]),([],[]),([4,5],[4,5]),([6],[6]),([],[]),([],[]),([8,9],[8,9]),([10],[10]),([0,1,0,1,4,5,6,7,11],[0,1]),([12,7,0,1,4,5,6,7,11],[7,12]),([2,3,0,1,2,3,4,5,6,7,8,9,10,11,12,13],[2,3]),([14,11,13,0,1,2,3,4,5,6,7,8,9,10,11,12,13],[11,14])])
def slices_partitionOrdered_byte.B18 : List Nat := [0,0,0,0,0,0,48,112,0,0,768,1792,4083,8179,16383,32767]
theorem slices_partitionOrdered_byte.tab18 : rtab .any (opsOf Tryd.f84 18) = slices_partitionOrdered_byte.T18 := by kernel_rfl
theorem slices_partitionOrdered_byte.bits18 : waitsOk slices_partitionOrdered_byte.T18.2 slices_partitionOrdered_byte.B18 = true := by kernel_rfl
def slices_partitionOrdered_byte.T21 : Bool × List (List Nat × List Nat) := (true,[([],[]),([],[]),([],[]),([],[]),([],[]),([],[]),([4,5],[4,5]),([6],[6]),([],[]),([],[]),([8,9],[8,9]),([10],[10]),([0,1,0,1,4,5,6,7,11],[0,1]),([12,7,0,1,4,5,6,7,11],[7,12]),([2,3,0,1,2,3,4,5,6,7,8,9,10,11,12,13],[2,3]),([14,11,13,0,1,2,3,4,5,6,7,8,9,10,11,12,13],[11,14])])
def slices_partitionOrdered_byte.B21 : List Nat := [0,0,0,0,0,0,48,112,0,0,768,1792,4083,8179,16383,32767]
theorem slices_partitionOrdered_byte.tab21 : rtab .any (opsOf Tryd.f84 21) = slices_partitionOrdered_byte.T21 := by kernel_rfl
theorem slices_partitionOrdered_byte.bits21 : waitsOk slices_partitionOrdered_byte.T21.2 slices_partitionOrdered_byte.B21 = true := by kernel_rfl
set_option maxHeartbeats 8000000 in
set_option maxRecDepth 100000 in
theorem slices_partitionOrdered_byte.calls (k : Nat) (P0_ : Nat → Prop) (u9000_ : Value) (l0 : List Int) (a1 : Int) (a2 : Int) (a3 : Int) (r1 : Int) (r2 : Bool) (r3 : List Int) (w0 w : World) (hB : Below w0.heap.size w0 w) (ho0 : BR w w0.heap.size P0_ u9000_ l0) (h : slices_partitionOrdered_byte.f k l0 a1 a2 a3 = some (r1,r2,r3)) :
  Calls Tryd.prog 84 #[u9000_,.int .i64 a1,.int .i64 a2,.int .i64 a3] w fun e w' => e = .returned (.tuple #[.int .i64 r1,.bool r2]) ∧ BR w' w0.heap.size (fun k_ => (P0_ k_ ∨ w.heap.size ≤ k_)) u9000_ r3 ∧ Below w0.heap.size w0 w' ∧ Kept w w' (fun k_ => P0_ k_) := by
 have HO0 := Aside0.mk (show BR w w0.heap.size (fun k_ => (P0_ k_ ∨ w.heap.size ≤ k_)) u9000_ l0 from BR_mono ho0 (fun k_ hk => (.inl hk))); have HK := Aside0.mk (Kept.refl w (fun k_ => P0_ k_)); have HW0 := Aside0.mk hB.size; have HB := Aside0.mk hB; clear hB; have H : (if 0 ≤ a3 then (if a3 < (l0.length : Int) then (if 0 ≤ a1 then (if a1 < (l0.length : Int) then (slices_partitionOrdered_byte.l0 k ((l0.set (a1 : Int).toNat (rd l0 a3)).set (a3 : Int).toNat (rd l0 a1)) a1 (wrap64 (a1 + 1)) (wrap64 (a2 - 1))) else (none)) else (none)) else (none)) else (none)) = some (r1,r2,r3) := h; clear h
 by_cases c5 : 0 ≤ a3
 ·
  rw [if_pos c5] at H; have c5b0 : decide (0 ≤ a3) = true := decide_eq_true c5; clear c5
  by_cases c6 : a3 < (l0.length : Int)
  ·
   rw [if_pos c6] at H; have c6b0 : decide (a3 < (l0.length : Int)) = true := decide_eq_true c6; clear c6
   by_cases c7 : 0 ≤ a1
   ·
    rw [if_pos c7] at H; have c7b0 : decide (0 ≤ a1) = true := decide_eq_true c7; clear c7
    by_cases c8 : a1 < (l0.length : Int)
    ·
     rw [if_pos c8] at H; have c8b0 : decide (a1 < (l0.length : Int)) = true := decide_eq_true c8; clear c8; obtain ⟨y103,hy103⟩ : ∃ y_ : List Int,y_ = (l0.set (a1 : Int).toNat (rd l0 a3)) := ⟨_,rfl⟩; replace H : (slices_partitionOrdered_byte.l0 k (y103.set (a3 : Int).toNat (rd l0 a1)) a1 (wrap64 (a1 + 1)) (wrap64 (a2 - 1))) = some (r1,r2,r3) := by first | (rw [hy103]; with_reducible exact H) | (have H2_ := (Option.bind_some _ _).symm.trans H; rw [hy103]; with_reducible exact H2_) | (have H2_ := (Option.bind_some _ _).symm.trans H; with_reducible exact H2_) | with_reducible exact H | (rw [hy103]; exact H) | exact H
     have Ny103 := Aside0.mk hy103; clear hy103; obtain ⟨y104,hy104⟩ : ∃ y_ : List Int,y_ = (y103.set (a3 : Int).toNat (rd l0 a1)) := ⟨_,rfl⟩; replace H : (slices_partitionOrdered_byte.l0 k y104 a1 (wrap64 (a1 + 1)) (wrap64 (a2 - 1))) = some (r1,r2,r3) := by first | (rw [hy104]; with_reducible exact H) | (have H2_ := (Option.bind_some _ _).symm.trans H; rw [hy104]; with_reducible exact H2_) | (have H2_ := (Option.bind_some _ _).symm.trans H; with_reducible exact H2_) | with_reducible exact H | (rw [hy104]; exact H) | exact H
     have Ny104 := Aside0.mk hy104; clear hy104; have HC11 := Aside0.mk H; clear H
     go_enter Tryd.func84,Tryd.ntmps84
     try go_wp2
     have n0_ := Aside0.mk (BR_drew HO0.out); have n1_ := Aside0.mk (Kept.drew HK.out); have n2_ := Aside0.mk (below_drew1 HB.out); clear HO0; clear HK; clear HB; have HO0 := n0_; have HK := n1_; have HB := n2_; clear n0_ n1_ n2_; obtain ⟨Ao13,co13,eo13⟩ := BR_slice HO0.out
     (first | subst eo13 | (injection eo13 with f1_ f2_ f3_; have f4_ := f1_.symm; have f5_ := f3_.symm; clear f1_ f2_ f3_; subst f4_; subst f5_))
     have p101 : 0 ≤ (a3 : Int) := of_decide_eq_true (by first | (with_reducible assumption) | assumption); have q101 : a3 < (l0.length : Int) := of_decide_eq_true (by first | (with_reducible assumption) | assumption); obtain ⟨ad101,e101,hx101_0⟩ := Kd.at_int (BR_reads' HO0.out).2.2 a3 p101 q101
     cases e101
     replace p101 := eq_true p101; replace q101 := eq_true q101; have p102 : 0 ≤ (a1 : Int) := of_decide_eq_true (by first | (with_reducible assumption) | assumption); have q102 : a1 < (l0.length : Int) := of_decide_eq_true (by first | (with_reducible assumption) | assumption); obtain ⟨ad102,e102,hx102_0⟩ := Kd.at_int (BR_reads' HO0.out).2.2 a1 p102 q102; obtain rfl : ad101 = ad102 := (by injection e102); replace p102 := eq_true p102; replace q102 := eq_true q102; have p9 : 0 ≤ (a1 : Int) := of_decide_eq_true (by first | (with_reducible assumption) | assumption); have q9 : (a1 : Int) < ((l0.length : Int) : Int) := of_decide_eq_true (by first | (with_reducible assumption) | assumption); obtain ⟨go9,co9,eo9,gb9,gl9,cl9,HG9⟩ := BR_form HO0.out (by omega)
     (first | cases eo9 | (injection eo9 with ea_ en_ ec_; (first | subst ea_ | (injection ea_ with ea_; subst ea_)); subst ec_; clear en_))
     have GB9 := Aside0.mk gb9; have GG9 := Aside0.mk HG9; clear gb9 gl9 HG9; have HMgo9 := Aside0.mk (show (P0_ go9 ∨ w.heap.size ≤ go9) from (HO0.out.1 _ rfl))
     (first | simp only [add_plain] at hx101_0 | skip)
     (first | simp only [add_plain] at hx102_0 | skip)
     obtain ⟨hx9_0,hf9_0⟩ := BR_celln 0 HO0.out (a1 : Int) p9 q9; replace p9 := eq_true p9; replace q9 := eq_true q9; have HP14 := BR_putn HO0.out (a1 : Int) (rd l0 a3); rw [← Ny103.out] at HP14; have HQ14 := Aside0.mk HP14; clear HP14; have p10 : 0 ≤ (a3 : Int) := of_decide_eq_true (by first | (with_reducible assumption) | assumption); have q10 : (a3 : Int) < ((l0.length : Int) : Int) := of_decide_eq_true (by first | (with_reducible assumption) | assumption); obtain ⟨hx10_0,hf10_0⟩ := BR_celln 0 HQ14.out (a3 : Int) p10 q10; replace p10 := eq_true p10; replace q10 := eq_true q10; have HP15 := BR_putn HQ14.out (a3 : Int) (rd l0 a1); rw [← Ny104.out] at HP15; have HQ15 := Aside0.mk HP15; clear HP15; refine start_ (n := 16) (S := fun w' => w'.cell? ⟨go9,(a3).toNat,none⟩ = some (.int .u8 (rd l0 a3)) ∧ w'.cell? ⟨go9,(a1).toNat,none⟩ = some (.int .u8 (rd l0 a1))) (ds := [13,15]) #[false,false,false,false,false,false,false,false,false,false,false,false,false,false,false,false] (by kernel_rfl) rfl rfl ⟨hx101_0,hx102_0⟩ (fun hHeld => ?_); refine with_tabW slices_partitionOrdered_byte.tab1 slices_partitionOrdered_byte.bits1 (fun HT_ HW_ => ?_)
     generalize w.drew = w12 at HO0 HK HB GG9 HQ14 HQ15 hf10_0 hf9_0 hx101_0 hx102_0 hx10_0 hx9_0 hHeld ⊢; refine pure_ (i := 0) (N := some 12) (v := ?_) (a' := ?_) #[true,false,false,false,false,false,false,false,false,false,false,false,false,false,false,false] rfl rfl (any_of HT_.out (by kernel_rfl)) (fun _ _ _ h => h) (Or.inl ⟨by rfl,?_⟩) ?_ ?_; rotate_left
     · intro w'; go_simp; with_reducible rfl
     rotate_left
     · simp only [Act.put,List.setIfInBounds_toArray,List.set_cons_zero,List.set_cons_succ,i64_w,i32_w]; rfl
     refine pure_ (i := 1) (N := some 13) (v := ?_) (a' := ?_) #[true,true,false,false,false,false,false,false,false,false,false,false,false,false,false,false] rfl rfl (any_of HT_.out (by kernel_rfl)) (fun _ _ _ h => h) (Or.inl ⟨by rfl,?_⟩) ?_ ?_; rotate_left
     · intro w'; go_simp; with_reducible rfl
     rotate_left
     · simp only [Act.put,List.setIfInBounds_toArray,List.set_cons_zero,List.set_cons_succ,i64_w,i32_w]; rfl
     refine pure_ (i := 2) (N := some 14) (v := ?_) (a' := ?_) #[true,true,true,false,false,false,false,false,false,false,false,false,false,false,false,false] rfl rfl (any_of HT_.out (by kernel_rfl)) (fun _ _ _ h => h) (Or.inl ⟨by rfl,?_⟩) ?_ ?_; rotate_left
     · intro w'; go_simp; with_reducible rfl
     rotate_left
     · simp only [Act.put,List.setIfInBounds_toArray,List.set_cons_zero,List.set_cons_succ,i64_w,i32_w]; rfl
     refine pure_ (i := 3) (N := some 15) (v := ?_) (a' := ?_) #[true,true,true,true,false,false,false,false,false,false,false,false,false,false,false,false] rfl rfl (any_of HT_.out (by kernel_rfl)) (fun _ _ _ h => h) (Or.inl ⟨by rfl,?_⟩) ?_ ?_; rotate_left
     · intro w'; go_simp; with_reducible rfl
     rotate_left
     · simp only [Act.put,List.setIfInBounds_toArray,List.set_cons_zero,List.set_cons_succ,i64_w,i32_w]; rfl
     refine pure_ (i := 4) (N := some 16) (v := ?_) (a' := ?_) #[true,true,true,true,true,false,false,false,false,false,false,false,false,false,false,false] rfl rfl (any_of HT_.out (by kernel_rfl)) (fun _ _ _ h => h) (Or.inl ⟨by rfl,?_⟩) ?_ ?_; rotate_left
     · intro w'; go_simp; with_reducible rfl
     rotate_left
     · simp only [Act.put,List.setIfInBounds_toArray,List.set_cons_zero,List.set_cons_succ,i64_w,i32_w]; rfl
     refine pure_ (i := 5) (N := some 17) (v := ?_) (a' := ?_) #[true,true,true,true,true,true,false,false,false,false,false,false,false,false,false,false] rfl rfl (any_of HT_.out (by kernel_rfl)) (fun _ _ _ h => h) (Or.inl ⟨by rfl,?_⟩) ?_ ?_; rotate_left
     · intro w'; go_simp; with_reducible rfl
     rotate_left
     · simp only [Act.put,List.setIfInBounds_toArray,List.set_cons_zero,List.set_cons_succ,i64_w,i32_w]; rfl
     refine pure_ (i := 6) (N := some 18) (v := ?_) (a' := ?_) #[true,true,true,true,true,true,true,false,false,false,false,false,false,false,false,false] rfl rfl (any_of HT_.out (by kernel_rfl)) (fun _ _ _ h => h) (Or.inl ⟨by rfl,?_⟩) ?_ ?_; rotate_left
     · intro w'; go_simp; with_reducible rfl
     rotate_left
     · simp only [Act.put,List.setIfInBounds_toArray,List.set_cons_zero,List.set_cons_succ,i64_w,i32_w]; rfl
     refine pure_ (i := 8) (N := some 20) (v := ?_) (a' := ?_) #[true,true,true,true,true,true,true,false,true,false,false,false,false,false,false,false] rfl rfl (any_of HT_.out (by kernel_rfl)) (fun _ _ _ h => h) (Or.inl ⟨by rfl,?_⟩) ?_ ?_; rotate_left
     · intro w'; go_simp; with_reducible rfl
     rotate_left
     · simp only [Act.put,List.setIfInBounds_toArray,List.set_cons_zero,List.set_cons_succ,i64_w,i32_w]; rfl
     refine pure_ (i := 9) (N := some 21) (v := ?_) (a' := ?_) #[true,true,true,true,true,true,true,false,true,true,false,false,false,false,false,false] rfl rfl (any_of HT_.out (by kernel_rfl)) (fun _ _ _ h => h) (Or.inl ⟨by rfl,?_⟩) ?_ ?_; rotate_left
     · intro w'; go_simp; with_reducible rfl
     rotate_left
     · simp only [Act.put,List.setIfInBounds_toArray,List.set_cons_zero,List.set_cons_succ,i64_w,i32_w]; rfl
     refine pure_ (i := 10) (N := some 22) (v := ?_) (a' := ?_) #[true,true,true,true,true,true,true,false,true,true,true,false,false,false,false,false] rfl rfl (any_of HT_.out (by kernel_rfl)) (fun _ _ _ h => h) (Or.inl ⟨by rfl,?_⟩) ?_ ?_; rotate_left
     · intro w'; go_simp; with_reducible rfl
     rotate_left
     · simp only [Act.put,List.setIfInBounds_toArray,List.set_cons_zero,List.set_cons_succ,i64_w,i32_w]; rfl
     refine take_ (i := 7) (N := some 19) (v := ?_) (a' := ?_) #[true,true,true,true,true,true,true,true,true,true,true,false,false,false,false,false] rfl rfl (take_ofW HT_.out HW_.out (by kernel_rfl)) (fun _ _ _ h => h) (Or.inl ⟨by rfl,?_⟩) hHeld ?_ ?_; rotate_left
     · rintro w' ⟨s0,s1⟩; go_simp; with_reducible rfl
     rotate_left
     · simp only [Act.put,List.setIfInBounds_toArray,List.set_cons_zero,List.set_cons_succ,i64_w,i32_w]; rfl
     refine take_ (i := 11) (N := some 23) (v := ?_) (a' := ?_) #[true,true,true,true,true,true,true,true,true,true,true,true,false,false,false,false] rfl rfl (take_ofW HT_.out HW_.out (by kernel_rfl)) (fun _ _ _ h => h) (Or.inl ⟨by rfl,?_⟩) hHeld ?_ ?_; rotate_left
     · rintro w' ⟨s0,s1⟩; go_simp; with_reducible rfl
     rotate_left
     · simp only [Act.put,List.setIfInBounds_toArray,List.set_cons_zero,List.set_cons_succ,i64_w,i32_w]; rfl
     refine pure_ (i := 12) (N := some 24) (v := ?_) (a' := ?_) #[true,true,true,true,true,true,true,true,true,true,true,true,true,false,false,false] rfl rfl (any_of HT_.out (by kernel_rfl)) (fun _ _ _ h => h) (Or.inl ⟨by rfl,?_⟩) ?_ ?_; rotate_left
     · intro w'; go_simp; with_reducible rfl
     rotate_left
     · simp only [Act.put,List.setIfInBounds_toArray,List.set_cons_zero,List.set_cons_succ,i64_w,i32_w]; rfl
     refine last_ (i := 13) (N := none) #[true,true,true,true,true,true,true,true,true,true,true,true,true,true,false,false] rfl rfl (one_of HT_.out (by kernel_rfl)) (by decide) (fun K hK => ?_); refine skip_ (w1 := ?_) (by rfl) rfl ?_ ?_; rotate_left
     · go_simp; rfl
     refine hK.out _ _ ?_; clear hK K; refine pure_ (i := 14) (N := some 25) (v := ?_) (a' := ?_) #[true,true,true,true,true,true,true,true,true,true,true,true,true,true,true,false] rfl rfl (any_of HT_.out (by kernel_rfl)) (fun _ _ _ h => h) (Or.inl ⟨by rfl,?_⟩) ?_ ?_; rotate_left
     · intro w'; go_simp; with_reducible rfl
     rotate_left
     · simp only [Act.put,List.setIfInBounds_toArray,List.set_cons_zero,List.set_cons_succ,i64_w,i32_w]; rfl
     refine last_ (i := 15) (N := none) #[true,true,true,true,true,true,true,true,true,true,true,true,true,true,true,true] rfl rfl (one_of HT_.out (by kernel_rfl)) (by decide) (fun K hK => ?_); refine skip_ (w1 := ?_) (by rfl) rfl ?_ ?_; rotate_left
     · go_simp; rfl
     refine hK.out _ _ ?_; clear hK K; refine done_ (done_of HT_.out (by kernel_rfl)) ?_
     go_upto_block 0 with (fail)
     go_cut [10] (fun v10 wc => ∃ (kq : Nat) (x10_10 : Int),v10 = .int .i64 x10_10 ∧ Aside0 (slices_partitionOrdered_byte.j1 kq y104 a1 x10_10 (wrap64 (a2 - 1)) = some (r1,r2,r3)) ∧ Aside0 (kq ≤ k) ∧ Aside0 (BR wc w0.heap.size (fun k_ => (P0_ k_ ∨ w.heap.size ≤ k_)) (.slice (some ⟨go9,0,none⟩) l0.length co13) y104) ∧ Aside0 (Kept w wc (fun k_ => P0_ k_)) ∧ Aside0 (Below w0.heap.size w0 wc))
     case first =>
      have H := HC11.out; clear HC11; have H' := Aside0.mk H; clear H; go_wp2
      go_loopg [10] k (fun kq v10 w' => ∃ (x10_1 : Int),v10 = .int .i64 x10_1 ∧ Aside0 (slices_partitionOrdered_byte.l0 kq y104 a1 x10_1 (wrap64 (a2 - 1)) = some (r1,r2,r3)) ∧ Aside0 (kq ≤ k) ∧ Aside0 (BR w' w0.heap.size (fun k_ => (P0_ k_ ∨ w.heap.size ≤ k_)) (.slice (some ⟨go9,0,none⟩) l0.length co13) y104) ∧ Aside0 (Kept w w' (fun k_ => P0_ k_)) ∧ Aside0 (Below w0.heap.size w0 w'))
      case atStart => exact ⟨(wrap64 (a1 + 1)),(by first | rfl | (simp; done) | (simp [*]; done)),H',⟨Nat.le_refl _⟩,⟨by (with_reducible repeat (first | apply BR_alloc | apply BR_drewN | apply BR_drew)); exact HQ15.out⟩,⟨by repeat (first | (with_reducible first | exact HK.out | apply Kept.alloc | apply Kept.drewN | apply Kept.drew | refine Kept.setCell ?_ HMgo9.out _ | refine Kept.setCell ?_ HMgo9.out _) | exact HK.out)⟩,⟨by repeat (first | (with_reducible first | exact HB.out | apply below_alloc | apply pw_below_drewN | apply below_drew1 | refine below_set ?_ GB9.out | refine below_set ?_ GB9.out) | exact HB.out)⟩⟩
      case round =>
       clear H'; try clear p1
       try clear q1
       try clear hx1
       try clear p2
       try clear c5
       try clear c5b0
       try clear c6
       try clear c6b0
       try clear p6
       try clear c7
       try clear c7b0
       try clear c8
       try clear c8b0
       try clear p9
       try clear q9
       try clear hx9
       try clear hf9
       try clear p10
       try clear q10
       try clear hx10
       try clear hf10
       try clear hx101_0
       try clear hx102_0
       try clear hx10_0
       try clear hx9_0
       try clear p10
       try clear p101
       try clear p102
       try clear p9
       try clear q10
       try clear q101
       try clear q102
       try clear q9
       obtain ⟨x10_1,rfl,HA,HK1,HO_0,HK,HB⟩ := hrel; have hl0_1 := (BR_reads' HO_0.out).1; rw [hl0_1] at HO_0
       (try simp only [hl0_1])
       cases gk with
       | zero => exact absurd HA.out (by simp [slices_partitionOrdered_byte.l0])
       | succ k1 =>
        have H := HA.out; clear HA; simp only [slices_partitionOrdered_byte.l0] at H
        by_cases c16 : x10_1 ≤ (wrap64 (a2 - 1))
        ·
         rw [if_pos c16] at H; have c16b0 : decide (x10_1 ≤ (wrap64 (a2 - 1))) = true := decide_eq_true c16; clear c16
         (first | rw [c16b0] | (simp only [i64_w,i32_w]; rw [c16b0]) | skip)
         by_cases c17 : 0 ≤ x10_1
         ·
          rw [if_pos c17] at H; have c17b0 : decide (0 ≤ x10_1) = true := decide_eq_true c17; clear c17
          by_cases c18 : x10_1 < (y104.length : Int)
          ·
           rw [if_pos c18] at H; have c18b0 : decide (x10_1 < (y104.length : Int)) = true := decide_eq_true c18
           (try (have c18b0_ := c18b0; rw [hl0_1] at c18b0_))
           clear c18
           by_cases c19 : 0 ≤ a1
           ·
            rw [if_pos c19] at H; have c19b0 : decide (0 ≤ a1) = true := decide_eq_true c19; clear c19
            by_cases c20 : a1 < (y104.length : Int)
            ·
             rw [if_pos c20] at H; have c20b0 : decide (a1 < (y104.length : Int)) = true := decide_eq_true c20
             (try (have c20b0_ := c20b0; rw [hl0_1] at c20b0_))
             clear c20; replace H := Option.bind_eq_some_iff.mp H; obtain ⟨t107,A210,H⟩ := H; replace H : (if t107 = true then (slices_partitionOrdered_byte.l0 k1 y104 a1 (wrap64 (x10_1 + 1)) (wrap64 (a2 - 1))) else (slices_partitionOrdered_byte.j1 k1 y104 a1 x10_1 (wrap64 (a2 - 1)))) = some (r1,r2,r3) := H; have A21 := Aside0.mk A210; clear A210
             by_cases c22 : t107 = true
             ·
              subst c22; have H1 : (slices_partitionOrdered_byte.l0 k1 y104 a1 (wrap64 (x10_1 + 1)) (wrap64 (a2 - 1))) = some (r1,r2,r3) := by rw [if_pos rfl] at H; exact H
              clear H; have H := H1; clear H1; have H' := Aside0.mk H; clear H; try go_wp2
              have n0_ := Aside0.mk (BR_drew HO_0.out); have n1_ := Aside0.mk (Kept.drew HK.out); have n2_ := Aside0.mk (below_drew1 HB.out); clear HO_0; clear HK; clear HB; have HO_0 := n0_; have HK := n1_; have HB := n2_; clear n0_ n1_ n2_; have p105 : 0 ≤ (x10_1 : Int) := of_decide_eq_true (by first | (with_reducible assumption) | assumption); have q105 : x10_1 < (y104.length : Int) := of_decide_eq_true (by first | (with_reducible assumption) | assumption); obtain ⟨ad105,e105,hx105_0⟩ := Kd.at_int (BR_reads' HO_0.out).2.2 x10_1 p105 q105; obtain rfl : (⟨go9,0,none⟩ : Addr) = ad105 := (by injection e105)
              (first | simp only [add_plain] at hx105_0 | simp only [add_at] at hx105_0 | simp only [Addr.add,Nat.zero_add] at hx105_0 | skip)
              replace p105 := eq_true p105; replace q105 := eq_true q105; have p106 : 0 ≤ (a1 : Int) := of_decide_eq_true (by first | (with_reducible assumption) | assumption); have q106 : a1 < (y104.length : Int) := of_decide_eq_true (by first | (with_reducible assumption) | assumption); obtain ⟨ad106,e106,hx106_0⟩ := Kd.at_int (BR_reads' HO_0.out).2.2 a1 p106 q106; obtain rfl : (⟨go9,0,none⟩ : Addr) = ad106 := (by injection e106)
              (first | simp only [add_plain] at hx106_0 | simp only [add_at] at hx106_0 | simp only [Addr.add,Nat.zero_add] at hx106_0 | skip)
              replace p106 := eq_true p106; replace q106 := eq_true q106; refine start_ (n := 14) (S := fun w' => w'.cell? ⟨go9,(x10_1).toNat,none⟩ = some (.int .u8 (rd y104 x10_1)) ∧ w'.cell? ⟨go9,(a1).toNat,none⟩ = some (.int .u8 (rd y104 a1))) (ds := []) #[false,false,false,false,false,false,false,false,false,false,false,false,false,false] (by kernel_rfl) rfl rfl ⟨hx105_0,hx106_0⟩ (fun hHeld => ?_); refine with_tabW slices_partitionOrdered_byte.tab3 slices_partitionOrdered_byte.bits3 (fun HT_ HW_ => ?_)
              generalize wr.drew = w23 at HO_0 HK HB hx105_0 hx106_0 hHeld ⊢; refine pure_ (i := 0) (N := some 30) (v := ?_) (a' := ?_) #[true,false,false,false,false,false,false,false,false,false,false,false,false,false] rfl rfl (any_of HT_.out (by kernel_rfl)) (fun _ _ _ h => h) (Or.inl ⟨by rfl,?_⟩) ?_ ?_; rotate_left
              · intro w'; go_simp; with_reducible rfl
              rotate_left
              · simp only [Act.put,List.setIfInBounds_toArray,List.set_cons_zero,List.set_cons_succ,i64_w,i32_w]; rfl
              refine pure_ (i := 1) (N := some 31) (v := ?_) (a' := ?_) #[true,true,false,false,false,false,false,false,false,false,false,false,false,false] rfl rfl (any_of HT_.out (by kernel_rfl)) (fun _ _ _ h => h) (Or.inl ⟨by rfl,?_⟩) ?_ ?_; rotate_left
              · intro w'; go_simp; with_reducible rfl
              rotate_left
              · simp only [Act.put,List.setIfInBounds_toArray,List.set_cons_zero,List.set_cons_succ,i64_w,i32_w]; rfl
              refine pure_ (i := 2) (N := some 32) (v := ?_) (a' := ?_) #[true,true,true,false,false,false,false,false,false,false,false,false,false,false] rfl rfl (any_of HT_.out (by kernel_rfl)) (fun _ _ _ h => h) (Or.inl ⟨by rfl,?_⟩) ?_ ?_; rotate_left
              · intro w'; go_simp; with_reducible rfl
              rotate_left
              · simp only [Act.put,List.setIfInBounds_toArray,List.set_cons_zero,List.set_cons_succ,i64_w,i32_w]; rfl
              refine pure_ (i := 3) (N := some 33) (v := ?_) (a' := ?_) #[true,true,true,true,false,false,false,false,false,false,false,false,false,false] rfl rfl (any_of HT_.out (by kernel_rfl)) (fun _ _ _ h => h) (Or.inl ⟨by rfl,?_⟩) ?_ ?_; rotate_left
              · intro w'; go_simp; with_reducible rfl
              rotate_left
              · simp only [Act.put,List.setIfInBounds_toArray,List.set_cons_zero,List.set_cons_succ,i64_w,i32_w]; rfl
              refine pure_ (i := 4) (N := some 34) (v := ?_) (a' := ?_) #[true,true,true,true,true,false,false,false,false,false,false,false,false,false] rfl rfl (any_of HT_.out (by kernel_rfl)) (fun _ _ _ h => h) (Or.inl ⟨by rfl,?_⟩) ?_ ?_; rotate_left
              · intro w'; go_simp; with_reducible rfl
              rotate_left
              · simp only [Act.put,List.setIfInBounds_toArray,List.set_cons_zero,List.set_cons_succ,i64_w,i32_w]; rfl
              refine pure_ (i := 5) (N := some 35) (v := ?_) (a' := ?_) #[true,true,true,true,true,true,false,false,false,false,false,false,false,false] rfl rfl (any_of HT_.out (by kernel_rfl)) (fun _ _ _ h => h) (Or.inl ⟨by rfl,?_⟩) ?_ ?_; rotate_left
              · intro w'; go_simp; with_reducible rfl
              rotate_left
              · simp only [Act.put,List.setIfInBounds_toArray,List.set_cons_zero,List.set_cons_succ,i64_w,i32_w]; rfl
              refine pure_ (i := 6) (N := some 36) (v := ?_) (a' := ?_) #[true,true,true,true,true,true,true,false,false,false,false,false,false,false] rfl rfl (any_of HT_.out (by kernel_rfl)) (fun _ _ _ h => h) (Or.inl ⟨by rfl,?_⟩) ?_ ?_; rotate_left
              · intro w'; go_simp; with_reducible rfl
              rotate_left
              · simp only [Act.put,List.setIfInBounds_toArray,List.set_cons_zero,List.set_cons_succ,i64_w,i32_w]; rfl
              refine pure_ (i := 8) (N := some 38) (v := ?_) (a' := ?_) #[true,true,true,true,true,true,true,false,true,false,false,false,false,false] rfl rfl (any_of HT_.out (by kernel_rfl)) (fun _ _ _ h => h) (Or.inl ⟨by rfl,?_⟩) ?_ ?_; rotate_left
              · intro w'; go_simp; with_reducible rfl
              rotate_left
              · simp only [Act.put,List.setIfInBounds_toArray,List.set_cons_zero,List.set_cons_succ,i64_w,i32_w]; rfl
              refine pure_ (i := 9) (N := some 39) (v := ?_) (a' := ?_) #[true,true,true,true,true,true,true,false,true,true,false,false,false,false] rfl rfl (any_of HT_.out (by kernel_rfl)) (fun _ _ _ h => h) (Or.inl ⟨by rfl,?_⟩) ?_ ?_; rotate_left
              · intro w'; go_simp; with_reducible rfl
              rotate_left
              · simp only [Act.put,List.setIfInBounds_toArray,List.set_cons_zero,List.set_cons_succ,i64_w,i32_w]; rfl
              refine pure_ (i := 10) (N := some 40) (v := ?_) (a' := ?_) #[true,true,true,true,true,true,true,false,true,true,true,false,false,false] rfl rfl (any_of HT_.out (by kernel_rfl)) (fun _ _ _ h => h) (Or.inl ⟨by rfl,?_⟩) ?_ ?_; rotate_left
              · intro w'; go_simp; with_reducible rfl
              rotate_left
              · simp only [Act.put,List.setIfInBounds_toArray,List.set_cons_zero,List.set_cons_succ,i64_w,i32_w]; rfl
              refine take_ (i := 7) (N := some 37) (v := ?_) (a' := ?_) #[true,true,true,true,true,true,true,true,true,true,true,false,false,false] rfl rfl (take_ofW HT_.out HW_.out (by kernel_rfl)) (fun _ _ _ h => h) (Or.inl ⟨by rfl,?_⟩) hHeld ?_ ?_; rotate_left
              · rintro w' ⟨s0,s1⟩; go_simp; with_reducible rfl
              rotate_left
              · simp only [Act.put,List.setIfInBounds_toArray,List.set_cons_zero,List.set_cons_succ,i64_w,i32_w]; rfl
              refine take_ (i := 11) (N := some 41) (v := ?_) (a' := ?_) #[true,true,true,true,true,true,true,true,true,true,true,true,false,false] rfl rfl (take_ofW HT_.out HW_.out (by kernel_rfl)) (fun _ _ _ h => h) (Or.inl ⟨by rfl,?_⟩) hHeld ?_ ?_; rotate_left
              · rintro w' ⟨s0,s1⟩; go_simp; with_reducible rfl
              rotate_left
              · simp only [Act.put,List.setIfInBounds_toArray,List.set_cons_zero,List.set_cons_succ,i64_w,i32_w]; rfl
              refine one_ (i := 12) (N := some 42) #[true,true,true,true,true,true,true,true,true,true,true,true,true,false] rfl rfl (one_of HT_.out (by kernel_rfl)) (by decide) (fun K hK => ?_); refine goes_ Tryd.func82 (by kernel_rfl) rfl #[.int .u8 (rd y104 x10_1),.int .u8 (rd y104 a1)] (by rfl) rfl rfl (by (try simp only [List.map_toArray,List.map_cons,List.map_nil]); first | done | rfl | (simp only [List.length_drop,List.length_take]; rfl)) ?_; with_reducible refine (cmp_Less_byte.calls (rd y104 x10_1) (rd y104 a1) true _ A21.out).mono ?_
              rintro e w' ⟨rfl,⟨nd,rfl⟩⟩; refine ⟨_,rfl,?_⟩; refine hK.out _ _ ⟨hHeld.1,hHeld.2⟩ (fun hHeld => ?_); clear hK K; refine norm_ (a' := ?_) ?_ ?_; rotate_left
              ·
               show Act.put _ (some 42) _ = _
               simp only [Act.put,List.setIfInBounds_toArray,List.set_cons_zero,List.set_cons_succ,i64_w,i32_w]; rfl
              refine pure_ (i := 13) (N := some 43) (v := ?_) (a' := ?_) #[true,true,true,true,true,true,true,true,true,true,true,true,true,true] rfl rfl (any_of HT_.out (by kernel_rfl)) (fun _ _ _ h => h) (Or.inl ⟨by rfl,?_⟩) ?_ ?_; rotate_left
              · intro w'; go_simp; with_reducible rfl
              rotate_left
              · simp only [Act.put,List.setIfInBounds_toArray,List.set_cons_zero,List.set_cons_succ,i64_w,i32_w]; rfl
              refine done_ (done_of HT_.out (by kernel_rfl)) ?_; try go_wp2
              (try simp only [← hl0_1])
              go_roundg k1
              case measure => have := HK1.out; omega
              case rel => exact ⟨(wrap64 (x10_1 + 1)),(by first | rfl | (simp; done) | (simp [*]; done)),H',⟨by have := HK1.out; omega⟩,⟨by (try simp only [hl0_1]); (with_reducible repeat (first | apply BR_alloc | apply BR_drewN | apply BR_drew)); exact HO_0.out⟩,⟨by repeat (first | (with_reducible first | exact HK.out | apply Kept.alloc | apply Kept.drewN | apply Kept.drew) | exact HK.out)⟩,⟨by repeat (first | (with_reducible first | exact HB.out | apply below_alloc | apply pw_below_drewN | apply below_drew1) | exact HB.out)⟩⟩
             ·
              replace c22 := Bool.eq_false_iff.mpr c22; subst c22; have H1 : (slices_partitionOrdered_byte.j1 k1 y104 a1 x10_1 (wrap64 (a2 - 1))) = some (r1,r2,r3) := by rw [if_neg (show ¬ (false = true) by decide)] at H; exact H
              clear H; have H := H1; clear H1; have H' := Aside0.mk H; clear H; try go_wp2
              have n0_ := Aside0.mk (BR_drew HO_0.out); have n1_ := Aside0.mk (Kept.drew HK.out); have n2_ := Aside0.mk (below_drew1 HB.out); clear HO_0; clear HK; clear HB; have HO_0 := n0_; have HK := n1_; have HB := n2_; clear n0_ n1_ n2_; have p105 : 0 ≤ (x10_1 : Int) := of_decide_eq_true (by first | (with_reducible assumption) | assumption); have q105 : x10_1 < (y104.length : Int) := of_decide_eq_true (by first | (with_reducible assumption) | assumption); obtain ⟨ad105,e105,hx105_0⟩ := Kd.at_int (BR_reads' HO_0.out).2.2 x10_1 p105 q105; obtain rfl : (⟨go9,0,none⟩ : Addr) = ad105 := (by injection e105)
              (first | simp only [add_plain] at hx105_0 | simp only [add_at] at hx105_0 | simp only [Addr.add,Nat.zero_add] at hx105_0 | skip)
              replace p105 := eq_true p105; replace q105 := eq_true q105; have p106 : 0 ≤ (a1 : Int) := of_decide_eq_true (by first | (with_reducible assumption) | assumption); have q106 : a1 < (y104.length : Int) := of_decide_eq_true (by first | (with_reducible assumption) | assumption); obtain ⟨ad106,e106,hx106_0⟩ := Kd.at_int (BR_reads' HO_0.out).2.2 a1 p106 q106; obtain rfl : (⟨go9,0,none⟩ : Addr) = ad106 := (by injection e106)
              (first | simp only [add_plain] at hx106_0 | simp only [add_at] at hx106_0 | simp only [Addr.add,Nat.zero_add] at hx106_0 | skip)
              replace p106 := eq_true p106; replace q106 := eq_true q106; refine start_ (n := 14) (S := fun w' => w'.cell? ⟨go9,(x10_1).toNat,none⟩ = some (.int .u8 (rd y104 x10_1)) ∧ w'.cell? ⟨go9,(a1).toNat,none⟩ = some (.int .u8 (rd y104 a1))) (ds := []) #[false,false,false,false,false,false,false,false,false,false,false,false,false,false] (by kernel_rfl) rfl rfl ⟨hx105_0,hx106_0⟩ (fun hHeld => ?_); refine with_tabW slices_partitionOrdered_byte.tab3 slices_partitionOrdered_byte.bits3 (fun HT_ HW_ => ?_)
              generalize wr.drew = w24 at HO_0 HK HB hx105_0 hx106_0 hHeld ⊢; refine pure_ (i := 0) (N := some 30) (v := ?_) (a' := ?_) #[true,false,false,false,false,false,false,false,false,false,false,false,false,false] rfl rfl (any_of HT_.out (by kernel_rfl)) (fun _ _ _ h => h) (Or.inl ⟨by rfl,?_⟩) ?_ ?_; rotate_left
              · intro w'; go_simp; with_reducible rfl
              rotate_left
              · simp only [Act.put,List.setIfInBounds_toArray,List.set_cons_zero,List.set_cons_succ,i64_w,i32_w]; rfl
              refine pure_ (i := 1) (N := some 31) (v := ?_) (a' := ?_) #[true,true,false,false,false,false,false,false,false,false,false,false,false,false] rfl rfl (any_of HT_.out (by kernel_rfl)) (fun _ _ _ h => h) (Or.inl ⟨by rfl,?_⟩) ?_ ?_; rotate_left
              · intro w'; go_simp; with_reducible rfl
              rotate_left
              · simp only [Act.put,List.setIfInBounds_toArray,List.set_cons_zero,List.set_cons_succ,i64_w,i32_w]; rfl
              refine pure_ (i := 2) (N := some 32) (v := ?_) (a' := ?_) #[true,true,true,false,false,false,false,false,false,false,false,false,false,false] rfl rfl (any_of HT_.out (by kernel_rfl)) (fun _ _ _ h => h) (Or.inl ⟨by rfl,?_⟩) ?_ ?_; rotate_left
              · intro w'; go_simp; with_reducible rfl
              rotate_left
              · simp only [Act.put,List.setIfInBounds_toArray,List.set_cons_zero,List.set_cons_succ,i64_w,i32_w]; rfl
              refine pure_ (i := 3) (N := some 33) (v := ?_) (a' := ?_) #[true,true,true,true,false,false,false,false,false,false,false,false,false,false] rfl rfl (any_of HT_.out (by kernel_rfl)) (fun _ _ _ h => h) (Or.inl ⟨by rfl,?_⟩) ?_ ?_; rotate_left
              · intro w'; go_simp; with_reducible rfl
              rotate_left
              · simp only [Act.put,List.setIfInBounds_toArray,List.set_cons_zero,List.set_cons_succ,i64_w,i32_w]; rfl
              refine pure_ (i := 4) (N := some 34) (v := ?_) (a' := ?_) #[true,true,true,true,true,false,false,false,false,false,false,false,false,false] rfl rfl (any_of HT_.out (by kernel_rfl)) (fun _ _ _ h => h) (Or.inl ⟨by rfl,?_⟩) ?_ ?_; rotate_left
              · intro w'; go_simp; with_reducible rfl
              rotate_left
              · simp only [Act.put,List.setIfInBounds_toArray,List.set_cons_zero,List.set_cons_succ,i64_w,i32_w]; rfl
              refine pure_ (i := 5) (N := some 35) (v := ?_) (a' := ?_) #[true,true,true,true,true,true,false,false,false,false,false,false,false,false] rfl rfl (any_of HT_.out (by kernel_rfl)) (fun _ _ _ h => h) (Or.inl ⟨by rfl,?_⟩) ?_ ?_; rotate_left
              · intro w'; go_simp; with_reducible rfl
              rotate_left
              · simp only [Act.put,List.setIfInBounds_toArray,List.set_cons_zero,List.set_cons_succ,i64_w,i32_w]; rfl
              refine pure_ (i := 6) (N := some 36) (v := ?_) (a' := ?_) #[true,true,true,true,true,true,true,false,false,false,false,false,false,false] rfl rfl (any_of HT_.out (by kernel_rfl)) (fun _ _ _ h => h) (Or.inl ⟨by rfl,?_⟩) ?_ ?_; rotate_left
              · intro w'; go_simp; with_reducible rfl
              rotate_left
              · simp only [Act.put,List.setIfInBounds_toArray,List.set_cons_zero,List.set_cons_succ,i64_w,i32_w]; rfl
              refine pure_ (i := 8) (N := some 38) (v := ?_) (a' := ?_) #[true,true,true,true,true,true,true,false,true,false,false,false,false,false] rfl rfl (any_of HT_.out (by kernel_rfl)) (fun _ _ _ h => h) (Or.inl ⟨by rfl,?_⟩) ?_ ?_; rotate_left
              · intro w'; go_simp; with_reducible rfl
              rotate_left
              · simp only [Act.put,List.setIfInBounds_toArray,List.set_cons_zero,List.set_cons_succ,i64_w,i32_w]; rfl
              refine pure_ (i := 9) (N := some 39) (v := ?_) (a' := ?_) #[true,true,true,true,true,true,true,false,true,true,false,false,false,false] rfl rfl (any_of HT_.out (by kernel_rfl)) (fun _ _ _ h => h) (Or.inl ⟨by rfl,?_⟩) ?_ ?_; rotate_left
              · intro w'; go_simp; with_reducible rfl
              rotate_left
              · simp only [Act.put,List.setIfInBounds_toArray,List.set_cons_zero,List.set_cons_succ,i64_w,i32_w]; rfl
              refine pure_ (i := 10) (N := some 40) (v := ?_) (a' := ?_) #[true,true,true,true,true,true,true,false,true,true,true,false,false,false] rfl rfl (any_of HT_.out (by kernel_rfl)) (fun _ _ _ h => h) (Or.inl ⟨by rfl,?_⟩) ?_ ?_; rotate_left
              · intro w'; go_simp; with_reducible rfl
              rotate_left
              · simp only [Act.put,List.setIfInBounds_toArray,List.set_cons_zero,List.set_cons_succ,i64_w,i32_w]; rfl
              refine take_ (i := 7) (N := some 37) (v := ?_) (a' := ?_) #[true,true,true,true,true,true,true,true,true,true,true,false,false,false] rfl rfl (take_ofW HT_.out HW_.out (by kernel_rfl)) (fun _ _ _ h => h) (Or.inl ⟨by rfl,?_⟩) hHeld ?_ ?_; rotate_left
              · rintro w' ⟨s0,s1⟩; go_simp; with_reducible rfl
              rotate_left
              · simp only [Act.put,List.setIfInBounds_toArray,List.set_cons_zero,List.set_cons_succ,i64_w,i32_w]; rfl
              refine take_ (i := 11) (N := some 41) (v := ?_) (a' := ?_) #[true,true,true,true,true,true,true,true,true,true,true,true,false,false] rfl rfl (take_ofW HT_.out HW_.out (by kernel_rfl)) (fun _ _ _ h => h) (Or.inl ⟨by rfl,?_⟩) hHeld ?_ ?_; rotate_left
              · rintro w' ⟨s0,s1⟩; go_simp; with_reducible rfl
              rotate_left
              · simp only [Act.put,List.setIfInBounds_toArray,List.set_cons_zero,List.set_cons_succ,i64_w,i32_w]; rfl
              refine one_ (i := 12) (N := some 42) #[true,true,true,true,true,true,true,true,true,true,true,true,true,false] rfl rfl (one_of HT_.out (by kernel_rfl)) (by decide) (fun K hK => ?_); refine goes_ Tryd.func82 (by kernel_rfl) rfl #[.int .u8 (rd y104 x10_1),.int .u8 (rd y104 a1)] (by rfl) rfl rfl (by (try simp only [List.map_toArray,List.map_cons,List.map_nil]); first | done | rfl | (simp only [List.length_drop,List.length_take]; rfl)) ?_; with_reducible refine (cmp_Less_byte.calls (rd y104 x10_1) (rd y104 a1) false _ A21.out).mono ?_
              rintro e w' ⟨rfl,⟨nd,rfl⟩⟩; refine ⟨_,rfl,?_⟩; refine hK.out _ _ ⟨hHeld.1,hHeld.2⟩ (fun hHeld => ?_); clear hK K; refine norm_ (a' := ?_) ?_ ?_; rotate_left
              ·
               show Act.put _ (some 42) _ = _
               simp only [Act.put,List.setIfInBounds_toArray,List.set_cons_zero,List.set_cons_succ,i64_w,i32_w]; rfl
              refine pure_ (i := 13) (N := some 43) (v := ?_) (a' := ?_) #[true,true,true,true,true,true,true,true,true,true,true,true,true,true] rfl rfl (any_of HT_.out (by kernel_rfl)) (fun _ _ _ h => h) (Or.inl ⟨by rfl,?_⟩) ?_ ?_; rotate_left
              · intro w'; go_simp; with_reducible rfl
              rotate_left
              · simp only [Act.put,List.setIfInBounds_toArray,List.set_cons_zero,List.set_cons_succ,i64_w,i32_w]; rfl
              refine done_ (done_of HT_.out (by kernel_rfl)) ?_; try go_wp2
              (try simp only [← hl0_1])
              go_meet
              case rel => exact ⟨_,(x10_1),(by first | rfl | (simp; done) | (simp [*]; done)),H',⟨by have := HK1.out; first | omega | exact Nat.le_refl _⟩,⟨by (try simp only [hl0_1]); (with_reducible repeat (first | apply BR_alloc | apply BR_drewN | apply BR_drew)); exact HO_0.out⟩,⟨by repeat (first | (with_reducible first | exact HK.out | apply Kept.alloc | apply Kept.drewN | apply Kept.drew) | exact HK.out)⟩,⟨by repeat (first | (with_reducible first | exact HB.out | apply below_alloc | apply pw_below_drewN | apply below_drew1) | exact HB.out)⟩⟩
            · rw [if_neg c20] at H; exact absurd H (by simp)
           · rw [if_neg c19] at H; exact absurd H (by simp)
          · rw [if_neg c18] at H; exact absurd H (by simp)
         · rw [if_neg c17] at H; exact absurd H (by simp)
        ·
         rw [if_neg c16] at H; have c16b0 : decide (x10_1 ≤ (wrap64 (a2 - 1))) = false := decide_eq_false c16; clear c16
         (first | rw [c16b0] | (simp only [i64_w,i32_w]; rw [c16b0]) | skip)
         have H' := Aside0.mk H; clear H; try go_wp2
         have n0_ := Aside0.mk (BR_drew HO_0.out); have n1_ := Aside0.mk (Kept.drew HK.out); have n2_ := Aside0.mk (below_drew1 HB.out); clear HO_0; clear HK; clear HB; have HO_0 := n0_; have HK := n1_; have HB := n2_; clear n0_ n1_ n2_; refine start_ (n := 14) (S := fun w' => True) (ds := []) #[false,false,false,false,false,false,false,false,false,false,false,false,false,false] (by kernel_rfl) rfl rfl trivial (fun hHeld => ?_); refine with_tabW slices_partitionOrdered_byte.tab3 slices_partitionOrdered_byte.bits3 (fun HT_ HW_ => ?_)
         generalize wr.drew = w25 at HO_0 HK HB hHeld ⊢; refine pure_ (i := 0) (N := some 30) (v := ?_) (a' := ?_) #[true,false,false,false,false,false,false,false,false,false,false,false,false,false] rfl rfl (any_of HT_.out (by kernel_rfl)) (fun _ _ _ h => h) (Or.inl ⟨by rfl,?_⟩) ?_ ?_; rotate_left
         · intro w'; go_simp; with_reducible rfl
         rotate_left
         · simp only [Act.put,List.setIfInBounds_toArray,List.set_cons_zero,List.set_cons_succ,i64_w,i32_w]; rfl
         refine pure_ (i := 1) (N := some 31) (v := ?_) (a' := ?_) #[true,true,false,false,false,false,false,false,false,false,false,false,false,false] rfl rfl (any_of HT_.out (by kernel_rfl)) (fun _ _ _ h => h) (Or.inl ⟨by rfl,?_⟩) ?_ ?_; rotate_left
         · intro w'; go_simp; with_reducible rfl
         rotate_left
         · simp only [Act.put,List.setIfInBounds_toArray,List.set_cons_zero,List.set_cons_succ,i64_w,i32_w]; rfl
         refine pure_ (i := 2) (N := some 32) (v := ?_) (a' := ?_) #[true,true,true,false,false,false,false,false,false,false,false,false,false,false] rfl rfl (any_of HT_.out (by kernel_rfl)) (fun _ _ _ h => h) (Or.inl ⟨by rfl,?_⟩) ?_ ?_; rotate_left
         · intro w'; go_simp; with_reducible rfl
         rotate_left
         · simp only [Act.put,List.setIfInBounds_toArray,List.set_cons_zero,List.set_cons_succ,i64_w,i32_w]; rfl
         refine pure_ (i := 3) (N := some 33) (v := ?_) (a' := ?_) #[true,true,true,true,false,false,false,false,false,false,false,false,false,false] rfl rfl (any_of HT_.out (by kernel_rfl)) (fun _ _ _ h => h) (Or.inl ⟨by rfl,?_⟩) ?_ ?_; rotate_left
         · intro w'; go_simp; with_reducible rfl
         rotate_left
         · simp only [Act.put,List.setIfInBounds_toArray,List.set_cons_zero,List.set_cons_succ,i64_w,i32_w]; rfl
         refine pure_ (i := 4) (N := some 34) (v := undef) (a' := ?_) #[true,true,true,true,true,false,false,false,false,false,false,false,false,false] rfl rfl (any_of HT_.out (by kernel_rfl)) (fun _ _ _ h => h) (Or.inr ⟨by rfl,rfl⟩) ?_ ?_; rotate_left
         · simp only [Act.put,List.setIfInBounds_toArray,List.set_cons_zero,List.set_cons_succ,i64_w,i32_w]; rfl
         refine pure_ (i := 5) (N := some 35) (v := undef) (a' := ?_) #[true,true,true,true,true,true,false,false,false,false,false,false,false,false] rfl rfl (any_of HT_.out (by kernel_rfl)) (fun _ _ _ h => h) (Or.inr ⟨by rfl,rfl⟩) ?_ ?_; rotate_left
         · simp only [Act.put,List.setIfInBounds_toArray,List.set_cons_zero,List.set_cons_succ,i64_w,i32_w]; rfl
         refine pure_ (i := 6) (N := some 36) (v := undef) (a' := ?_) #[true,true,true,true,true,true,true,false,false,false,false,false,false,false] rfl rfl (any_of HT_.out (by kernel_rfl)) (fun _ _ _ h => h) (Or.inr ⟨by rfl,rfl⟩) ?_ ?_; rotate_left
         · simp only [Act.put,List.setIfInBounds_toArray,List.set_cons_zero,List.set_cons_succ,i64_w,i32_w]; rfl
         refine pure_ (i := 7) (N := some 37) (v := undef) (a' := ?_) #[true,true,true,true,true,true,true,true,false,false,false,false,false,false] rfl rfl (any_of HT_.out (by kernel_rfl)) (fun _ _ _ h => h) (Or.inr ⟨by rfl,rfl⟩) ?_ ?_; rotate_left
         · simp only [Act.put,List.setIfInBounds_toArray,List.set_cons_zero,List.set_cons_succ,i64_w,i32_w]; rfl
         refine pure_ (i := 8) (N := some 38) (v := undef) (a' := ?_) #[true,true,true,true,true,true,true,true,true,false,false,false,false,false] rfl rfl (any_of HT_.out (by kernel_rfl)) (fun _ _ _ h => h) (Or.inr ⟨by rfl,rfl⟩) ?_ ?_; rotate_left
         · simp only [Act.put,List.setIfInBounds_toArray,List.set_cons_zero,List.set_cons_succ,i64_w,i32_w]; rfl
         refine pure_ (i := 9) (N := some 39) (v := undef) (a' := ?_) #[true,true,true,true,true,true,true,true,true,true,false,false,false,false] rfl rfl (any_of HT_.out (by kernel_rfl)) (fun _ _ _ h => h) (Or.inr ⟨by rfl,rfl⟩) ?_ ?_; rotate_left
         · simp only [Act.put,List.setIfInBounds_toArray,List.set_cons_zero,List.set_cons_succ,i64_w,i32_w]; rfl
         refine pure_ (i := 10) (N := some 40) (v := undef) (a' := ?_) #[true,true,true,true,true,true,true,true,true,true,true,false,false,false] rfl rfl (any_of HT_.out (by kernel_rfl)) (fun _ _ _ h => h) (Or.inr ⟨by rfl,rfl⟩) ?_ ?_; rotate_left
         · simp only [Act.put,List.setIfInBounds_toArray,List.set_cons_zero,List.set_cons_succ,i64_w,i32_w]; rfl
         refine pure_ (i := 11) (N := some 41) (v := undef) (a' := ?_) #[true,true,true,true,true,true,true,true,true,true,true,true,false,false] rfl rfl (any_of HT_.out (by kernel_rfl)) (fun _ _ _ h => h) (Or.inr ⟨by rfl,rfl⟩) ?_ ?_; rotate_left
         · simp only [Act.put,List.setIfInBounds_toArray,List.set_cons_zero,List.set_cons_succ,i64_w,i32_w]; rfl
         refine pure_ (i := 12) (N := some 42) (v := undef) (a' := ?_) #[true,true,true,true,true,true,true,true,true,true,true,true,true,false] rfl rfl (any_of HT_.out (by kernel_rfl)) (fun _ _ _ h => h) (Or.inr ⟨by rfl,rfl⟩) ?_ ?_; rotate_left
         · simp only [Act.put,List.setIfInBounds_toArray,List.set_cons_zero,List.set_cons_succ,i64_w,i32_w]; rfl
         refine pure_ (i := 13) (N := some 43) (v := ?_) (a' := ?_) #[true,true,true,true,true,true,true,true,true,true,true,true,true,true] rfl rfl (any_of HT_.out (by kernel_rfl)) (fun _ _ _ h => h) (Or.inl ⟨by rfl,?_⟩) ?_ ?_; rotate_left
         · intro w'; go_simp; with_reducible rfl
         rotate_left
         · simp only [Act.put,List.setIfInBounds_toArray,List.set_cons_zero,List.set_cons_succ,i64_w,i32_w]; rfl
         refine done_ (done_of HT_.out (by kernel_rfl)) ?_; try go_wp2
         (try simp only [← hl0_1])
         go_meet
         case rel => exact ⟨_,(x10_1),(by first | rfl | (simp; done) | (simp [*]; done)),H',⟨by have := HK1.out; first | omega | exact Nat.le_refl _⟩,⟨by (try simp only [hl0_1]); (with_reducible repeat (first | apply BR_alloc | apply BR_drewN | apply BR_drew)); exact HO_0.out⟩,⟨by repeat (first | (with_reducible first | exact HK.out | apply Kept.alloc | apply Kept.drewN | apply Kept.drew) | exact HK.out)⟩,⟨by repeat (first | (with_reducible first | exact HB.out | apply below_alloc | apply pw_below_drewN | apply below_drew1) | exact HB.out)⟩⟩
     case rest =>
      clear HC11; try clear c1
      try clear p1
      try clear q1
      try clear hx1
      try clear c2
      try clear p2
      try clear c5
      try clear c5b0
      try clear c6
      try clear c6b0
      try clear p6
      try clear c7
      try clear c7b0
      try clear c8
      try clear c8b0
      try clear p9
      try clear q9
      try clear hx9
      try clear hf9
      try clear p10
      try clear q10
      try clear hx10
      try clear hf10
      try clear c16
      try clear c16b0
      try clear c17
      try clear c17b0
      try clear c18
      try clear c18b0
      try clear c19
      try clear c19b0
      try clear c20
      try clear c20b0
      try clear c22
      try clear hx101_0
      try clear hx102_0
      try clear hx105_0
      try clear hx106_0
      try clear hx10_0
      try clear hx9_0
      try clear p1
      try clear p10
      try clear p101
      try clear p102
      try clear p105
      try clear p106
      try clear p2
      try clear p6
      try clear p9
      try clear q1
      try clear q10
      try clear q101
      try clear q102
      try clear q105
      try clear q106
      try clear q9
      obtain ⟨kq,x10_10,rfl,HA,HJ10,HO_0,HK,HB⟩ := hcut; have hl0_10 := (BR_reads' HO_0.out).1; rw [hl0_10] at HO_0
      (try simp only [hl0_10])
      cases kq with
      | zero => exact absurd HA.out (by simp [slices_partitionOrdered_byte.j1])
      | succ kj10 =>
       have H := HA.out; clear HA; simp only [slices_partitionOrdered_byte.j1] at H; have HC26 := Aside0.mk H; clear H
       go_upto_block 2 with (fail)
       go_cut [11] (fun v11 wc => ∃ (kq : Nat) (x11_25 : Int),v11 = .int .i64 x11_25 ∧ Aside0 (slices_partitionOrdered_byte.j3 kq y104 a1 x10_10 x11_25 = some (r1,r2,r3)) ∧ Aside0 (kq ≤ kj10) ∧ Aside0 (BR wc w0.heap.size (fun k_ => (P0_ k_ ∨ w.heap.size ≤ k_)) (.slice (some ⟨go9,0,none⟩) y104.length co13) y104) ∧ Aside0 (Kept w wc (fun k_ => P0_ k_)) ∧ Aside0 (Below w0.heap.size w0 wc))
       case first =>
        have H := HC26.out; clear HC26; have H' := Aside0.mk H; clear H; go_wp2
        go_loopg [11] kj10 (fun kq v11 w' => ∃ (x11_2 : Int),v11 = .int .i64 x11_2 ∧ Aside0 (slices_partitionOrdered_byte.l1 kq y104 a1 x10_10 x11_2 = some (r1,r2,r3)) ∧ Aside0 (kq ≤ kj10) ∧ Aside0 (BR w' w0.heap.size (fun k_ => (P0_ k_ ∨ w.heap.size ≤ k_)) (.slice (some ⟨go9,0,none⟩) y104.length co13) y104) ∧ Aside0 (Kept w w' (fun k_ => P0_ k_)) ∧ Aside0 (Below w0.heap.size w0 w'))
        case atStart => exact ⟨((wrap64 (a2 - 1))),(by first | rfl | (simp; done) | (simp [*]; done)),H',⟨Nat.le_refl _⟩,⟨by (try simp only [hl0_10]); (with_reducible repeat (first | apply BR_alloc | apply BR_drewN | apply BR_drew)); exact HO_0.out⟩,⟨by repeat (first | (with_reducible first | exact HK.out | apply Kept.alloc | apply Kept.drewN | apply Kept.drew) | exact HK.out)⟩,⟨by repeat (first | (with_reducible first | exact HB.out | apply below_alloc | apply pw_below_drewN | apply below_drew1) | exact HB.out)⟩⟩
        case round =>
         clear H'; try clear c1
         try clear p1
         try clear q1
         try clear hx1
         try clear c2
         try clear p2
         try clear c5
         try clear c5b0
         try clear c6
         try clear c6b0
         try clear p6
         try clear c7
         try clear c7b0
         try clear c8
         try clear c8b0
         try clear p9
         try clear q9
         try clear hx9
         try clear hf9
         try clear p10
         try clear q10
         try clear hx10
         try clear hf10
         try clear c16
         try clear c16b0
         try clear c17
         try clear c17b0
         try clear c18
         try clear c18b0
         try clear c19
         try clear c19b0
         try clear c20
         try clear c20b0
         try clear c22
         try clear hx101_0
         try clear hx102_0
         try clear hx105_0
         try clear hx106_0
         try clear hx10_0
         try clear hx9_0
         try clear p1
         try clear p10
         try clear p101
         try clear p102
         try clear p105
         try clear p106
         try clear p2
         try clear p6
         try clear p9
         try clear q1
         try clear q10
         try clear q101
         try clear q102
         try clear q105
         try clear q106
         try clear q9
         obtain ⟨x11_2,rfl,HA,HK2,HO_0,HK,HB⟩ := hrel
         cases gk with
         | zero => exact absurd HA.out (by simp [slices_partitionOrdered_byte.l1])
         | succ k2 =>
          have H := HA.out; clear HA; simp only [slices_partitionOrdered_byte.l1] at H
          by_cases c27 : x10_10 ≤ x11_2
          ·
           rw [if_pos c27] at H; have c27b0 : decide (x10_10 ≤ x11_2) = true := decide_eq_true c27; clear c27
           (first | rw [c27b0] | (simp only [i64_w,i32_w]; rw [c27b0]) | skip)
           by_cases c28 : 0 ≤ x11_2
           ·
            rw [if_pos c28] at H; have c28b0 : decide (0 ≤ x11_2) = true := decide_eq_true c28; clear c28
            by_cases c29 : x11_2 < (y104.length : Int)
            ·
             rw [if_pos c29] at H; have c29b0 : decide (x11_2 < (y104.length : Int)) = true := decide_eq_true c29
             (try (have c29b0_ := c29b0; rw [hl0_10] at c29b0_))
             clear c29
             by_cases c30 : 0 ≤ a1
             ·
              rw [if_pos c30] at H; have c30b0 : decide (0 ≤ a1) = true := decide_eq_true c30; clear c30
              by_cases c31 : a1 < (y104.length : Int)
              ·
               rw [if_pos c31] at H; have c31b0 : decide (a1 < (y104.length : Int)) = true := decide_eq_true c31
               (try (have c31b0_ := c31b0; rw [hl0_10] at c31b0_))
               clear c31; replace H := Option.bind_eq_some_iff.mp H; obtain ⟨t110,A320,H⟩ := H; replace H : (if t110 = true then (slices_partitionOrdered_byte.j3 k2 y104 a1 x10_10 x11_2) else (slices_partitionOrdered_byte.l1 k2 y104 a1 x10_10 (wrap64 (x11_2 - 1)))) = some (r1,r2,r3) := H; have A32 := Aside0.mk A320; clear A320
               by_cases c33 : t110 = true
               ·
                subst c33; have H1 : (slices_partitionOrdered_byte.j3 k2 y104 a1 x10_10 x11_2) = some (r1,r2,r3) := by rw [if_pos rfl] at H; exact H
                clear H; have H := H1; clear H1; have H' := Aside0.mk H; clear H; try go_wp2
                have n0_ := Aside0.mk (BR_drew HO_0.out); have n1_ := Aside0.mk (Kept.drew HK.out); have n2_ := Aside0.mk (below_drew1 HB.out); clear HO_0; clear HK; clear HB; have HO_0 := n0_; have HK := n1_; have HB := n2_; clear n0_ n1_ n2_; have p108 : 0 ≤ (x11_2 : Int) := of_decide_eq_true (by first | (with_reducible assumption) | assumption); have q108 : x11_2 < (y104.length : Int) := of_decide_eq_true (by first | (with_reducible assumption) | assumption); obtain ⟨ad108,e108,hx108_0⟩ := Kd.at_int (BR_reads' HO_0.out).2.2 x11_2 p108 q108; obtain rfl : (⟨go9,0,none⟩ : Addr) = ad108 := (by injection e108)
                (first | simp only [add_plain] at hx108_0 | simp only [add_at] at hx108_0 | simp only [Addr.add,Nat.zero_add] at hx108_0 | skip)
                replace p108 := eq_true p108; replace q108 := eq_true q108; have p109 : 0 ≤ (a1 : Int) := of_decide_eq_true (by first | (with_reducible assumption) | assumption); have q109 : a1 < (y104.length : Int) := of_decide_eq_true (by first | (with_reducible assumption) | assumption); obtain ⟨ad109,e109,hx109_0⟩ := Kd.at_int (BR_reads' HO_0.out).2.2 a1 p109 q109; obtain rfl : (⟨go9,0,none⟩ : Addr) = ad109 := (by injection e109)
                (first | simp only [add_plain] at hx109_0 | simp only [add_at] at hx109_0 | simp only [Addr.add,Nat.zero_add] at hx109_0 | skip)
                replace p109 := eq_true p109; replace q109 := eq_true q109; refine start_ (n := 15) (S := fun w' => w'.cell? ⟨go9,(x11_2).toNat,none⟩ = some (.int .u8 (rd y104 x11_2)) ∧ w'.cell? ⟨go9,(a1).toNat,none⟩ = some (.int .u8 (rd y104 a1))) (ds := []) #[false,false,false,false,false,false,false,false,false,false,false,false,false,false,false] (by kernel_rfl) rfl rfl ⟨hx108_0,hx109_0⟩ (fun hHeld => ?_); refine with_tabW slices_partitionOrdered_byte.tab5 slices_partitionOrdered_byte.bits5 (fun HT_ HW_ => ?_)
                generalize wr.drew = w34 at HO_0 HK HB hx108_0 hx109_0 hHeld ⊢; refine pure_ (i := 0) (N := some 46) (v := ?_) (a' := ?_) #[true,false,false,false,false,false,false,false,false,false,false,false,false,false,false] rfl rfl (any_of HT_.out (by kernel_rfl)) (fun _ _ _ h => h) (Or.inl ⟨by rfl,?_⟩) ?_ ?_; rotate_left
                · intro w'; go_simp; with_reducible rfl
                rotate_left
                · simp only [Act.put,List.setIfInBounds_toArray,List.set_cons_zero,List.set_cons_succ,i64_w,i32_w]; rfl
                refine pure_ (i := 1) (N := some 47) (v := ?_) (a' := ?_) #[true,true,false,false,false,false,false,false,false,false,false,false,false,false,false] rfl rfl (any_of HT_.out (by kernel_rfl)) (fun _ _ _ h => h) (Or.inl ⟨by rfl,?_⟩) ?_ ?_; rotate_left
                · intro w'; go_simp; with_reducible rfl
                rotate_left
                · simp only [Act.put,List.setIfInBounds_toArray,List.set_cons_zero,List.set_cons_succ,i64_w,i32_w]; rfl
                refine pure_ (i := 2) (N := some 48) (v := ?_) (a' := ?_) #[true,true,true,false,false,false,false,false,false,false,false,false,false,false,false] rfl rfl (any_of HT_.out (by kernel_rfl)) (fun _ _ _ h => h) (Or.inl ⟨by rfl,?_⟩) ?_ ?_; rotate_left
                · intro w'; go_simp; with_reducible rfl
                rotate_left
                · simp only [Act.put,List.setIfInBounds_toArray,List.set_cons_zero,List.set_cons_succ,i64_w,i32_w]; rfl
                refine pure_ (i := 3) (N := some 49) (v := ?_) (a' := ?_) #[true,true,true,true,false,false,false,false,false,false,false,false,false,false,false] rfl rfl (any_of HT_.out (by kernel_rfl)) (fun _ _ _ h => h) (Or.inl ⟨by rfl,?_⟩) ?_ ?_; rotate_left
                · intro w'; go_simp; with_reducible rfl
                rotate_left
                · simp only [Act.put,List.setIfInBounds_toArray,List.set_cons_zero,List.set_cons_succ,i64_w,i32_w]; rfl
                refine pure_ (i := 4) (N := some 50) (v := ?_) (a' := ?_) #[true,true,true,true,true,false,false,false,false,false,false,false,false,false,false] rfl rfl (any_of HT_.out (by kernel_rfl)) (fun _ _ _ h => h) (Or.inl ⟨by rfl,?_⟩) ?_ ?_; rotate_left
                · intro w'; go_simp; with_reducible rfl
                rotate_left
                · simp only [Act.put,List.setIfInBounds_toArray,List.set_cons_zero,List.set_cons_succ,i64_w,i32_w]; rfl
                refine pure_ (i := 5) (N := some 51) (v := ?_) (a' := ?_) #[true,true,true,true,true,true,false,false,false,false,false,false,false,false,false] rfl rfl (any_of HT_.out (by kernel_rfl)) (fun _ _ _ h => h) (Or.inl ⟨by rfl,?_⟩) ?_ ?_; rotate_left
                · intro w'; go_simp; with_reducible rfl
                rotate_left
                · simp only [Act.put,List.setIfInBounds_toArray,List.set_cons_zero,List.set_cons_succ,i64_w,i32_w]; rfl
                refine pure_ (i := 6) (N := some 52) (v := ?_) (a' := ?_) #[true,true,true,true,true,true,true,false,false,false,false,false,false,false,false] rfl rfl (any_of HT_.out (by kernel_rfl)) (fun _ _ _ h => h) (Or.inl ⟨by rfl,?_⟩) ?_ ?_; rotate_left
                · intro w'; go_simp; with_reducible rfl
                rotate_left
                · simp only [Act.put,List.setIfInBounds_toArray,List.set_cons_zero,List.set_cons_succ,i64_w,i32_w]; rfl
                refine pure_ (i := 8) (N := some 54) (v := ?_) (a' := ?_) #[true,true,true,true,true,true,true,false,true,false,false,false,false,false,false] rfl rfl (any_of HT_.out (by kernel_rfl)) (fun _ _ _ h => h) (Or.inl ⟨by rfl,?_⟩) ?_ ?_; rotate_left
                · intro w'; go_simp; with_reducible rfl
                rotate_left
                · simp only [Act.put,List.setIfInBounds_toArray,List.set_cons_zero,List.set_cons_succ,i64_w,i32_w]; rfl
                refine pure_ (i := 9) (N := some 55) (v := ?_) (a' := ?_) #[true,true,true,true,true,true,true,false,true,true,false,false,false,false,false] rfl rfl (any_of HT_.out (by kernel_rfl)) (fun _ _ _ h => h) (Or.inl ⟨by rfl,?_⟩) ?_ ?_; rotate_left
                · intro w'; go_simp; with_reducible rfl
                rotate_left
                · simp only [Act.put,List.setIfInBounds_toArray,List.set_cons_zero,List.set_cons_succ,i64_w,i32_w]; rfl
                refine pure_ (i := 10) (N := some 56) (v := ?_) (a' := ?_) #[true,true,true,true,true,true,true,false,true,true,true,false,false,false,false] rfl rfl (any_of HT_.out (by kernel_rfl)) (fun _ _ _ h => h) (Or.inl ⟨by rfl,?_⟩) ?_ ?_; rotate_left
                · intro w'; go_simp; with_reducible rfl
                rotate_left
                · simp only [Act.put,List.setIfInBounds_toArray,List.set_cons_zero,List.set_cons_succ,i64_w,i32_w]; rfl
                refine take_ (i := 7) (N := some 53) (v := ?_) (a' := ?_) #[true,true,true,true,true,true,true,true,true,true,true,false,false,false,false] rfl rfl (take_ofW HT_.out HW_.out (by kernel_rfl)) (fun _ _ _ h => h) (Or.inl ⟨by rfl,?_⟩) hHeld ?_ ?_; rotate_left
                · rintro w' ⟨s0,s1⟩; go_simp; with_reducible rfl
                rotate_left
                · simp only [Act.put,List.setIfInBounds_toArray,List.set_cons_zero,List.set_cons_succ,i64_w,i32_w]; rfl
                refine take_ (i := 11) (N := some 57) (v := ?_) (a' := ?_) #[true,true,true,true,true,true,true,true,true,true,true,true,false,false,false] rfl rfl (take_ofW HT_.out HW_.out (by kernel_rfl)) (fun _ _ _ h => h) (Or.inl ⟨by rfl,?_⟩) hHeld ?_ ?_; rotate_left
                · rintro w' ⟨s0,s1⟩; go_simp; with_reducible rfl
                rotate_left
                · simp only [Act.put,List.setIfInBounds_toArray,List.set_cons_zero,List.set_cons_succ,i64_w,i32_w]; rfl
                refine one_ (i := 12) (N := some 58) #[true,true,true,true,true,true,true,true,true,true,true,true,true,false,false] rfl rfl (one_of HT_.out (by kernel_rfl)) (by decide) (fun K hK => ?_); refine goes_ Tryd.func82 (by kernel_rfl) rfl #[.int .u8 (rd y104 x11_2),.int .u8 (rd y104 a1)] (by rfl) rfl rfl (by (try simp only [List.map_toArray,List.map_cons,List.map_nil]); first | done | rfl | (simp only [List.length_drop,List.length_take]; rfl)) ?_; with_reducible refine (cmp_Less_byte.calls (rd y104 x11_2) (rd y104 a1) true _ A32.out).mono ?_
                rintro e w' ⟨rfl,⟨nd,rfl⟩⟩; refine ⟨_,rfl,?_⟩; refine hK.out _ _ ⟨hHeld.1,hHeld.2⟩ (fun hHeld => ?_); clear hK K; refine norm_ (a' := ?_) ?_ ?_; rotate_left
                ·
                 show Act.put _ (some 58) _ = _
                 simp only [Act.put,List.setIfInBounds_toArray,List.set_cons_zero,List.set_cons_succ,i64_w,i32_w]; rfl
                refine pure_ (i := 13) (N := some 59) (v := ?_) (a' := ?_) #[true,true,true,true,true,true,true,true,true,true,true,true,true,true,false] rfl rfl (any_of HT_.out (by kernel_rfl)) (fun _ _ _ h => h) (Or.inl ⟨by rfl,?_⟩) ?_ ?_; rotate_left
                · intro w'; go_simp; with_reducible rfl
                rotate_left
                · simp only [Act.put,List.setIfInBounds_toArray,List.set_cons_zero,List.set_cons_succ,i64_w,i32_w]; rfl
                refine pure_ (i := 14) (N := some 60) (v := ?_) (a' := ?_) #[true,true,true,true,true,true,true,true,true,true,true,true,true,true,true] rfl rfl (any_of HT_.out (by kernel_rfl)) (fun _ _ _ h => h) (Or.inl ⟨by rfl,?_⟩) ?_ ?_; rotate_left
                · intro w'; go_simp; with_reducible rfl
                rotate_left
                · simp only [Act.put,List.setIfInBounds_toArray,List.set_cons_zero,List.set_cons_succ,i64_w,i32_w]; rfl
                refine done_ (done_of HT_.out (by kernel_rfl)) ?_; try go_wp2
                go_meet
                case rel => exact ⟨_,(x11_2),(by first | rfl | (simp; done) | (simp [*]; done)),H',⟨by have := HJ10.out; have := HK2.out; first | omega | exact Nat.le_refl _⟩,⟨by (try simp only [hl0_10]); (with_reducible repeat (first | apply BR_alloc | apply BR_drewN | apply BR_drew)); exact HO_0.out⟩,⟨by repeat (first | (with_reducible first | exact HK.out | apply Kept.alloc | apply Kept.drewN | apply Kept.drew) | exact HK.out)⟩,⟨by repeat (first | (with_reducible first | exact HB.out | apply below_alloc | apply pw_below_drewN | apply below_drew1) | exact HB.out)⟩⟩
               ·
                replace c33 := Bool.eq_false_iff.mpr c33; subst c33; have H1 : (slices_partitionOrdered_byte.l1 k2 y104 a1 x10_10 (wrap64 (x11_2 - 1))) = some (r1,r2,r3) := by rw [if_neg (show ¬ (false = true) by decide)] at H; exact H
                clear H; have H := H1; clear H1; have H' := Aside0.mk H; clear H; try go_wp2
                have n0_ := Aside0.mk (BR_drew HO_0.out); have n1_ := Aside0.mk (Kept.drew HK.out); have n2_ := Aside0.mk (below_drew1 HB.out); clear HO_0; clear HK; clear HB; have HO_0 := n0_; have HK := n1_; have HB := n2_; clear n0_ n1_ n2_; have p108 : 0 ≤ (x11_2 : Int) := of_decide_eq_true (by first | (with_reducible assumption) | assumption); have q108 : x11_2 < (y104.length : Int) := of_decide_eq_true (by first | (with_reducible assumption) | assumption); obtain ⟨ad108,e108,hx108_0⟩ := Kd.at_int (BR_reads' HO_0.out).2.2 x11_2 p108 q108; obtain rfl : (⟨go9,0,none⟩ : Addr) = ad108 := (by injection e108)
                (first | simp only [add_plain] at hx108_0 | simp only [add_at] at hx108_0 | simp only [Addr.add,Nat.zero_add] at hx108_0 | skip)
                replace p108 := eq_true p108; replace q108 := eq_true q108; have p109 : 0 ≤ (a1 : Int) := of_decide_eq_true (by first | (with_reducible assumption) | assumption); have q109 : a1 < (y104.length : Int) := of_decide_eq_true (by first | (with_reducible assumption) | assumption); obtain ⟨ad109,e109,hx109_0⟩ := Kd.at_int (BR_reads' HO_0.out).2.2 a1 p109 q109; obtain rfl : (⟨go9,0,none⟩ : Addr) = ad109 := (by injection e109)
                (first | simp only [add_plain] at hx109_0 | simp only [add_at] at hx109_0 | simp only [Addr.add,Nat.zero_add] at hx109_0 | skip)
                replace p109 := eq_true p109; replace q109 := eq_true q109; refine start_ (n := 15) (S := fun w' => w'.cell? ⟨go9,(x11_2).toNat,none⟩ = some (.int .u8 (rd y104 x11_2)) ∧ w'.cell? ⟨go9,(a1).toNat,none⟩ = some (.int .u8 (rd y104 a1))) (ds := []) #[false,false,false,false,false,false,false,false,false,false,false,false,false,false,false] (by kernel_rfl) rfl rfl ⟨hx108_0,hx109_0⟩ (fun hHeld => ?_); refine with_tabW slices_partitionOrdered_byte.tab5 slices_partitionOrdered_byte.bits5 (fun HT_ HW_ => ?_)
                generalize wr.drew = w35 at HO_0 HK HB hx108_0 hx109_0 hHeld ⊢; refine pure_ (i := 0) (N := some 46) (v := ?_) (a' := ?_) #[true,false,false,false,false,false,false,false,false,false,false,false,false,false,false] rfl rfl (any_of HT_.out (by kernel_rfl)) (fun _ _ _ h => h) (Or.inl ⟨by rfl,?_⟩) ?_ ?_; rotate_left
                · intro w'; go_simp; with_reducible rfl
                rotate_left
                · simp only [Act.put,List.setIfInBounds_toArray,List.set_cons_zero,List.set_cons_succ,i64_w,i32_w]; rfl
                refine pure_ (i := 1) (N := some 47) (v := ?_) (a' := ?_) #[true,true,false,false,false,false,false,false,false,false,false,false,false,false,false] rfl rfl (any_of HT_.out (by kernel_rfl)) (fun _ _ _ h => h) (Or.inl ⟨by rfl,?_⟩) ?_ ?_; rotate_left
                · intro w'; go_simp; with_reducible rfl
                rotate_left
                · simp only [Act.put,List.setIfInBounds_toArray,List.set_cons_zero,List.set_cons_succ,i64_w,i32_w]; rfl
                refine pure_ (i := 2) (N := some 48) (v := ?_) (a' := ?_) #[true,true,true,false,false,false,false,false,false,false,false,false,false,false,false] rfl rfl (any_of HT_.out (by kernel_rfl)) (fun _ _ _ h => h) (Or.inl ⟨by rfl,?_⟩) ?_ ?_; rotate_left
                · intro w'; go_simp; with_reducible rfl
                rotate_left
                · simp only [Act.put,List.setIfInBounds_toArray,List.set_cons_zero,List.set_cons_succ,i64_w,i32_w]; rfl
                refine pure_ (i := 3) (N := some 49) (v := ?_) (a' := ?_) #[true,true,true,true,false,false,false,false,false,false,false,false,false,false,false] rfl rfl (any_of HT_.out (by kernel_rfl)) (fun _ _ _ h => h) (Or.inl ⟨by rfl,?_⟩) ?_ ?_; rotate_left
                · intro w'; go_simp; with_reducible rfl
                rotate_left
                · simp only [Act.put,List.setIfInBounds_toArray,List.set_cons_zero,List.set_cons_succ,i64_w,i32_w]; rfl
                refine pure_ (i := 4) (N := some 50) (v := ?_) (a' := ?_) #[true,true,true,true,true,false,false,false,false,false,false,false,false,false,false] rfl rfl (any_of HT_.out (by kernel_rfl)) (fun _ _ _ h => h) (Or.inl ⟨by rfl,?_⟩) ?_ ?_; rotate_left
                · intro w'; go_simp; with_reducible rfl
                rotate_left
                · simp only [Act.put,List.setIfInBounds_toArray,List.set_cons_zero,List.set_cons_succ,i64_w,i32_w]; rfl
                refine pure_ (i := 5) (N := some 51) (v := ?_) (a' := ?_) #[true,true,true,true,true,true,false,false,false,false,false,false,false,false,false] rfl rfl (any_of HT_.out (by kernel_rfl)) (fun _ _ _ h => h) (Or.inl ⟨by rfl,?_⟩) ?_ ?_; rotate_left
                · intro w'; go_simp; with_reducible rfl
                rotate_left
                · simp only [Act.put,List.setIfInBounds_toArray,List.set_cons_zero,List.set_cons_succ,i64_w,i32_w]; rfl
                refine pure_ (i := 6) (N := some 52) (v := ?_) (a' := ?_) #[true,true,true,true,true,true,true,false,false,false,false,false,false,false,false] rfl rfl (any_of HT_.out (by kernel_rfl)) (fun _ _ _ h => h) (Or.inl ⟨by rfl,?_⟩) ?_ ?_; rotate_left
                · intro w'; go_simp; with_reducible rfl
                rotate_left
                · simp only [Act.put,List.setIfInBounds_toArray,List.set_cons_zero,List.set_cons_succ,i64_w,i32_w]; rfl
                refine pure_ (i := 8) (N := some 54) (v := ?_) (a' := ?_) #[true,true,true,true,true,true,true,false,true,false,false,false,false,false,false] rfl rfl (any_of HT_.out (by kernel_rfl)) (fun _ _ _ h => h) (Or.inl ⟨by rfl,?_⟩) ?_ ?_; rotate_left
                · intro w'; go_simp; with_reducible rfl
                rotate_left
                · simp only [Act.put,List.setIfInBounds_toArray,List.set_cons_zero,List.set_cons_succ,i64_w,i32_w]; rfl
                refine pure_ (i := 9) (N := some 55) (v := ?_) (a' := ?_) #[true,true,true,true,true,true,true,false,true,true,false,false,false,false,false] rfl rfl (any_of HT_.out (by kernel_rfl)) (fun _ _ _ h => h) (Or.inl ⟨by rfl,?_⟩) ?_ ?_; rotate_left
                · intro w'; go_simp; with_reducible rfl
                rotate_left
                · simp only [Act.put,List.setIfInBounds_toArray,List.set_cons_zero,List.set_cons_succ,i64_w,i32_w]; rfl
                refine pure_ (i := 10) (N := some 56) (v := ?_) (a' := ?_) #[true,true,true,true,true,true,true,false,true,true,true,false,false,false,false] rfl rfl (any_of HT_.out (by kernel_rfl)) (fun _ _ _ h => h) (Or.inl ⟨by rfl,?_⟩) ?_ ?_; rotate_left
                · intro w'; go_simp; with_reducible rfl
                rotate_left
                · simp only [Act.put,List.setIfInBounds_toArray,List.set_cons_zero,List.set_cons_succ,i64_w,i32_w]; rfl
                refine take_ (i := 7) (N := some 53) (v := ?_) (a' := ?_) #[true,true,true,true,true,true,true,true,true,true,true,false,false,false,false] rfl rfl (take_ofW HT_.out HW_.out (by kernel_rfl)) (fun _ _ _ h => h) (Or.inl ⟨by rfl,?_⟩) hHeld ?_ ?_; rotate_left
                · rintro w' ⟨s0,s1⟩; go_simp; with_reducible rfl
                rotate_left
                · simp only [Act.put,List.setIfInBounds_toArray,List.set_cons_zero,List.set_cons_succ,i64_w,i32_w]; rfl
                refine take_ (i := 11) (N := some 57) (v := ?_) (a' := ?_) #[true,true,true,true,true,true,true,true,true,true,true,true,false,false,false] rfl rfl (take_ofW HT_.out HW_.out (by kernel_rfl)) (fun _ _ _ h => h) (Or.inl ⟨by rfl,?_⟩) hHeld ?_ ?_; rotate_left
                · rintro w' ⟨s0,s1⟩; go_simp; with_reducible rfl
                rotate_left
                · simp only [Act.put,List.setIfInBounds_toArray,List.set_cons_zero,List.set_cons_succ,i64_w,i32_w]; rfl
                refine one_ (i := 12) (N := some 58) #[true,true,true,true,true,true,true,true,true,true,true,true,true,false,false] rfl rfl (one_of HT_.out (by kernel_rfl)) (by decide) (fun K hK => ?_); refine goes_ Tryd.func82 (by kernel_rfl) rfl #[.int .u8 (rd y104 x11_2),.int .u8 (rd y104 a1)] (by rfl) rfl rfl (by (try simp only [List.map_toArray,List.map_cons,List.map_nil]); first | done | rfl | (simp only [List.length_drop,List.length_take]; rfl)) ?_; with_reducible refine (cmp_Less_byte.calls (rd y104 x11_2) (rd y104 a1) false _ A32.out).mono ?_
                rintro e w' ⟨rfl,⟨nd,rfl⟩⟩; refine ⟨_,rfl,?_⟩; refine hK.out _ _ ⟨hHeld.1,hHeld.2⟩ (fun hHeld => ?_); clear hK K; refine norm_ (a' := ?_) ?_ ?_; rotate_left
                ·
                 show Act.put _ (some 58) _ = _
                 simp only [Act.put,List.setIfInBounds_toArray,List.set_cons_zero,List.set_cons_succ,i64_w,i32_w]; rfl
                refine pure_ (i := 13) (N := some 59) (v := ?_) (a' := ?_) #[true,true,true,true,true,true,true,true,true,true,true,true,true,true,false] rfl rfl (any_of HT_.out (by kernel_rfl)) (fun _ _ _ h => h) (Or.inl ⟨by rfl,?_⟩) ?_ ?_; rotate_left
                · intro w'; go_simp; with_reducible rfl
                rotate_left
                · simp only [Act.put,List.setIfInBounds_toArray,List.set_cons_zero,List.set_cons_succ,i64_w,i32_w]; rfl
                refine pure_ (i := 14) (N := some 60) (v := ?_) (a' := ?_) #[true,true,true,true,true,true,true,true,true,true,true,true,true,true,true] rfl rfl (any_of HT_.out (by kernel_rfl)) (fun _ _ _ h => h) (Or.inl ⟨by rfl,?_⟩) ?_ ?_; rotate_left
                · intro w'; go_simp; with_reducible rfl
                rotate_left
                · simp only [Act.put,List.setIfInBounds_toArray,List.set_cons_zero,List.set_cons_succ,i64_w,i32_w]; rfl
                refine done_ (done_of HT_.out (by kernel_rfl)) ?_; try go_wp2
                go_roundg k2
                case measure => have := HJ10.out; have := HK2.out; omega
                case rel => exact ⟨(wrap64 (x11_2 - 1)),(by first | rfl | (simp; done) | (simp [*]; done)),H',⟨by have := HJ10.out; have := HK2.out; omega⟩,⟨by (try simp only [hl0_10]); (with_reducible repeat (first | apply BR_alloc | apply BR_drewN | apply BR_drew)); exact HO_0.out⟩,⟨by repeat (first | (with_reducible first | exact HK.out | apply Kept.alloc | apply Kept.drewN | apply Kept.drew) | exact HK.out)⟩,⟨by repeat (first | (with_reducible first | exact HB.out | apply below_alloc | apply pw_below_drewN | apply below_drew1) | exact HB.out)⟩⟩
              · rw [if_neg c31] at H; exact absurd H (by simp)
             · rw [if_neg c30] at H; exact absurd H (by simp)
            · rw [if_neg c29] at H; exact absurd H (by simp)
           · rw [if_neg c28] at H; exact absurd H (by simp)
          ·
           rw [if_neg c27] at H; have c27b0 : decide (x10_10 ≤ x11_2) = false := decide_eq_false c27; clear c27
           (first | rw [c27b0] | (simp only [i64_w,i32_w]; rw [c27b0]) | skip)
           have H' := Aside0.mk H; clear H; try go_wp2
           have n0_ := Aside0.mk (BR_drew HO_0.out); have n1_ := Aside0.mk (Kept.drew HK.out); have n2_ := Aside0.mk (below_drew1 HB.out); clear HO_0; clear HK; clear HB; have HO_0 := n0_; have HK := n1_; have HB := n2_; clear n0_ n1_ n2_; refine start_ (n := 15) (S := fun w' => True) (ds := []) #[false,false,false,false,false,false,false,false,false,false,false,false,false,false,false] (by kernel_rfl) rfl rfl trivial (fun hHeld => ?_); refine with_tabW slices_partitionOrdered_byte.tab5 slices_partitionOrdered_byte.bits5 (fun HT_ HW_ => ?_)
           generalize wr.drew = w36 at HO_0 HK HB hHeld ⊢; refine pure_ (i := 0) (N := some 46) (v := ?_) (a' := ?_) #[true,false,false,false,false,false,false,false,false,false,false,false,false,false,false] rfl rfl (any_of HT_.out (by kernel_rfl)) (fun _ _ _ h => h) (Or.inl ⟨by rfl,?_⟩) ?_ ?_; rotate_left
           · intro w'; go_simp; with_reducible rfl
           rotate_left
           · simp only [Act.put,List.setIfInBounds_toArray,List.set_cons_zero,List.set_cons_succ,i64_w,i32_w]; rfl
           refine pure_ (i := 1) (N := some 47) (v := ?_) (a' := ?_) #[true,true,false,false,false,false,false,false,false,false,false,false,false,false,false] rfl rfl (any_of HT_.out (by kernel_rfl)) (fun _ _ _ h => h) (Or.inl ⟨by rfl,?_⟩) ?_ ?_; rotate_left
           · intro w'; go_simp; with_reducible rfl
           rotate_left
           · simp only [Act.put,List.setIfInBounds_toArray,List.set_cons_zero,List.set_cons_succ,i64_w,i32_w]; rfl
           refine pure_ (i := 2) (N := some 48) (v := ?_) (a' := ?_) #[true,true,true,false,false,false,false,false,false,false,false,false,false,false,false] rfl rfl (any_of HT_.out (by kernel_rfl)) (fun _ _ _ h => h) (Or.inl ⟨by rfl,?_⟩) ?_ ?_; rotate_left
           · intro w'; go_simp; with_reducible rfl
           rotate_left
           · simp only [Act.put,List.setIfInBounds_toArray,List.set_cons_zero,List.set_cons_succ,i64_w,i32_w]; rfl
           refine pure_ (i := 3) (N := some 49) (v := ?_) (a' := ?_) #[true,true,true,true,false,false,false,false,false,false,false,false,false,false,false] rfl rfl (any_of HT_.out (by kernel_rfl)) (fun _ _ _ h => h) (Or.inl ⟨by rfl,?_⟩) ?_ ?_; rotate_left
           · intro w'; go_simp; with_reducible rfl
           rotate_left
           · simp only [Act.put,List.setIfInBounds_toArray,List.set_cons_zero,List.set_cons_succ,i64_w,i32_w]; rfl
           refine pure_ (i := 4) (N := some 50) (v := undef) (a' := ?_) #[true,true,true,true,true,false,false,false,false,false,false,false,false,false,false] rfl rfl (any_of HT_.out (by kernel_rfl)) (fun _ _ _ h => h) (Or.inr ⟨by rfl,rfl⟩) ?_ ?_; rotate_left
           · simp only [Act.put,List.setIfInBounds_toArray,List.set_cons_zero,List.set_cons_succ,i64_w,i32_w]; rfl
           refine pure_ (i := 5) (N := some 51) (v := undef) (a' := ?_) #[true,true,true,true,true,true,false,false,false,false,false,false,false,false,false] rfl rfl (any_of HT_.out (by kernel_rfl)) (fun _ _ _ h => h) (Or.inr ⟨by rfl,rfl⟩) ?_ ?_; rotate_left
           · simp only [Act.put,List.setIfInBounds_toArray,List.set_cons_zero,List.set_cons_succ,i64_w,i32_w]; rfl
           refine pure_ (i := 6) (N := some 52) (v := undef) (a' := ?_) #[true,true,true,true,true,true,true,false,false,false,false,false,false,false,false] rfl rfl (any_of HT_.out (by kernel_rfl)) (fun _ _ _ h => h) (Or.inr ⟨by rfl,rfl⟩) ?_ ?_; rotate_left
           · simp only [Act.put,List.setIfInBounds_toArray,List.set_cons_zero,List.set_cons_succ,i64_w,i32_w]; rfl
           refine pure_ (i := 7) (N := some 53) (v := undef) (a' := ?_) #[true,true,true,true,true,true,true,true,false,false,false,false,false,false,false] rfl rfl (any_of HT_.out (by kernel_rfl)) (fun _ _ _ h => h) (Or.inr ⟨by rfl,rfl⟩) ?_ ?_; rotate_left
           · simp only [Act.put,List.setIfInBounds_toArray,List.set_cons_zero,List.set_cons_succ,i64_w,i32_w]; rfl
           refine pure_ (i := 8) (N := some 54) (v := undef) (a' := ?_) #[true,true,true,true,true,true,true,true,true,false,false,false,false,false,false] rfl rfl (any_of HT_.out (by kernel_rfl)) (fun _ _ _ h => h) (Or.inr ⟨by rfl,rfl⟩) ?_ ?_; rotate_left
           · simp only [Act.put,List.setIfInBounds_toArray,List.set_cons_zero,List.set_cons_succ,i64_w,i32_w]; rfl
           refine pure_ (i := 9) (N := some 55) (v := undef) (a' := ?_) #[true,true,true,true,true,true,true,true,true,true,false,false,false,false,false] rfl rfl (any_of HT_.out (by kernel_rfl)) (fun _ _ _ h => h) (Or.inr ⟨by rfl,rfl⟩) ?_ ?_; rotate_left
           · simp only [Act.put,List.setIfInBounds_toArray,List.set_cons_zero,List.set_cons_succ,i64_w,i32_w]; rfl
           refine pure_ (i := 10) (N := some 56) (v := undef) (a' := ?_) #[true,true,true,true,true,true,true,true,true,true,true,false,false,false,false] rfl rfl (any_of HT_.out (by kernel_rfl)) (fun _ _ _ h => h) (Or.inr ⟨by rfl,rfl⟩) ?_ ?_; rotate_left
           · simp only [Act.put,List.setIfInBounds_toArray,List.set_cons_zero,List.set_cons_succ,i64_w,i32_w]; rfl
           refine pure_ (i := 11) (N := some 57) (v := undef) (a' := ?_) #[true,true,true,true,true,true,true,true,true,true,true,true,false,false,false] rfl rfl (any_of HT_.out (by kernel_rfl)) (fun _ _ _ h => h) (Or.inr ⟨by rfl,rfl⟩) ?_ ?_; rotate_left
           · simp only [Act.put,List.setIfInBounds_toArray,List.set_cons_zero,List.set_cons_succ,i64_w,i32_w]; rfl
           refine pure_ (i := 12) (N := some 58) (v := undef) (a' := ?_) #[true,true,true,true,true,true,true,true,true,true,true,true,true,false,false] rfl rfl (any_of HT_.out (by kernel_rfl)) (fun _ _ _ h => h) (Or.inr ⟨by rfl,rfl⟩) ?_ ?_; rotate_left
           · simp only [Act.put,List.setIfInBounds_toArray,List.set_cons_zero,List.set_cons_succ,i64_w,i32_w]; rfl
           refine pure_ (i := 13) (N := some 59) (v := undef) (a' := ?_) #[true,true,true,true,true,true,true,true,true,true,true,true,true,true,false] rfl rfl (any_of HT_.out (by kernel_rfl)) (fun _ _ _ h => h) (Or.inr ⟨by rfl,rfl⟩) ?_ ?_; rotate_left
           · simp only [Act.put,List.setIfInBounds_toArray,List.set_cons_zero,List.set_cons_succ,i64_w,i32_w]; rfl
           refine pure_ (i := 14) (N := some 60) (v := ?_) (a' := ?_) #[true,true,true,true,true,true,true,true,true,true,true,true,true,true,true] rfl rfl (any_of HT_.out (by kernel_rfl)) (fun _ _ _ h => h) (Or.inl ⟨by rfl,?_⟩) ?_ ?_; rotate_left
           · intro w'; go_simp; with_reducible rfl
           rotate_left
           · simp only [Act.put,List.setIfInBounds_toArray,List.set_cons_zero,List.set_cons_succ,i64_w,i32_w]; rfl
           refine done_ (done_of HT_.out (by kernel_rfl)) ?_; try go_wp2
           go_meet
           case rel => exact ⟨_,(x11_2),(by first | rfl | (simp; done) | (simp [*]; done)),H',⟨by have := HJ10.out; have := HK2.out; first | omega | exact Nat.le_refl _⟩,⟨by (try simp only [hl0_10]); (with_reducible repeat (first | apply BR_alloc | apply BR_drewN | apply BR_drew)); exact HO_0.out⟩,⟨by repeat (first | (with_reducible first | exact HK.out | apply Kept.alloc | apply Kept.drewN | apply Kept.drew) | exact HK.out)⟩,⟨by repeat (first | (with_reducible first | exact HB.out | apply below_alloc | apply pw_below_drewN | apply below_drew1) | exact HB.out)⟩⟩
       case rest =>
        clear HC26; try clear c1
        try clear p1
        try clear q1
        try clear hx1
        try clear c2
        try clear p2
        try clear c3
        try clear c5
        try clear c5b0
        try clear c6
        try clear c6b0
        try clear p6
        try clear c7
        try clear c7b0
        try clear c8
        try clear c8b0
        try clear p9
        try clear q9
        try clear hx9
        try clear hf9
        try clear p10
        try clear q10
        try clear hx10
        try clear hf10
        try clear c16
        try clear c16b0
        try clear c17
        try clear c17b0
        try clear c18
        try clear c18b0
        try clear c19
        try clear c19b0
        try clear c20
        try clear c20b0
        try clear c22
        try clear c27
        try clear c27b0
        try clear c28
        try clear c28b0
        try clear c29
        try clear c29b0
        try clear c30
        try clear c30b0
        try clear c31
        try clear c31b0
        try clear c33
        try clear hx101_0
        try clear hx102_0
        try clear hx105_0
        try clear hx106_0
        try clear hx108_0
        try clear hx109_0
        try clear hx10_0
        try clear hx9_0
        try clear p1
        try clear p10
        try clear p101
        try clear p102
        try clear p105
        try clear p106
        try clear p108
        try clear p109
        try clear p2
        try clear p6
        try clear p9
        try clear q1
        try clear q10
        try clear q101
        try clear q102
        try clear q105
        try clear q106
        try clear q108
        try clear q109
        try clear q9
        obtain ⟨kq,x11_25,rfl,HA,HJ25,HO_0,HK,HB⟩ := hcut
        cases kq with
        | zero => exact absurd HA.out (by simp [slices_partitionOrdered_byte.j3])
        | succ kj25 =>
         have H := HA.out; clear HA; simp only [slices_partitionOrdered_byte.j3] at H
         by_cases c37 : x10_10 > x11_25
         ·
          rw [if_pos c37] at H; have c37b0 : decide (x11_25 < x10_10) = true := decide_eq_true c37; clear c37
          by_cases c38 : 0 ≤ a1
          ·
           rw [if_pos c38] at H; have c38b0 : decide (0 ≤ a1) = true := decide_eq_true c38; clear c38
           by_cases c39 : a1 < (y104.length : Int)
           ·
            rw [if_pos c39] at H; have c39b0 : decide (a1 < (y104.length : Int)) = true := decide_eq_true c39
            (try (have c39b0_ := c39b0; rw [hl0_10] at c39b0_))
            clear c39
            by_cases c40 : 0 ≤ x11_25
            ·
             rw [if_pos c40] at H; have c40b0 : decide (0 ≤ x11_25) = true := decide_eq_true c40; clear c40
             by_cases c41 : x11_25 < (y104.length : Int)
             ·
              rw [if_pos c41] at H; have c41b0 : decide (x11_25 < (y104.length : Int)) = true := decide_eq_true c41
              (try (have c41b0_ := c41b0; rw [hl0_10] at c41b0_))
              clear c41; obtain ⟨y113,hy113⟩ : ∃ y_ : List Int,y_ = (y104.set (x11_25 : Int).toNat (rd y104 a1)) := ⟨_,rfl⟩; replace H : (some (x11_25,true,(y113.set (a1 : Int).toNat (rd y104 x11_25)))) = some (r1,r2,r3) := by first | (rw [hy113]; with_reducible exact H) | (have H2_ := (Option.bind_some _ _).symm.trans H; rw [hy113]; with_reducible exact H2_) | (have H2_ := (Option.bind_some _ _).symm.trans H; with_reducible exact H2_) | with_reducible exact H | (rw [hy113]; exact H) | exact H
              have Ny113 := Aside0.mk hy113; clear hy113; obtain ⟨y114,hy114⟩ : ∃ y_ : List Int,y_ = (y113.set (a1 : Int).toNat (rd y104 x11_25)) := ⟨_,rfl⟩; replace H : (some (x11_25,true,y114)) = some (r1,r2,r3) := by first | (rw [hy114]; with_reducible exact H) | (have H2_ := (Option.bind_some _ _).symm.trans H; rw [hy114]; with_reducible exact H2_) | (have H2_ := (Option.bind_some _ _).symm.trans H; with_reducible exact H2_) | with_reducible exact H | (rw [hy114]; exact H) | exact H
              have Ny114 := Aside0.mk hy114; clear hy114; simp only [Option.some.injEq,Prod.mk.injEq] at H; obtain ⟨rfl,rfl,rfl⟩ := H; try go_wp2
              have n0_ := Aside0.mk (BR_drew HO_0.out); have n1_ := Aside0.mk (Kept.drew HK.out); have n2_ := Aside0.mk (below_drew1 HB.out); clear HO_0; clear HK; clear HB; have HO_0 := n0_; have HK := n1_; have HB := n2_; clear n0_ n1_ n2_; have p111 : 0 ≤ (a1 : Int) := of_decide_eq_true (by first | (with_reducible assumption) | assumption); have q111 : a1 < (y104.length : Int) := of_decide_eq_true (by first | (with_reducible assumption) | assumption); obtain ⟨ad111,e111,hx111_0⟩ := Kd.at_int (BR_reads' HO_0.out).2.2 a1 p111 q111; obtain rfl : (⟨go9,0,none⟩ : Addr) = ad111 := (by injection e111)
              (first | simp only [add_plain] at hx111_0 | simp only [add_at] at hx111_0 | simp only [Addr.add,Nat.zero_add] at hx111_0 | skip)
              replace p111 := eq_true p111; replace q111 := eq_true q111; have p112 : 0 ≤ (x11_25 : Int) := of_decide_eq_true (by first | (with_reducible assumption) | assumption); have q112 : x11_25 < (y104.length : Int) := of_decide_eq_true (by first | (with_reducible assumption) | assumption); obtain ⟨ad112,e112,hx112_0⟩ := Kd.at_int (BR_reads' HO_0.out).2.2 x11_25 p112 q112; obtain rfl : (⟨go9,0,none⟩ : Addr) = ad112 := (by injection e112)
              (first | simp only [add_plain] at hx112_0 | simp only [add_at] at hx112_0 | simp only [Addr.add,Nat.zero_add] at hx112_0 | skip)
              replace p112 := eq_true p112; replace q112 := eq_true q112; have p42 : 0 ≤ (x11_25 : Int) := of_decide_eq_true (by first | (with_reducible assumption) | assumption); have q42 : (x11_25 : Int) < ((y104.length : Int) : Int) := of_decide_eq_true (by first | (with_reducible assumption) | assumption); obtain ⟨hx42_0,hf42_0⟩ := BR_celln 0 HO_0.out (x11_25 : Int) p42 q42; replace p42 := eq_true p42; replace q42 := eq_true q42; have HP45 := BR_putn HO_0.out (x11_25 : Int) (rd y104 a1); rw [← Ny113.out] at HP45; have HQ45 := Aside0.mk HP45; clear HP45; have p43 : 0 ≤ (a1 : Int) := of_decide_eq_true (by first | (with_reducible assumption) | assumption); have q43 : (a1 : Int) < ((y104.length : Int) : Int) := of_decide_eq_true (by first | (with_reducible assumption) | assumption); obtain ⟨hx43_0,hf43_0⟩ := BR_celln 0 HQ45.out (a1 : Int) p43 q43; replace p43 := eq_true p43; replace q43 := eq_true q43; have HP46 := BR_putn HQ45.out (a1 : Int) (rd y104 x11_25); rw [← Ny114.out] at HP46; have HQ46 := Aside0.mk HP46; clear HP46; refine start_ (n := 16) (S := fun w' => w'.cell? ⟨go9,(a1).toNat,none⟩ = some (.int .u8 (rd y104 a1)) ∧ w'.cell? ⟨go9,(x11_25).toNat,none⟩ = some (.int .u8 (rd y104 x11_25))) (ds := [13,15]) #[false,false,false,false,false,false,false,false,false,false,false,false,false,false,false,false] (by kernel_rfl) rfl rfl ⟨hx111_0,hx112_0⟩ (fun hHeld => ?_); refine with_tabW slices_partitionOrdered_byte.tab8 slices_partitionOrdered_byte.bits8 (fun HT_ HW_ => ?_)
              generalize wc.drew = w44 at HO_0 HK HB HQ45 HQ46 hf42_0 hf43_0 hx111_0 hx112_0 hx42_0 hx43_0 hHeld ⊢; refine pure_ (i := 0) (N := some 66) (v := ?_) (a' := ?_) #[true,false,false,false,false,false,false,false,false,false,false,false,false,false,false,false] rfl rfl (any_of HT_.out (by kernel_rfl)) (fun _ _ _ h => h) (Or.inl ⟨by rfl,?_⟩) ?_ ?_; rotate_left
              · intro w'; go_simp; with_reducible rfl
              rotate_left
              · simp only [Act.put,List.setIfInBounds_toArray,List.set_cons_zero,List.set_cons_succ,i64_w,i32_w]; rfl
              refine pure_ (i := 1) (N := some 67) (v := ?_) (a' := ?_) #[true,true,false,false,false,false,false,false,false,false,false,false,false,false,false,false] rfl rfl (any_of HT_.out (by kernel_rfl)) (fun _ _ _ h => h) (Or.inl ⟨by rfl,?_⟩) ?_ ?_; rotate_left
              · intro w'; go_simp; with_reducible rfl
              rotate_left
              · simp only [Act.put,List.setIfInBounds_toArray,List.set_cons_zero,List.set_cons_succ,i64_w,i32_w]; rfl
              refine pure_ (i := 2) (N := some 68) (v := ?_) (a' := ?_) #[true,true,true,false,false,false,false,false,false,false,false,false,false,false,false,false] rfl rfl (any_of HT_.out (by kernel_rfl)) (fun _ _ _ h => h) (Or.inl ⟨by rfl,?_⟩) ?_ ?_; rotate_left
              · intro w'; go_simp; with_reducible rfl
              rotate_left
              · simp only [Act.put,List.setIfInBounds_toArray,List.set_cons_zero,List.set_cons_succ,i64_w,i32_w]; rfl
              refine pure_ (i := 3) (N := some 69) (v := ?_) (a' := ?_) #[true,true,true,true,false,false,false,false,false,false,false,false,false,false,false,false] rfl rfl (any_of HT_.out (by kernel_rfl)) (fun _ _ _ h => h) (Or.inl ⟨by rfl,?_⟩) ?_ ?_; rotate_left
              · intro w'; go_simp; with_reducible rfl
              rotate_left
              · simp only [Act.put,List.setIfInBounds_toArray,List.set_cons_zero,List.set_cons_succ,i64_w,i32_w]; rfl
              refine pure_ (i := 4) (N := some 70) (v := ?_) (a' := ?_) #[true,true,true,true,true,false,false,false,false,false,false,false,false,false,false,false] rfl rfl (any_of HT_.out (by kernel_rfl)) (fun _ _ _ h => h) (Or.inl ⟨by rfl,?_⟩) ?_ ?_; rotate_left
              · intro w'; go_simp; with_reducible rfl
              rotate_left
              · simp only [Act.put,List.setIfInBounds_toArray,List.set_cons_zero,List.set_cons_succ,i64_w,i32_w]; rfl
              refine pure_ (i := 5) (N := some 71) (v := ?_) (a' := ?_) #[true,true,true,true,true,true,false,false,false,false,false,false,false,false,false,false] rfl rfl (any_of HT_.out (by kernel_rfl)) (fun _ _ _ h => h) (Or.inl ⟨by rfl,?_⟩) ?_ ?_; rotate_left
              · intro w'; go_simp; with_reducible rfl
              rotate_left
              · simp only [Act.put,List.setIfInBounds_toArray,List.set_cons_zero,List.set_cons_succ,i64_w,i32_w]; rfl
              refine pure_ (i := 6) (N := some 72) (v := ?_) (a' := ?_) #[true,true,true,true,true,true,true,false,false,false,false,false,false,false,false,false] rfl rfl (any_of HT_.out (by kernel_rfl)) (fun _ _ _ h => h) (Or.inl ⟨by rfl,?_⟩) ?_ ?_; rotate_left
              · intro w'; go_simp; with_reducible rfl
              rotate_left
              · simp only [Act.put,List.setIfInBounds_toArray,List.set_cons_zero,List.set_cons_succ,i64_w,i32_w]; rfl
              refine pure_ (i := 8) (N := some 74) (v := ?_) (a' := ?_) #[true,true,true,true,true,true,true,false,true,false,false,false,false,false,false,false] rfl rfl (any_of HT_.out (by kernel_rfl)) (fun _ _ _ h => h) (Or.inl ⟨by rfl,?_⟩) ?_ ?_; rotate_left
              · intro w'; go_simp; with_reducible rfl
              rotate_left
              · simp only [Act.put,List.setIfInBounds_toArray,List.set_cons_zero,List.set_cons_succ,i64_w,i32_w]; rfl
              refine pure_ (i := 9) (N := some 75) (v := ?_) (a' := ?_) #[true,true,true,true,true,true,true,false,true,true,false,false,false,false,false,false] rfl rfl (any_of HT_.out (by kernel_rfl)) (fun _ _ _ h => h) (Or.inl ⟨by rfl,?_⟩) ?_ ?_; rotate_left
              · intro w'; go_simp; with_reducible rfl
              rotate_left
              · simp only [Act.put,List.setIfInBounds_toArray,List.set_cons_zero,List.set_cons_succ,i64_w,i32_w]; rfl
              refine pure_ (i := 10) (N := some 76) (v := ?_) (a' := ?_) #[true,true,true,true,true,true,true,false,true,true,true,false,false,false,false,false] rfl rfl (any_of HT_.out (by kernel_rfl)) (fun _ _ _ h => h) (Or.inl ⟨by rfl,?_⟩) ?_ ?_; rotate_left
              · intro w'; go_simp; with_reducible rfl
              rotate_left
              · simp only [Act.put,List.setIfInBounds_toArray,List.set_cons_zero,List.set_cons_succ,i64_w,i32_w]; rfl
              refine take_ (i := 7) (N := some 73) (v := ?_) (a' := ?_) #[true,true,true,true,true,true,true,true,true,true,true,false,false,false,false,false] rfl rfl (take_ofW HT_.out HW_.out (by kernel_rfl)) (fun _ _ _ h => h) (Or.inl ⟨by rfl,?_⟩) hHeld ?_ ?_; rotate_left
              · rintro w' ⟨s0,s1⟩; go_simp; with_reducible rfl
              rotate_left
              · simp only [Act.put,List.setIfInBounds_toArray,List.set_cons_zero,List.set_cons_succ,i64_w,i32_w]; rfl
              refine take_ (i := 11) (N := some 77) (v := ?_) (a' := ?_) #[true,true,true,true,true,true,true,true,true,true,true,true,false,false,false,false] rfl rfl (take_ofW HT_.out HW_.out (by kernel_rfl)) (fun _ _ _ h => h) (Or.inl ⟨by rfl,?_⟩) hHeld ?_ ?_; rotate_left
              · rintro w' ⟨s0,s1⟩; go_simp; with_reducible rfl
              rotate_left
              · simp only [Act.put,List.setIfInBounds_toArray,List.set_cons_zero,List.set_cons_succ,i64_w,i32_w]; rfl
              refine pure_ (i := 12) (N := some 78) (v := ?_) (a' := ?_) #[true,true,true,true,true,true,true,true,true,true,true,true,true,false,false,false] rfl rfl (any_of HT_.out (by kernel_rfl)) (fun _ _ _ h => h) (Or.inl ⟨by rfl,?_⟩) ?_ ?_; rotate_left
              · intro w'; go_simp; with_reducible rfl
              rotate_left
              · simp only [Act.put,List.setIfInBounds_toArray,List.set_cons_zero,List.set_cons_succ,i64_w,i32_w]; rfl
              refine last_ (i := 13) (N := none) #[true,true,true,true,true,true,true,true,true,true,true,true,true,true,false,false] rfl rfl (one_of HT_.out (by kernel_rfl)) (by decide) (fun K hK => ?_); refine skip_ (w1 := ?_) (by rfl) rfl ?_ ?_; rotate_left
              · go_simp; rfl
              refine hK.out _ _ ?_; clear hK K; refine pure_ (i := 14) (N := some 79) (v := ?_) (a' := ?_) #[true,true,true,true,true,true,true,true,true,true,true,true,true,true,true,false] rfl rfl (any_of HT_.out (by kernel_rfl)) (fun _ _ _ h => h) (Or.inl ⟨by rfl,?_⟩) ?_ ?_; rotate_left
              · intro w'; go_simp; with_reducible rfl
              rotate_left
              · simp only [Act.put,List.setIfInBounds_toArray,List.set_cons_zero,List.set_cons_succ,i64_w,i32_w]; rfl
              refine last_ (i := 15) (N := none) #[true,true,true,true,true,true,true,true,true,true,true,true,true,true,true,true] rfl rfl (one_of HT_.out (by kernel_rfl)) (by decide) (fun K hK => ?_); refine skip_ (w1 := ?_) (by rfl) rfl ?_ ?_; rotate_left
              · go_simp; rfl
              refine hK.out _ _ ?_; clear hK K; refine done_ (done_of HT_.out (by kernel_rfl)) ?_; try go_wp2
              go_ret2
              exact ⟨by first | rfl | (simp [errW_none,errW_some] <;> rfl) | (simp [*,errW_none,errW_some] <;> rfl),(by first | exact (by (with_reducible repeat (first | apply BR_alloc | apply BR_drewN | apply BR_drew)); exact HQ46.out) | (simp only [hl0_10]; exact (by (with_reducible repeat (first | apply BR_alloc | apply BR_drewN | apply BR_drew)); exact HQ46.out))),by repeat (first | (with_reducible first | exact HB.out | apply below_alloc | apply pw_below_drewN | apply below_drew1 | refine below_set ?_ GB9.out | refine below_set ?_ GB9.out) | exact HB.out),by repeat (first | (with_reducible first | exact HK.out | apply Kept.alloc | apply Kept.drewN | apply Kept.drew | refine Kept.setCell ?_ HMgo9.out _ | refine Kept.setCell ?_ HMgo9.out _) | exact HK.out)⟩
             · rw [if_neg c41] at H; exact absurd H (by simp)
            · rw [if_neg c40] at H; exact absurd H (by simp)
           · rw [if_neg c39] at H; exact absurd H (by simp)
          · rw [if_neg c38] at H; exact absurd H (by simp)
         ·
          rw [if_neg c37] at H; have c37b0 : decide (x11_25 < x10_10) = false := decide_eq_false c37; clear c37
          by_cases c47 : 0 ≤ x11_25
          ·
           rw [if_pos c47] at H; have c47b0 : decide (0 ≤ x11_25) = true := decide_eq_true c47; clear c47
           by_cases c48 : x11_25 < (y104.length : Int)
           ·
            rw [if_pos c48] at H; have c48b0 : decide (x11_25 < (y104.length : Int)) = true := decide_eq_true c48
            (try (have c48b0_ := c48b0; rw [hl0_10] at c48b0_))
            clear c48
            by_cases c49 : 0 ≤ x10_10
            ·
             rw [if_pos c49] at H; have c49b0 : decide (0 ≤ x10_10) = true := decide_eq_true c49; clear c49
             by_cases c50 : x10_10 < (y104.length : Int)
             ·
              rw [if_pos c50] at H; have c50b0 : decide (x10_10 < (y104.length : Int)) = true := decide_eq_true c50
              (try (have c50b0_ := c50b0; rw [hl0_10] at c50b0_))
              clear c50; obtain ⟨y117,hy117⟩ : ∃ y_ : List Int,y_ = (y104.set (x10_10 : Int).toNat (rd y104 x11_25)) := ⟨_,rfl⟩; replace H : (slices_partitionOrdered_byte.l2 kj25 (y117.set (x11_25 : Int).toNat (rd y104 x10_10)) a1 (wrap64 (x10_10 + 1)) (wrap64 (x11_25 - 1))) = some (r1,r2,r3) := by first | (rw [hy117]; with_reducible exact H) | (have H2_ := (Option.bind_some _ _).symm.trans H; rw [hy117]; with_reducible exact H2_) | (have H2_ := (Option.bind_some _ _).symm.trans H; with_reducible exact H2_) | with_reducible exact H | (rw [hy117]; exact H) | exact H
              have Ny117 := Aside0.mk hy117; clear hy117; obtain ⟨y118,hy118⟩ : ∃ y_ : List Int,y_ = (y117.set (x11_25 : Int).toNat (rd y104 x10_10)) := ⟨_,rfl⟩; replace H : (slices_partitionOrdered_byte.l2 kj25 y118 a1 (wrap64 (x10_10 + 1)) (wrap64 (x11_25 - 1))) = some (r1,r2,r3) := by first | (rw [hy118]; with_reducible exact H) | (have H2_ := (Option.bind_some _ _).symm.trans H; rw [hy118]; with_reducible exact H2_) | (have H2_ := (Option.bind_some _ _).symm.trans H; with_reducible exact H2_) | with_reducible exact H | (rw [hy118]; exact H) | exact H
              have Ny118 := Aside0.mk hy118; clear hy118; have H' := Aside0.mk H; clear H; try go_wp2
              have n0_ := Aside0.mk (BR_drew HO_0.out); have n1_ := Aside0.mk (Kept.drew HK.out); have n2_ := Aside0.mk (below_drew1 HB.out); clear HO_0; clear HK; clear HB; have HO_0 := n0_; have HK := n1_; have HB := n2_; clear n0_ n1_ n2_; have p115 : 0 ≤ (x11_25 : Int) := of_decide_eq_true (by first | (with_reducible assumption) | assumption); have q115 : x11_25 < (y104.length : Int) := of_decide_eq_true (by first | (with_reducible assumption) | assumption); obtain ⟨ad115,e115,hx115_0⟩ := Kd.at_int (BR_reads' HO_0.out).2.2 x11_25 p115 q115; obtain rfl : (⟨go9,0,none⟩ : Addr) = ad115 := (by injection e115)
              (first | simp only [add_plain] at hx115_0 | simp only [add_at] at hx115_0 | simp only [Addr.add,Nat.zero_add] at hx115_0 | skip)
              replace p115 := eq_true p115; replace q115 := eq_true q115; have p116 : 0 ≤ (x10_10 : Int) := of_decide_eq_true (by first | (with_reducible assumption) | assumption); have q116 : x10_10 < (y104.length : Int) := of_decide_eq_true (by first | (with_reducible assumption) | assumption); obtain ⟨ad116,e116,hx116_0⟩ := Kd.at_int (BR_reads' HO_0.out).2.2 x10_10 p116 q116; obtain rfl : (⟨go9,0,none⟩ : Addr) = ad116 := (by injection e116)
              (first | simp only [add_plain] at hx116_0 | simp only [add_at] at hx116_0 | simp only [Addr.add,Nat.zero_add] at hx116_0 | skip)
              replace p116 := eq_true p116; replace q116 := eq_true q116; have p51 : 0 ≤ (x10_10 : Int) := of_decide_eq_true (by first | (with_reducible assumption) | assumption); have q51 : (x10_10 : Int) < ((y104.length : Int) : Int) := of_decide_eq_true (by first | (with_reducible assumption) | assumption); obtain ⟨hx51_0,hf51_0⟩ := BR_celln 0 HO_0.out (x10_10 : Int) p51 q51; replace p51 := eq_true p51; replace q51 := eq_true q51; have HP54 := BR_putn HO_0.out (x10_10 : Int) (rd y104 x11_25); rw [← Ny117.out] at HP54; have HQ54 := Aside0.mk HP54; clear HP54; have p52 : 0 ≤ (x11_25 : Int) := of_decide_eq_true (by first | (with_reducible assumption) | assumption); have q52 : (x11_25 : Int) < ((y104.length : Int) : Int) := of_decide_eq_true (by first | (with_reducible assumption) | assumption); obtain ⟨hx52_0,hf52_0⟩ := BR_celln 0 HQ54.out (x11_25 : Int) p52 q52; replace p52 := eq_true p52; replace q52 := eq_true q52; have HP55 := BR_putn HQ54.out (x11_25 : Int) (rd y104 x10_10); rw [← Ny118.out] at HP55; have HQ55 := Aside0.mk HP55; clear HP55; refine start_ (n := 16) (S := fun w' => w'.cell? ⟨go9,(x11_25).toNat,none⟩ = some (.int .u8 (rd y104 x11_25)) ∧ w'.cell? ⟨go9,(x10_10).toNat,none⟩ = some (.int .u8 (rd y104 x10_10))) (ds := [13,15]) #[false,false,false,false,false,false,false,false,false,false,false,false,false,false,false,false] (by kernel_rfl) rfl rfl ⟨hx115_0,hx116_0⟩ (fun hHeld => ?_); refine with_tabW slices_partitionOrdered_byte.tab10 slices_partitionOrdered_byte.bits10 (fun HT_ HW_ => ?_)
              generalize wc.drew = w53 at HO_0 HK HB HQ54 HQ55 hf51_0 hf52_0 hx115_0 hx116_0 hx51_0 hx52_0 hHeld ⊢; refine pure_ (i := 0) (N := some 81) (v := ?_) (a' := ?_) #[true,false,false,false,false,false,false,false,false,false,false,false,false,false,false,false] rfl rfl (any_of HT_.out (by kernel_rfl)) (fun _ _ _ h => h) (Or.inl ⟨by rfl,?_⟩) ?_ ?_; rotate_left
              · intro w'; go_simp; with_reducible rfl
              rotate_left
              · simp only [Act.put,List.setIfInBounds_toArray,List.set_cons_zero,List.set_cons_succ,i64_w,i32_w]; rfl
              refine pure_ (i := 1) (N := some 82) (v := ?_) (a' := ?_) #[true,true,false,false,false,false,false,false,false,false,false,false,false,false,false,false] rfl rfl (any_of HT_.out (by kernel_rfl)) (fun _ _ _ h => h) (Or.inl ⟨by rfl,?_⟩) ?_ ?_; rotate_left
              · intro w'; go_simp; with_reducible rfl
              rotate_left
              · simp only [Act.put,List.setIfInBounds_toArray,List.set_cons_zero,List.set_cons_succ,i64_w,i32_w]; rfl
              refine pure_ (i := 2) (N := some 83) (v := ?_) (a' := ?_) #[true,true,true,false,false,false,false,false,false,false,false,false,false,false,false,false] rfl rfl (any_of HT_.out (by kernel_rfl)) (fun _ _ _ h => h) (Or.inl ⟨by rfl,?_⟩) ?_ ?_; rotate_left
              · intro w'; go_simp; with_reducible rfl
              rotate_left
              · simp only [Act.put,List.setIfInBounds_toArray,List.set_cons_zero,List.set_cons_succ,i64_w,i32_w]; rfl
              refine pure_ (i := 3) (N := some 84) (v := ?_) (a' := ?_) #[true,true,true,true,false,false,false,false,false,false,false,false,false,false,false,false] rfl rfl (any_of HT_.out (by kernel_rfl)) (fun _ _ _ h => h) (Or.inl ⟨by rfl,?_⟩) ?_ ?_; rotate_left
              · intro w'; go_simp; with_reducible rfl
              rotate_left
              · simp only [Act.put,List.setIfInBounds_toArray,List.set_cons_zero,List.set_cons_succ,i64_w,i32_w]; rfl
              refine pure_ (i := 4) (N := some 85) (v := ?_) (a' := ?_) #[true,true,true,true,true,false,false,false,false,false,false,false,false,false,false,false] rfl rfl (any_of HT_.out (by kernel_rfl)) (fun _ _ _ h => h) (Or.inl ⟨by rfl,?_⟩) ?_ ?_; rotate_left
              · intro w'; go_simp; with_reducible rfl
              rotate_left
              · simp only [Act.put,List.setIfInBounds_toArray,List.set_cons_zero,List.set_cons_succ,i64_w,i32_w]; rfl
              refine pure_ (i := 5) (N := some 86) (v := ?_) (a' := ?_) #[true,true,true,true,true,true,false,false,false,false,false,false,false,false,false,false] rfl rfl (any_of HT_.out (by kernel_rfl)) (fun _ _ _ h => h) (Or.inl ⟨by rfl,?_⟩) ?_ ?_; rotate_left
              · intro w'; go_simp; with_reducible rfl
              rotate_left
              · simp only [Act.put,List.setIfInBounds_toArray,List.set_cons_zero,List.set_cons_succ,i64_w,i32_w]; rfl
              refine pure_ (i := 6) (N := some 87) (v := ?_) (a' := ?_) #[true,true,true,true,true,true,true,false,false,false,false,false,false,false,false,false] rfl rfl (any_of HT_.out (by kernel_rfl)) (fun _ _ _ h => h) (Or.inl ⟨by rfl,?_⟩) ?_ ?_; rotate_left
              · intro w'; go_simp; with_reducible rfl
              rotate_left
              · simp only [Act.put,List.setIfInBounds_toArray,List.set_cons_zero,List.set_cons_succ,i64_w,i32_w]; rfl
              refine pure_ (i := 8) (N := some 89) (v := ?_) (a' := ?_) #[true,true,true,true,true,true,true,false,true,false,false,false,false,false,false,false] rfl rfl (any_of HT_.out (by kernel_rfl)) (fun _ _ _ h => h) (Or.inl ⟨by rfl,?_⟩) ?_ ?_; rotate_left
              · intro w'; go_simp; with_reducible rfl
              rotate_left
              · simp only [Act.put,List.setIfInBounds_toArray,List.set_cons_zero,List.set_cons_succ,i64_w,i32_w]; rfl
              refine pure_ (i := 9) (N := some 90) (v := ?_) (a' := ?_) #[true,true,true,true,true,true,true,false,true,true,false,false,false,false,false,false] rfl rfl (any_of HT_.out (by kernel_rfl)) (fun _ _ _ h => h) (Or.inl ⟨by rfl,?_⟩) ?_ ?_; rotate_left
              · intro w'; go_simp; with_reducible rfl
              rotate_left
              · simp only [Act.put,List.setIfInBounds_toArray,List.set_cons_zero,List.set_cons_succ,i64_w,i32_w]; rfl
              refine pure_ (i := 10) (N := some 91) (v := ?_) (a' := ?_) #[true,true,true,true,true,true,true,false,true,true,true,false,false,false,false,false] rfl rfl (any_of HT_.out (by kernel_rfl)) (fun _ _ _ h => h) (Or.inl ⟨by rfl,?_⟩) ?_ ?_; rotate_left
              · intro w'; go_simp; with_reducible rfl
              rotate_left
              · simp only [Act.put,List.setIfInBounds_toArray,List.set_cons_zero,List.set_cons_succ,i64_w,i32_w]; rfl
              refine take_ (i := 7) (N := some 88) (v := ?_) (a' := ?_) #[true,true,true,true,true,true,true,true,true,true,true,false,false,false,false,false] rfl rfl (take_ofW HT_.out HW_.out (by kernel_rfl)) (fun _ _ _ h => h) (Or.inl ⟨by rfl,?_⟩) hHeld ?_ ?_; rotate_left
              · rintro w' ⟨s0,s1⟩; go_simp; with_reducible rfl
              rotate_left
              · simp only [Act.put,List.setIfInBounds_toArray,List.set_cons_zero,List.set_cons_succ,i64_w,i32_w]; rfl
              refine take_ (i := 11) (N := some 92) (v := ?_) (a' := ?_) #[true,true,true,true,true,true,true,true,true,true,true,true,false,false,false,false] rfl rfl (take_ofW HT_.out HW_.out (by kernel_rfl)) (fun _ _ _ h => h) (Or.inl ⟨by rfl,?_⟩) hHeld ?_ ?_; rotate_left
              · rintro w' ⟨s0,s1⟩; go_simp; with_reducible rfl
              rotate_left
              · simp only [Act.put,List.setIfInBounds_toArray,List.set_cons_zero,List.set_cons_succ,i64_w,i32_w]; rfl
              refine pure_ (i := 12) (N := some 93) (v := ?_) (a' := ?_) #[true,true,true,true,true,true,true,true,true,true,true,true,true,false,false,false] rfl rfl (any_of HT_.out (by kernel_rfl)) (fun _ _ _ h => h) (Or.inl ⟨by rfl,?_⟩) ?_ ?_; rotate_left
              · intro w'; go_simp; with_reducible rfl
              rotate_left
              · simp only [Act.put,List.setIfInBounds_toArray,List.set_cons_zero,List.set_cons_succ,i64_w,i32_w]; rfl
              refine last_ (i := 13) (N := none) #[true,true,true,true,true,true,true,true,true,true,true,true,true,true,false,false] rfl rfl (one_of HT_.out (by kernel_rfl)) (by decide) (fun K hK => ?_); refine skip_ (w1 := ?_) (by rfl) rfl ?_ ?_; rotate_left
              · go_simp; rfl
              refine hK.out _ _ ?_; clear hK K; refine pure_ (i := 14) (N := some 94) (v := ?_) (a' := ?_) #[true,true,true,true,true,true,true,true,true,true,true,true,true,true,true,false] rfl rfl (any_of HT_.out (by kernel_rfl)) (fun _ _ _ h => h) (Or.inl ⟨by rfl,?_⟩) ?_ ?_; rotate_left
              · intro w'; go_simp; with_reducible rfl
              rotate_left
              · simp only [Act.put,List.setIfInBounds_toArray,List.set_cons_zero,List.set_cons_succ,i64_w,i32_w]; rfl
              refine last_ (i := 15) (N := none) #[true,true,true,true,true,true,true,true,true,true,true,true,true,true,true,true] rfl rfl (one_of HT_.out (by kernel_rfl)) (by decide) (fun K hK => ?_); refine skip_ (w1 := ?_) (by rfl) rfl ?_ ?_; rotate_left
              · go_simp; rfl
              refine hK.out _ _ ?_; clear hK K; refine done_ (done_of HT_.out (by kernel_rfl)) ?_; try go_wp2
              go_loopg [10,11] kj25 (fun kq v10 v11 w' => ∃ (x0_3 : List Int) (x10_3 : Int) (x11_3 : Int),v10 = .int .i64 x10_3 ∧ v11 = .int .i64 x11_3 ∧ Aside0 (slices_partitionOrdered_byte.l2 kq x0_3 a1 x10_3 x11_3 = some (r1,r2,r3)) ∧ Aside0 (kq ≤ kj25) ∧ Aside0 (BR w' w0.heap.size (fun k_ => (P0_ k_ ∨ w.heap.size ≤ k_)) (.slice (some ⟨go9,0,none⟩) y104.length co13) x0_3) ∧ Aside0 (Kept w w' (fun k_ => P0_ k_)) ∧ Aside0 (Below w0.heap.size w0 w'))
              case atStart => exact ⟨(y118),(wrap64 (x10_10 + 1)),(wrap64 (x11_25 - 1)),(by first | rfl | (simp; done) | (simp [*]; done)),(by first | rfl | (simp; done) | (simp [*]; done)),H',⟨Nat.le_refl _⟩,⟨by (try simp only [hl0_10]); (with_reducible repeat (first | apply BR_alloc | apply BR_drewN | apply BR_drew)); exact HQ55.out⟩,⟨by repeat (first | (with_reducible first | exact HK.out | apply Kept.alloc | apply Kept.drewN | apply Kept.drew | refine Kept.setCell ?_ HMgo9.out _ | refine Kept.setCell ?_ HMgo9.out _) | exact HK.out)⟩,⟨by repeat (first | (with_reducible first | exact HB.out | apply below_alloc | apply pw_below_drewN | apply below_drew1 | refine below_set ?_ GB9.out | refine below_set ?_ GB9.out) | exact HB.out)⟩⟩
              case round =>
               clear H'; try clear c1
               try clear p1
               try clear q1
               try clear hx1
               try clear c2
               try clear p2
               try clear c3
               try clear c4
               try clear p4
               try clear q4
               try clear hx4
               try clear hf4
               try clear c5
               try clear c5b0
               try clear p5
               try clear q5
               try clear hx5
               try clear hf5
               try clear c6
               try clear c6b0
               try clear p6
               try clear c7
               try clear c7b0
               try clear c8
               try clear c8b0
               try clear p9
               try clear q9
               try clear hx9
               try clear hf9
               try clear p10
               try clear q10
               try clear hx10
               try clear hf10
               try clear p11
               try clear q11
               try clear hx11
               try clear c16
               try clear c16b0
               try clear c17
               try clear c17b0
               try clear c18
               try clear c18b0
               try clear c19
               try clear c19b0
               try clear c20
               try clear c20b0
               try clear c22
               try clear c27
               try clear c27b0
               try clear c28
               try clear c28b0
               try clear c29
               try clear c29b0
               try clear c30
               try clear c30b0
               try clear c31
               try clear c31b0
               try clear c33
               try clear c37
               try clear c37b0
               try clear c38
               try clear c38b0
               try clear c39
               try clear c39b0
               try clear c40
               try clear c40b0
               try clear c41
               try clear c41b0
               try clear p42
               try clear q42
               try clear hx42
               try clear hf42
               try clear p43
               try clear q43
               try clear hx43
               try clear hf43
               try clear c47
               try clear c47b0
               try clear c48
               try clear c48b0
               try clear c49
               try clear c49b0
               try clear c50
               try clear c50b0
               try clear p51
               try clear q51
               try clear hx51
               try clear hf51
               try clear p52
               try clear q52
               try clear hx52
               try clear hf52
               try clear hx101_0
               try clear hx102_0
               try clear hx105_0
               try clear hx106_0
               try clear hx108_0
               try clear hx109_0
               try clear hx10_0
               try clear hx111_0
               try clear hx112_0
               try clear hx115_0
               try clear hx116_0
               try clear hx42_0
               try clear hx43_0
               try clear hx51_0
               try clear hx52_0
               try clear hx9_0
               try clear p1
               try clear p10
               try clear p101
               try clear p102
               try clear p105
               try clear p106
               try clear p108
               try clear p109
               try clear p111
               try clear p112
               try clear p115
               try clear p116
               try clear p2
               try clear p42
               try clear p43
               try clear p51
               try clear p52
               try clear p6
               try clear p9
               try clear q1
               try clear q10
               try clear q101
               try clear q102
               try clear q105
               try clear q106
               try clear q108
               try clear q109
               try clear q111
               try clear q112
               try clear q115
               try clear q116
               try clear q42
               try clear q43
               try clear q51
               try clear q52
               try clear q9
               obtain ⟨x0_3,x10_3,x11_3,rfl,rfl,HA,HK3,HO_0,HK,HB⟩ := hrel; have hl0_3 := (BR_reads' HO_0.out).1; rw [hl0_3] at HO_0
               (try simp only [hl0_3])
               cases gk with
               | zero => exact absurd HA.out (by simp [slices_partitionOrdered_byte.l2])
               | succ k3 =>
                have H := HA.out; clear HA; simp only [slices_partitionOrdered_byte.l2] at H; have HC56 := Aside0.mk H; clear H
                go_upto_block 6 with (fail)
                go_cut [10] (fun v10 wc => ∃ (kq : Nat) (x10_55 : Int),v10 = .int .i64 x10_55 ∧ Aside0 (slices_partitionOrdered_byte.j6 kq x0_3 a1 x10_55 x11_3 = some (r1,r2,r3)) ∧ Aside0 (kq ≤ k3) ∧ Aside0 (BR wc w0.heap.size (fun k_ => (P0_ k_ ∨ w.heap.size ≤ k_)) (.slice (some ⟨go9,0,none⟩) x0_3.length co13) x0_3) ∧ Aside0 (Kept w wc (fun k_ => P0_ k_)) ∧ Aside0 (Below w0.heap.size w0 wc))
                case first =>
                 have H := HC56.out; clear HC56; have H' := Aside0.mk H; clear H; go_wp2
                 go_loopg [10] k3 (fun kq v10 w' => ∃ (x10_4 : Int),v10 = .int .i64 x10_4 ∧ Aside0 (slices_partitionOrdered_byte.l3 kq x0_3 a1 x10_4 x11_3 = some (r1,r2,r3)) ∧ Aside0 (kq ≤ k3) ∧ Aside0 (BR w' w0.heap.size (fun k_ => (P0_ k_ ∨ w.heap.size ≤ k_)) (.slice (some ⟨go9,0,none⟩) x0_3.length co13) x0_3) ∧ Aside0 (Kept w w' (fun k_ => P0_ k_)) ∧ Aside0 (Below w0.heap.size w0 w'))
                 case atStart => exact ⟨(x10_3),(by first | rfl | (simp; done) | (simp [*]; done)),H',⟨Nat.le_refl _⟩,⟨by (try simp only [hl0_10]); (try simp only [hl0_3]); (with_reducible repeat (first | apply BR_alloc | apply BR_drewN | apply BR_drew)); exact HO_0.out⟩,⟨by repeat (first | (with_reducible first | exact HK.out | apply Kept.alloc | apply Kept.drewN | apply Kept.drew) | exact HK.out)⟩,⟨by repeat (first | (with_reducible first | exact HB.out | apply below_alloc | apply pw_below_drewN | apply below_drew1) | exact HB.out)⟩⟩
                 case round =>
                  clear H'; try clear c1
                  try clear p1
                  try clear q1
                  try clear hx1
                  try clear c2
                  try clear p2
                  try clear c3
                  try clear c4
                  try clear p4
                  try clear q4
                  try clear hx4
                  try clear hf4
                  try clear c5
                  try clear c5b0
                  try clear p5
                  try clear q5
                  try clear hx5
                  try clear hf5
                  try clear c6
                  try clear c6b0
                  try clear p6
                  try clear c7
                  try clear c7b0
                  try clear c8
                  try clear c8b0
                  try clear p9
                  try clear q9
                  try clear hx9
                  try clear hf9
                  try clear p10
                  try clear q10
                  try clear hx10
                  try clear hf10
                  try clear p11
                  try clear q11
                  try clear hx11
                  try clear c16
                  try clear c16b0
                  try clear c17
                  try clear c17b0
                  try clear c18
                  try clear c18b0
                  try clear c19
                  try clear c19b0
                  try clear c20
                  try clear c20b0
                  try clear c22
                  try clear c27
                  try clear c27b0
                  try clear c28
                  try clear c28b0
                  try clear c29
                  try clear c29b0
                  try clear c30
                  try clear c30b0
                  try clear c31
                  try clear c31b0
                  try clear c33
                  try clear c37
                  try clear c37b0
                  try clear c38
                  try clear c38b0
                  try clear c39
                  try clear c39b0
                  try clear c40
                  try clear c40b0
                  try clear c41
                  try clear c41b0
                  try clear p42
                  try clear q42
                  try clear hx42
                  try clear hf42
                  try clear p43
                  try clear q43
                  try clear hx43
                  try clear hf43
                  try clear c47
                  try clear c47b0
                  try clear c48
                  try clear c48b0
                  try clear c49
                  try clear c49b0
                  try clear c50
                  try clear c50b0
                  try clear p51
                  try clear q51
                  try clear hx51
                  try clear hf51
                  try clear p52
                  try clear q52
                  try clear hx52
                  try clear hf52
                  try clear hx101_0
                  try clear hx102_0
                  try clear hx105_0
                  try clear hx106_0
                  try clear hx108_0
                  try clear hx109_0
                  try clear hx10_0
                  try clear hx111_0
                  try clear hx112_0
                  try clear hx115_0
                  try clear hx116_0
                  try clear hx42_0
                  try clear hx43_0
                  try clear hx51_0
                  try clear hx52_0
                  try clear hx9_0
                  try clear p1
                  try clear p10
                  try clear p101
                  try clear p102
                  try clear p105
                  try clear p106
                  try clear p108
                  try clear p109
                  try clear p11
                  try clear p111
                  try clear p112
                  try clear p115
                  try clear p116
                  try clear p2
                  try clear p4
                  try clear p42
                  try clear p43
                  try clear p5
                  try clear p51
                  try clear p52
                  try clear p6
                  try clear p9
                  try clear q1
                  try clear q10
                  try clear q101
                  try clear q102
                  try clear q105
                  try clear q106
                  try clear q108
                  try clear q109
                  try clear q11
                  try clear q111
                  try clear q112
                  try clear q115
                  try clear q116
                  try clear q4
                  try clear q42
                  try clear q43
                  try clear q5
                  try clear q51
                  try clear q52
                  try clear q9
                  obtain ⟨x10_4,rfl,HA,HK4,HO_0,HK,HB⟩ := hrel
                  cases gk with
                  | zero => exact absurd HA.out (by simp [slices_partitionOrdered_byte.l3])
                  | succ k4 =>
                   have H := HA.out; clear HA; simp only [slices_partitionOrdered_byte.l3] at H
                   by_cases c57 : x10_4 ≤ x11_3
                   ·
                    rw [if_pos c57] at H; have c57b0 : decide (x10_4 ≤ x11_3) = true := decide_eq_true c57; clear c57
                    (first | rw [c57b0] | (simp only [i64_w,i32_w]; rw [c57b0]) | skip)
                    by_cases c58 : 0 ≤ x10_4
                    ·
                     rw [if_pos c58] at H; have c58b0 : decide (0 ≤ x10_4) = true := decide_eq_true c58; clear c58
                     by_cases c59 : x10_4 < (x0_3.length : Int)
                     ·
                      rw [if_pos c59] at H; have c59b0 : decide (x10_4 < (x0_3.length : Int)) = true := decide_eq_true c59
                      (try (have c59b0_ := c59b0; rw [hl0_10] at c59b0_))
                      (try (have c59b0_ := c59b0; rw [hl0_3] at c59b0_))
                      clear c59
                      by_cases c60 : 0 ≤ a1
                      ·
                       rw [if_pos c60] at H; have c60b0 : decide (0 ≤ a1) = true := decide_eq_true c60; clear c60
                       by_cases c61 : a1 < (x0_3.length : Int)
                       ·
                        rw [if_pos c61] at H; have c61b0 : decide (a1 < (x0_3.length : Int)) = true := decide_eq_true c61
                        (try (have c61b0_ := c61b0; rw [hl0_10] at c61b0_))
                        (try (have c61b0_ := c61b0; rw [hl0_3] at c61b0_))
                        clear c61; replace H := Option.bind_eq_some_iff.mp H; obtain ⟨t121,A620,H⟩ := H; replace H : (if t121 = true then (slices_partitionOrdered_byte.l3 k4 x0_3 a1 (wrap64 (x10_4 + 1)) x11_3) else (slices_partitionOrdered_byte.j6 k4 x0_3 a1 x10_4 x11_3)) = some (r1,r2,r3) := H; have A62 := Aside0.mk A620; clear A620
                        by_cases c63 : t121 = true
                        ·
                         subst c63; have H1 : (slices_partitionOrdered_byte.l3 k4 x0_3 a1 (wrap64 (x10_4 + 1)) x11_3) = some (r1,r2,r3) := by rw [if_pos rfl] at H; exact H
                         clear H; have H := H1; clear H1; have H' := Aside0.mk H; clear H; try go_wp2
                         have n0_ := Aside0.mk (BR_drew HO_0.out); have n1_ := Aside0.mk (Kept.drew HK.out); have n2_ := Aside0.mk (below_drew1 HB.out); clear HO_0; clear HK; clear HB; have HO_0 := n0_; have HK := n1_; have HB := n2_; clear n0_ n1_ n2_; have p119 : 0 ≤ (x10_4 : Int) := of_decide_eq_true (by first | (with_reducible assumption) | assumption); have q119 : x10_4 < (x0_3.length : Int) := of_decide_eq_true (by first | (with_reducible assumption) | assumption); obtain ⟨ad119,e119,hx119_0⟩ := Kd.at_int (BR_reads' HO_0.out).2.2 x10_4 p119 q119; obtain rfl : (⟨go9,0,none⟩ : Addr) = ad119 := (by injection e119)
                         (first | simp only [add_plain] at hx119_0 | simp only [add_at] at hx119_0 | simp only [Addr.add,Nat.zero_add] at hx119_0 | skip)
                         replace p119 := eq_true p119; replace q119 := eq_true q119; have p120 : 0 ≤ (a1 : Int) := of_decide_eq_true (by first | (with_reducible assumption) | assumption); have q120 : a1 < (x0_3.length : Int) := of_decide_eq_true (by first | (with_reducible assumption) | assumption); obtain ⟨ad120,e120,hx120_0⟩ := Kd.at_int (BR_reads' HO_0.out).2.2 a1 p120 q120; obtain rfl : (⟨go9,0,none⟩ : Addr) = ad120 := (by injection e120)
                         (first | simp only [add_plain] at hx120_0 | simp only [add_at] at hx120_0 | simp only [Addr.add,Nat.zero_add] at hx120_0 | skip)
                         replace p120 := eq_true p120; replace q120 := eq_true q120; refine start_ (n := 14) (S := fun w' => w'.cell? ⟨go9,(x10_4).toNat,none⟩ = some (.int .u8 (rd x0_3 x10_4)) ∧ w'.cell? ⟨go9,(a1).toNat,none⟩ = some (.int .u8 (rd x0_3 a1))) (ds := []) #[false,false,false,false,false,false,false,false,false,false,false,false,false,false] (by kernel_rfl) rfl rfl ⟨hx119_0,hx120_0⟩ (fun hHeld => ?_); refine with_tabW slices_partitionOrdered_byte.tab13 slices_partitionOrdered_byte.bits13 (fun HT_ HW_ => ?_)
                         generalize wr.drew = w64 at HO_0 HK HB hx119_0 hx120_0 hHeld ⊢; refine pure_ (i := 0) (N := some 99) (v := ?_) (a' := ?_) #[true,false,false,false,false,false,false,false,false,false,false,false,false,false] rfl rfl (any_of HT_.out (by kernel_rfl)) (fun _ _ _ h => h) (Or.inl ⟨by rfl,?_⟩) ?_ ?_; rotate_left
                         · intro w'; go_simp; with_reducible rfl
                         rotate_left
                         · simp only [Act.put,List.setIfInBounds_toArray,List.set_cons_zero,List.set_cons_succ,i64_w,i32_w]; rfl
                         refine pure_ (i := 1) (N := some 100) (v := ?_) (a' := ?_) #[true,true,false,false,false,false,false,false,false,false,false,false,false,false] rfl rfl (any_of HT_.out (by kernel_rfl)) (fun _ _ _ h => h) (Or.inl ⟨by rfl,?_⟩) ?_ ?_; rotate_left
                         · intro w'; go_simp; with_reducible rfl
                         rotate_left
                         · simp only [Act.put,List.setIfInBounds_toArray,List.set_cons_zero,List.set_cons_succ,i64_w,i32_w]; rfl
                         refine pure_ (i := 2) (N := some 101) (v := ?_) (a' := ?_) #[true,true,true,false,false,false,false,false,false,false,false,false,false,false] rfl rfl (any_of HT_.out (by kernel_rfl)) (fun _ _ _ h => h) (Or.inl ⟨by rfl,?_⟩) ?_ ?_; rotate_left
                         · intro w'; go_simp; with_reducible rfl
                         rotate_left
                         · simp only [Act.put,List.setIfInBounds_toArray,List.set_cons_zero,List.set_cons_succ,i64_w,i32_w]; rfl
                         refine pure_ (i := 3) (N := some 102) (v := ?_) (a' := ?_) #[true,true,true,true,false,false,false,false,false,false,false,false,false,false] rfl rfl (any_of HT_.out (by kernel_rfl)) (fun _ _ _ h => h) (Or.inl ⟨by rfl,?_⟩) ?_ ?_; rotate_left
                         · intro w'; go_simp; with_reducible rfl
                         rotate_left
                         · simp only [Act.put,List.setIfInBounds_toArray,List.set_cons_zero,List.set_cons_succ,i64_w,i32_w]; rfl
                         refine pure_ (i := 4) (N := some 103) (v := ?_) (a' := ?_) #[true,true,true,true,true,false,false,false,false,false,false,false,false,false] rfl rfl (any_of HT_.out (by kernel_rfl)) (fun _ _ _ h => h) (Or.inl ⟨by rfl,?_⟩) ?_ ?_; rotate_left
                         · intro w'; go_simp; with_reducible rfl
                         rotate_left
                         · simp only [Act.put,List.setIfInBounds_toArray,List.set_cons_zero,List.set_cons_succ,i64_w,i32_w]; rfl
                         refine pure_ (i := 5) (N := some 104) (v := ?_) (a' := ?_) #[true,true,true,true,true,true,false,false,false,false,false,false,false,false] rfl rfl (any_of HT_.out (by kernel_rfl)) (fun _ _ _ h => h) (Or.inl ⟨by rfl,?_⟩) ?_ ?_; rotate_left
                         · intro w'; go_simp; with_reducible rfl
                         rotate_left
                         · simp only [Act.put,List.setIfInBounds_toArray,List.set_cons_zero,List.set_cons_succ,i64_w,i32_w]; rfl
                         refine pure_ (i := 6) (N := some 105) (v := ?_) (a' := ?_) #[true,true,true,true,true,true,true,false,false,false,false,false,false,false] rfl rfl (any_of HT_.out (by kernel_rfl)) (fun _ _ _ h => h) (Or.inl ⟨by rfl,?_⟩) ?_ ?_; rotate_left
                         · intro w'; go_simp; with_reducible rfl
                         rotate_left
                         · simp only [Act.put,List.setIfInBounds_toArray,List.set_cons_zero,List.set_cons_succ,i64_w,i32_w]; rfl
                         refine pure_ (i := 8) (N := some 107) (v := ?_) (a' := ?_) #[true,true,true,true,true,true,true,false,true,false,false,false,false,false] rfl rfl (any_of HT_.out (by kernel_rfl)) (fun _ _ _ h => h) (Or.inl ⟨by rfl,?_⟩) ?_ ?_; rotate_left
                         · intro w'; go_simp; with_reducible rfl
                         rotate_left
                         · simp only [Act.put,List.setIfInBounds_toArray,List.set_cons_zero,List.set_cons_succ,i64_w,i32_w]; rfl
                         refine pure_ (i := 9) (N := some 108) (v := ?_) (a' := ?_) #[true,true,true,true,true,true,true,false,true,true,false,false,false,false] rfl rfl (any_of HT_.out (by kernel_rfl)) (fun _ _ _ h => h) (Or.inl ⟨by rfl,?_⟩) ?_ ?_; rotate_left
                         · intro w'; go_simp; with_reducible rfl
                         rotate_left
                         · simp only [Act.put,List.setIfInBounds_toArray,List.set_cons_zero,List.set_cons_succ,i64_w,i32_w]; rfl
                         refine pure_ (i := 10) (N := some 109) (v := ?_) (a' := ?_) #[true,true,true,true,true,true,true,false,true,true,true,false,false,false] rfl rfl (any_of HT_.out (by kernel_rfl)) (fun _ _ _ h => h) (Or.inl ⟨by rfl,?_⟩) ?_ ?_; rotate_left
                         · intro w'; go_simp; with_reducible rfl
                         rotate_left
                         · simp only [Act.put,List.setIfInBounds_toArray,List.set_cons_zero,List.set_cons_succ,i64_w,i32_w]; rfl
                         refine take_ (i := 7) (N := some 106) (v := ?_) (a' := ?_) #[true,true,true,true,true,true,true,true,true,true,true,false,false,false] rfl rfl (take_ofW HT_.out HW_.out (by kernel_rfl)) (fun _ _ _ h => h) (Or.inl ⟨by rfl,?_⟩) hHeld ?_ ?_; rotate_left
                         · rintro w' ⟨s0,s1⟩; go_simp; with_reducible rfl
                         rotate_left
                         · simp only [Act.put,List.setIfInBounds_toArray,List.set_cons_zero,List.set_cons_succ,i64_w,i32_w]; rfl
                         refine take_ (i := 11) (N := some 110) (v := ?_) (a' := ?_) #[true,true,true,true,true,true,true,true,true,true,true,true,false,false] rfl rfl (take_ofW HT_.out HW_.out (by kernel_rfl)) (fun _ _ _ h => h) (Or.inl ⟨by rfl,?_⟩) hHeld ?_ ?_; rotate_left
                         · rintro w' ⟨s0,s1⟩; go_simp; with_reducible rfl
                         rotate_left
                         · simp only [Act.put,List.setIfInBounds_toArray,List.set_cons_zero,List.set_cons_succ,i64_w,i32_w]; rfl
                         refine one_ (i := 12) (N := some 111) #[true,true,true,true,true,true,true,true,true,true,true,true,true,false] rfl rfl (one_of HT_.out (by kernel_rfl)) (by decide) (fun K hK => ?_); refine goes_ Tryd.func82 (by kernel_rfl) rfl #[.int .u8 (rd x0_3 x10_4),.int .u8 (rd x0_3 a1)] (by rfl) rfl rfl (by (try simp only [List.map_toArray,List.map_cons,List.map_nil]); first | done | rfl | (simp only [List.length_drop,List.length_take]; rfl)) ?_; with_reducible refine (cmp_Less_byte.calls (rd x0_3 x10_4) (rd x0_3 a1) true _ A62.out).mono ?_
                         rintro e w' ⟨rfl,⟨nd,rfl⟩⟩; refine ⟨_,rfl,?_⟩; refine hK.out _ _ ⟨hHeld.1,hHeld.2⟩ (fun hHeld => ?_); clear hK K; refine norm_ (a' := ?_) ?_ ?_; rotate_left
                         ·
                          show Act.put _ (some 111) _ = _
                          simp only [Act.put,List.setIfInBounds_toArray,List.set_cons_zero,List.set_cons_succ,i64_w,i32_w]; rfl
                         refine pure_ (i := 13) (N := some 112) (v := ?_) (a' := ?_) #[true,true,true,true,true,true,true,true,true,true,true,true,true,true] rfl rfl (any_of HT_.out (by kernel_rfl)) (fun _ _ _ h => h) (Or.inl ⟨by rfl,?_⟩) ?_ ?_; rotate_left
                         · intro w'; go_simp; with_reducible rfl
                         rotate_left
                         · simp only [Act.put,List.setIfInBounds_toArray,List.set_cons_zero,List.set_cons_succ,i64_w,i32_w]; rfl
                         refine done_ (done_of HT_.out (by kernel_rfl)) ?_; try go_wp2
                         go_roundg k4
                         case measure => have := HJ10.out; have := HJ25.out; have := HK3.out; have := HK4.out; omega
                         case rel => exact ⟨(wrap64 (x10_4 + 1)),(by first | rfl | (simp; done) | (simp [*]; done)),H',⟨by have := HJ10.out; have := HJ25.out; have := HK3.out; have := HK4.out; omega⟩,⟨by (try simp only [hl0_10]); (try simp only [hl0_3]); (with_reducible repeat (first | apply BR_alloc | apply BR_drewN | apply BR_drew)); exact HO_0.out⟩,⟨by repeat (first | (with_reducible first | exact HK.out | apply Kept.alloc | apply Kept.drewN | apply Kept.drew) | exact HK.out)⟩,⟨by repeat (first | (with_reducible first | exact HB.out | apply below_alloc | apply pw_below_drewN | apply below_drew1) | exact HB.out)⟩⟩
                        ·
                         replace c63 := Bool.eq_false_iff.mpr c63; subst c63; have H1 : (slices_partitionOrdered_byte.j6 k4 x0_3 a1 x10_4 x11_3) = some (r1,r2,r3) := by rw [if_neg (show ¬ (false = true) by decide)] at H; exact H
                         clear H; have H := H1; clear H1; have H' := Aside0.mk H; clear H; try go_wp2
                         have n0_ := Aside0.mk (BR_drew HO_0.out); have n1_ := Aside0.mk (Kept.drew HK.out); have n2_ := Aside0.mk (below_drew1 HB.out); clear HO_0; clear HK; clear HB; have HO_0 := n0_; have HK := n1_; have HB := n2_; clear n0_ n1_ n2_; have p119 : 0 ≤ (x10_4 : Int) := of_decide_eq_true (by first | (with_reducible assumption) | assumption); have q119 : x10_4 < (x0_3.length : Int) := of_decide_eq_true (by first | (with_reducible assumption) | assumption); obtain ⟨ad119,e119,hx119_0⟩ := Kd.at_int (BR_reads' HO_0.out).2.2 x10_4 p119 q119; obtain rfl : (⟨go9,0,none⟩ : Addr) = ad119 := (by injection e119)
                         (first | simp only [add_plain] at hx119_0 | simp only [add_at] at hx119_0 | simp only [Addr.add,Nat.zero_add] at hx119_0 | skip)
                         replace p119 := eq_true p119; replace q119 := eq_true q119; have p120 : 0 ≤ (a1 : Int) := of_decide_eq_true (by first | (with_reducible assumption) | assumption); have q120 : a1 < (x0_3.length : Int) := of_decide_eq_true (by first | (with_reducible assumption) | assumption); obtain ⟨ad120,e120,hx120_0⟩ := Kd.at_int (BR_reads' HO_0.out).2.2 a1 p120 q120; obtain rfl : (⟨go9,0,none⟩ : Addr) = ad120 := (by injection e120)
                         (first | simp only [add_plain] at hx120_0 | simp only [add_at] at hx120_0 | simp only [Addr.add,Nat.zero_add] at hx120_0 | skip)
                         replace p120 := eq_true p120; replace q120 := eq_true q120; refine start_ (n := 14) (S := fun w' => w'.cell? ⟨go9,(x10_4).toNat,none⟩ = some (.int .u8 (rd x0_3 x10_4)) ∧ w'.cell? ⟨go9,(a1).toNat,none⟩ = some (.int .u8 (rd x0_3 a1))) (ds := []) #[false,false,false,false,false,false,false,false,false,false,false,false,false,false] (by kernel_rfl) rfl rfl ⟨hx119_0,hx120_0⟩ (fun hHeld => ?_); refine with_tabW slices_partitionOrdered_byte.tab13 slices_partitionOrdered_byte.bits13 (fun HT_ HW_ => ?_)
                         generalize wr.drew = w65 at HO_0 HK HB hx119_0 hx120_0 hHeld ⊢; refine pure_ (i := 0) (N := some 99) (v := ?_) (a' := ?_) #[true,false,false,false,false,false,false,false,false,false,false,false,false,false] rfl rfl (any_of HT_.out (by kernel_rfl)) (fun _ _ _ h => h) (Or.inl ⟨by rfl,?_⟩) ?_ ?_; rotate_left
                         · intro w'; go_simp; with_reducible rfl
                         rotate_left
                         · simp only [Act.put,List.setIfInBounds_toArray,List.set_cons_zero,List.set_cons_succ,i64_w,i32_w]; rfl
                         refine pure_ (i := 1) (N := some 100) (v := ?_) (a' := ?_) #[true,true,false,false,false,false,false,false,false,false,false,false,false,false] rfl rfl (any_of HT_.out (by kernel_rfl)) (fun _ _ _ h => h) (Or.inl ⟨by rfl,?_⟩) ?_ ?_; rotate_left
                         · intro w'; go_simp; with_reducible rfl
                         rotate_left
                         · simp only [Act.put,List.setIfInBounds_toArray,List.set_cons_zero,List.set_cons_succ,i64_w,i32_w]; rfl
                         refine pure_ (i := 2) (N := some 101) (v := ?_) (a' := ?_) #[true,true,true,false,false,false,false,false,false,false,false,false,false,false] rfl rfl (any_of HT_.out (by kernel_rfl)) (fun _ _ _ h => h) (Or.inl ⟨by rfl,?_⟩) ?_ ?_; rotate_left
                         · intro w'; go_simp; with_reducible rfl
                         rotate_left
                         · simp only [Act.put,List.setIfInBounds_toArray,List.set_cons_zero,List.set_cons_succ,i64_w,i32_w]; rfl
                         refine pure_ (i := 3) (N := some 102) (v := ?_) (a' := ?_) #[true,true,true,true,false,false,false,false,false,false,false,false,false,false] rfl rfl (any_of HT_.out (by kernel_rfl)) (fun _ _ _ h => h) (Or.inl ⟨by rfl,?_⟩) ?_ ?_; rotate_left
                         · intro w'; go_simp; with_reducible rfl
                         rotate_left
                         · simp only [Act.put,List.setIfInBounds_toArray,List.set_cons_zero,List.set_cons_succ,i64_w,i32_w]; rfl
                         refine pure_ (i := 4) (N := some 103) (v := ?_) (a' := ?_) #[true,true,true,true,true,false,false,false,false,false,false,false,false,false] rfl rfl (any_of HT_.out (by kernel_rfl)) (fun _ _ _ h => h) (Or.inl ⟨by rfl,?_⟩) ?_ ?_; rotate_left
                         · intro w'; go_simp; with_reducible rfl
                         rotate_left
                         · simp only [Act.put,List.setIfInBounds_toArray,List.set_cons_zero,List.set_cons_succ,i64_w,i32_w]; rfl
                         refine pure_ (i := 5) (N := some 104) (v := ?_) (a' := ?_) #[true,true,true,true,true,true,false,false,false,false,false,false,false,false] rfl rfl (any_of HT_.out (by kernel_rfl)) (fun _ _ _ h => h) (Or.inl ⟨by rfl,?_⟩) ?_ ?_; rotate_left
                         · intro w'; go_simp; with_reducible rfl
                         rotate_left
                         · simp only [Act.put,List.setIfInBounds_toArray,List.set_cons_zero,List.set_cons_succ,i64_w,i32_w]; rfl
                         refine pure_ (i := 6) (N := some 105) (v := ?_) (a' := ?_) #[true,true,true,true,true,true,true,false,false,false,false,false,false,false] rfl rfl (any_of HT_.out (by kernel_rfl)) (fun _ _ _ h => h) (Or.inl ⟨by rfl,?_⟩) ?_ ?_; rotate_left
                         · intro w'; go_simp; with_reducible rfl
                         rotate_left
                         · simp only [Act.put,List.setIfInBounds_toArray,List.set_cons_zero,List.set_cons_succ,i64_w,i32_w]; rfl
                         refine pure_ (i := 8) (N := some 107) (v := ?_) (a' := ?_) #[true,true,true,true,true,true,true,false,true,false,false,false,false,false] rfl rfl (any_of HT_.out (by kernel_rfl)) (fun _ _ _ h => h) (Or.inl ⟨by rfl,?_⟩) ?_ ?_; rotate_left
                         · intro w'; go_simp; with_reducible rfl
                         rotate_left
                         · simp only [Act.put,List.setIfInBounds_toArray,List.set_cons_zero,List.set_cons_succ,i64_w,i32_w]; rfl
                         refine pure_ (i := 9) (N := some 108) (v := ?_) (a' := ?_) #[true,true,true,true,true,true,true,false,true,true,false,false,false,false] rfl rfl (any_of HT_.out (by kernel_rfl)) (fun _ _ _ h => h) (Or.inl ⟨by rfl,?_⟩) ?_ ?_; rotate_left
                         · intro w'; go_simp; with_reducible rfl
                         rotate_left
                         · simp only [Act.put,List.setIfInBounds_toArray,List.set_cons_zero,List.set_cons_succ,i64_w,i32_w]; rfl
                         refine pure_ (i := 10) (N := some 109) (v := ?_) (a' := ?_) #[true,true,true,true,true,true,true,false,true,true,true,false,false,false] rfl rfl (any_of HT_.out (by kernel_rfl)) (fun _ _ _ h => h) (Or.inl ⟨by rfl,?_⟩) ?_ ?_; rotate_left
                         · intro w'; go_simp; with_reducible rfl
                         rotate_left
                         · simp only [Act.put,List.setIfInBounds_toArray,List.set_cons_zero,List.set_cons_succ,i64_w,i32_w]; rfl
                         refine take_ (i := 7) (N := some 106) (v := ?_) (a' := ?_) #[true,true,true,true,true,true,true,true,true,true,true,false,false,false] rfl rfl (take_ofW HT_.out HW_.out (by kernel_rfl)) (fun _ _ _ h => h) (Or.inl ⟨by rfl,?_⟩) hHeld ?_ ?_; rotate_left
                         · rintro w' ⟨s0,s1⟩; go_simp; with_reducible rfl
                         rotate_left
                         · simp only [Act.put,List.setIfInBounds_toArray,List.set_cons_zero,List.set_cons_succ,i64_w,i32_w]; rfl
                         refine take_ (i := 11) (N := some 110) (v := ?_) (a' := ?_) #[true,true,true,true,true,true,true,true,true,true,true,true,false,false] rfl rfl (take_ofW HT_.out HW_.out (by kernel_rfl)) (fun _ _ _ h => h) (Or.inl ⟨by rfl,?_⟩) hHeld ?_ ?_; rotate_left
                         · rintro w' ⟨s0,s1⟩; go_simp; with_reducible rfl
                         rotate_left
                         · simp only [Act.put,List.setIfInBounds_toArray,List.set_cons_zero,List.set_cons_succ,i64_w,i32_w]; rfl
                         refine one_ (i := 12) (N := some 111) #[true,true,true,true,true,true,true,true,true,true,true,true,true,false] rfl rfl (one_of HT_.out (by kernel_rfl)) (by decide) (fun K hK => ?_); refine goes_ Tryd.func82 (by kernel_rfl) rfl #[.int .u8 (rd x0_3 x10_4),.int .u8 (rd x0_3 a1)] (by rfl) rfl rfl (by (try simp only [List.map_toArray,List.map_cons,List.map_nil]); first | done | rfl | (simp only [List.length_drop,List.length_take]; rfl)) ?_; with_reducible refine (cmp_Less_byte.calls (rd x0_3 x10_4) (rd x0_3 a1) false _ A62.out).mono ?_
                         rintro e w' ⟨rfl,⟨nd,rfl⟩⟩; refine ⟨_,rfl,?_⟩; refine hK.out _ _ ⟨hHeld.1,hHeld.2⟩ (fun hHeld => ?_); clear hK K; refine norm_ (a' := ?_) ?_ ?_; rotate_left
                         ·
                          show Act.put _ (some 111) _ = _
                          simp only [Act.put,List.setIfInBounds_toArray,List.set_cons_zero,List.set_cons_succ,i64_w,i32_w]; rfl
                         refine pure_ (i := 13) (N := some 112) (v := ?_) (a' := ?_) #[true,true,true,true,true,true,true,true,true,true,true,true,true,true] rfl rfl (any_of HT_.out (by kernel_rfl)) (fun _ _ _ h => h) (Or.inl ⟨by rfl,?_⟩) ?_ ?_; rotate_left
                         · intro w'; go_simp; with_reducible rfl
                         rotate_left
                         · simp only [Act.put,List.setIfInBounds_toArray,List.set_cons_zero,List.set_cons_succ,i64_w,i32_w]; rfl
                         refine done_ (done_of HT_.out (by kernel_rfl)) ?_; try go_wp2
                         go_meet
                         case rel => exact ⟨_,(x10_4),(by first | rfl | (simp; done) | (simp [*]; done)),H',⟨by have := HJ10.out; have := HJ25.out; have := HK3.out; have := HK4.out; first | omega | exact Nat.le_refl _⟩,⟨by (try simp only [hl0_10]); (try simp only [hl0_3]); (with_reducible repeat (first | apply BR_alloc | apply BR_drewN | apply BR_drew)); exact HO_0.out⟩,⟨by repeat (first | (with_reducible first | exact HK.out | apply Kept.alloc | apply Kept.drewN | apply Kept.drew) | exact HK.out)⟩,⟨by repeat (first | (with_reducible first | exact HB.out | apply below_alloc | apply pw_below_drewN | apply below_drew1) | exact HB.out)⟩⟩
                       · rw [if_neg c61] at H; exact absurd H (by simp)
                      · rw [if_neg c60] at H; exact absurd H (by simp)
                     · rw [if_neg c59] at H; exact absurd H (by simp)
                    · rw [if_neg c58] at H; exact absurd H (by simp)
                   ·
                    rw [if_neg c57] at H; have c57b0 : decide (x10_4 ≤ x11_3) = false := decide_eq_false c57; clear c57
                    (first | rw [c57b0] | (simp only [i64_w,i32_w]; rw [c57b0]) | skip)
                    have H' := Aside0.mk H; clear H; try go_wp2
                    have n0_ := Aside0.mk (BR_drew HO_0.out); have n1_ := Aside0.mk (Kept.drew HK.out); have n2_ := Aside0.mk (below_drew1 HB.out); clear HO_0; clear HK; clear HB; have HO_0 := n0_; have HK := n1_; have HB := n2_; clear n0_ n1_ n2_; refine start_ (n := 14) (S := fun w' => True) (ds := []) #[false,false,false,false,false,false,false,false,false,false,false,false,false,false] (by kernel_rfl) rfl rfl trivial (fun hHeld => ?_); refine with_tabW slices_partitionOrdered_byte.tab13 slices_partitionOrdered_byte.bits13 (fun HT_ HW_ => ?_)
                    generalize wr.drew = w66 at HO_0 HK HB hHeld ⊢; refine pure_ (i := 0) (N := some 99) (v := ?_) (a' := ?_) #[true,false,false,false,false,false,false,false,false,false,false,false,false,false] rfl rfl (any_of HT_.out (by kernel_rfl)) (fun _ _ _ h => h) (Or.inl ⟨by rfl,?_⟩) ?_ ?_; rotate_left
                    · intro w'; go_simp; with_reducible rfl
                    rotate_left
                    · simp only [Act.put,List.setIfInBounds_toArray,List.set_cons_zero,List.set_cons_succ,i64_w,i32_w]; rfl
                    refine pure_ (i := 1) (N := some 100) (v := ?_) (a' := ?_) #[true,true,false,false,false,false,false,false,false,false,false,false,false,false] rfl rfl (any_of HT_.out (by kernel_rfl)) (fun _ _ _ h => h) (Or.inl ⟨by rfl,?_⟩) ?_ ?_; rotate_left
                    · intro w'; go_simp; with_reducible rfl
                    rotate_left
                    · simp only [Act.put,List.setIfInBounds_toArray,List.set_cons_zero,List.set_cons_succ,i64_w,i32_w]; rfl
                    refine pure_ (i := 2) (N := some 101) (v := ?_) (a' := ?_) #[true,true,true,false,false,false,false,false,false,false,false,false,false,false] rfl rfl (any_of HT_.out (by kernel_rfl)) (fun _ _ _ h => h) (Or.inl ⟨by rfl,?_⟩) ?_ ?_; rotate_left
                    · intro w'; go_simp; with_reducible rfl
                    rotate_left
                    · simp only [Act.put,List.setIfInBounds_toArray,List.set_cons_zero,List.set_cons_succ,i64_w,i32_w]; rfl
                    refine pure_ (i := 3) (N := some 102) (v := ?_) (a' := ?_) #[true,true,true,true,false,false,false,false,false,false,false,false,false,false] rfl rfl (any_of HT_.out (by kernel_rfl)) (fun _ _ _ h => h) (Or.inl ⟨by rfl,?_⟩) ?_ ?_; rotate_left
                    · intro w'; go_simp; with_reducible rfl
                    rotate_left
                    · simp only [Act.put,List.setIfInBounds_toArray,List.set_cons_zero,List.set_cons_succ,i64_w,i32_w]; rfl
                    refine pure_ (i := 4) (N := some 103) (v := undef) (a' := ?_) #[true,true,true,true,true,false,false,false,false,false,false,false,false,false] rfl rfl (any_of HT_.out (by kernel_rfl)) (fun _ _ _ h => h) (Or.inr ⟨by rfl,rfl⟩) ?_ ?_; rotate_left
                    · simp only [Act.put,List.setIfInBounds_toArray,List.set_cons_zero,List.set_cons_succ,i64_w,i32_w]; rfl
                    refine pure_ (i := 5) (N := some 104) (v := undef) (a' := ?_) #[true,true,true,true,true,true,false,false,false,false,false,false,false,false] rfl rfl (any_of HT_.out (by kernel_rfl)) (fun _ _ _ h => h) (Or.inr ⟨by rfl,rfl⟩) ?_ ?_; rotate_left
                    · simp only [Act.put,List.setIfInBounds_toArray,List.set_cons_zero,List.set_cons_succ,i64_w,i32_w]; rfl
                    refine pure_ (i := 6) (N := some 105) (v := undef) (a' := ?_) #[true,true,true,true,true,true,true,false,false,false,false,false,false,false] rfl rfl (any_of HT_.out (by kernel_rfl)) (fun _ _ _ h => h) (Or.inr ⟨by rfl,rfl⟩) ?_ ?_; rotate_left
                    · simp only [Act.put,List.setIfInBounds_toArray,List.set_cons_zero,List.set_cons_succ,i64_w,i32_w]; rfl
                    refine pure_ (i := 7) (N := some 106) (v := undef) (a' := ?_) #[true,true,true,true,true,true,true,true,false,false,false,false,false,false] rfl rfl (any_of HT_.out (by kernel_rfl)) (fun _ _ _ h => h) (Or.inr ⟨by rfl,rfl⟩) ?_ ?_; rotate_left
                    · simp only [Act.put,List.setIfInBounds_toArray,List.set_cons_zero,List.set_cons_succ,i64_w,i32_w]; rfl
                    refine pure_ (i := 8) (N := some 107) (v := undef) (a' := ?_) #[true,true,true,true,true,true,true,true,true,false,false,false,false,false] rfl rfl (any_of HT_.out (by kernel_rfl)) (fun _ _ _ h => h) (Or.inr ⟨by rfl,rfl⟩) ?_ ?_; rotate_left
                    · simp only [Act.put,List.setIfInBounds_toArray,List.set_cons_zero,List.set_cons_succ,i64_w,i32_w]; rfl
                    refine pure_ (i := 9) (N := some 108) (v := undef) (a' := ?_) #[true,true,true,true,true,true,true,true,true,true,false,false,false,false] rfl rfl (any_of HT_.out (by kernel_rfl)) (fun _ _ _ h => h) (Or.inr ⟨by rfl,rfl⟩) ?_ ?_; rotate_left
                    · simp only [Act.put,List.setIfInBounds_toArray,List.set_cons_zero,List.set_cons_succ,i64_w,i32_w]; rfl
                    refine pure_ (i := 10) (N := some 109) (v := undef) (a' := ?_) #[true,true,true,true,true,true,true,true,true,true,true,false,false,false] rfl rfl (any_of HT_.out (by kernel_rfl)) (fun _ _ _ h => h) (Or.inr ⟨by rfl,rfl⟩) ?_ ?_; rotate_left
                    · simp only [Act.put,List.setIfInBounds_toArray,List.set_cons_zero,List.set_cons_succ,i64_w,i32_w]; rfl
                    refine pure_ (i := 11) (N := some 110) (v := undef) (a' := ?_) #[true,true,true,true,true,true,true,true,true,true,true,true,false,false] rfl rfl (any_of HT_.out (by kernel_rfl)) (fun _ _ _ h => h) (Or.inr ⟨by rfl,rfl⟩) ?_ ?_; rotate_left
                    · simp only [Act.put,List.setIfInBounds_toArray,List.set_cons_zero,List.set_cons_succ,i64_w,i32_w]; rfl
                    refine pure_ (i := 12) (N := some 111) (v := undef) (a' := ?_) #[true,true,true,true,true,true,true,true,true,true,true,true,true,false] rfl rfl (any_of HT_.out (by kernel_rfl)) (fun _ _ _ h => h) (Or.inr ⟨by rfl,rfl⟩) ?_ ?_; rotate_left
                    · simp only [Act.put,List.setIfInBounds_toArray,List.set_cons_zero,List.set_cons_succ,i64_w,i32_w]; rfl
                    refine pure_ (i := 13) (N := some 112) (v := ?_) (a' := ?_) #[true,true,true,true,true,true,true,true,true,true,true,true,true,true] rfl rfl (any_of HT_.out (by kernel_rfl)) (fun _ _ _ h => h) (Or.inl ⟨by rfl,?_⟩) ?_ ?_; rotate_left
                    · intro w'; go_simp; with_reducible rfl
                    rotate_left
                    · simp only [Act.put,List.setIfInBounds_toArray,List.set_cons_zero,List.set_cons_succ,i64_w,i32_w]; rfl
                    refine done_ (done_of HT_.out (by kernel_rfl)) ?_; try go_wp2
                    go_meet
                    case rel => exact ⟨_,(x10_4),(by first | rfl | (simp; done) | (simp [*]; done)),H',⟨by have := HJ10.out; have := HJ25.out; have := HK3.out; have := HK4.out; first | omega | exact Nat.le_refl _⟩,⟨by (try simp only [hl0_10]); (try simp only [hl0_3]); (with_reducible repeat (first | apply BR_alloc | apply BR_drewN | apply BR_drew)); exact HO_0.out⟩,⟨by repeat (first | (with_reducible first | exact HK.out | apply Kept.alloc | apply Kept.drewN | apply Kept.drew) | exact HK.out)⟩,⟨by repeat (first | (with_reducible first | exact HB.out | apply below_alloc | apply pw_below_drewN | apply below_drew1) | exact HB.out)⟩⟩
                case rest =>
                 clear HC56; try clear c1
                 try clear p1
                 try clear q1
                 try clear hx1
                 try clear c2
                 try clear p2
                 try clear c3
                 try clear c4
                 try clear p4
                 try clear q4
                 try clear hx4
                 try clear hf4
                 try clear c5
                 try clear c5b0
                 try clear p5
                 try clear q5
                 try clear hx5
                 try clear hf5
                 try clear c6
                 try clear c6b0
                 try clear p6
                 try clear c7
                 try clear c7b0
                 try clear c8
                 try clear c8b0
                 try clear p9
                 try clear q9
                 try clear hx9
                 try clear hf9
                 try clear p10
                 try clear q10
                 try clear hx10
                 try clear hf10
                 try clear p11
                 try clear q11
                 try clear hx11
                 try clear p12
                 try clear q12
                 try clear hx12
                 try clear c16
                 try clear c16b0
                 try clear c17
                 try clear c17b0
                 try clear c18
                 try clear c18b0
                 try clear c19
                 try clear c19b0
                 try clear c20
                 try clear c20b0
                 try clear c22
                 try clear c27
                 try clear c27b0
                 try clear c28
                 try clear c28b0
                 try clear c29
                 try clear c29b0
                 try clear c30
                 try clear c30b0
                 try clear c31
                 try clear c31b0
                 try clear c33
                 try clear c37
                 try clear c37b0
                 try clear c38
                 try clear c38b0
                 try clear c39
                 try clear c39b0
                 try clear c40
                 try clear c40b0
                 try clear c41
                 try clear c41b0
                 try clear p42
                 try clear q42
                 try clear hx42
                 try clear hf42
                 try clear p43
                 try clear q43
                 try clear hx43
                 try clear hf43
                 try clear c47
                 try clear c47b0
                 try clear c48
                 try clear c48b0
                 try clear c49
                 try clear c49b0
                 try clear c50
                 try clear c50b0
                 try clear p51
                 try clear q51
                 try clear hx51
                 try clear hf51
                 try clear p52
                 try clear q52
                 try clear hx52
                 try clear hf52
                 try clear c57
                 try clear c57b0
                 try clear c58
                 try clear c58b0
                 try clear c59
                 try clear c59b0
                 try clear c60
                 try clear c60b0
                 try clear c61
                 try clear c61b0
                 try clear c63
                 try clear p64
                 try clear hx101_0
                 try clear hx102_0
                 try clear hx105_0
                 try clear hx106_0
                 try clear hx108_0
                 try clear hx109_0
                 try clear hx10_0
                 try clear hx111_0
                 try clear hx112_0
                 try clear hx115_0
                 try clear hx116_0
                 try clear hx119_0
                 try clear hx120_0
                 try clear hx42_0
                 try clear hx43_0
                 try clear hx51_0
                 try clear hx52_0
                 try clear hx9_0
                 try clear p1
                 try clear p10
                 try clear p101
                 try clear p102
                 try clear p105
                 try clear p106
                 try clear p108
                 try clear p109
                 try clear p11
                 try clear p111
                 try clear p112
                 try clear p115
                 try clear p116
                 try clear p119
                 try clear p120
                 try clear p2
                 try clear p4
                 try clear p42
                 try clear p43
                 try clear p5
                 try clear p51
                 try clear p52
                 try clear p6
                 try clear p9
                 try clear q1
                 try clear q10
                 try clear q101
                 try clear q102
                 try clear q105
                 try clear q106
                 try clear q108
                 try clear q109
                 try clear q11
                 try clear q111
                 try clear q112
                 try clear q115
                 try clear q116
                 try clear q119
                 try clear q120
                 try clear q4
                 try clear q42
                 try clear q43
                 try clear q5
                 try clear q51
                 try clear q52
                 try clear q9
                 obtain ⟨kq,x10_55,rfl,HA,HJ55,HO_0,HK,HB⟩ := hcut
                 cases kq with
                 | zero => exact absurd HA.out (by simp [slices_partitionOrdered_byte.j6])
                 | succ kj55 =>
                  have H := HA.out; clear HA; simp only [slices_partitionOrdered_byte.j6] at H; have H' := Aside0.mk H; clear H; go_wp2
                  go_loopg [11] kj55 (fun kq v11 w' => ∃ (x11_5 : Int),v11 = .int .i64 x11_5 ∧ Aside0 (slices_partitionOrdered_byte.l4 kq x0_3 a1 x10_55 x11_5 = some (r1,r2,r3)) ∧ Aside0 (kq ≤ kj55) ∧ Aside0 (BR w' w0.heap.size (fun k_ => (P0_ k_ ∨ w.heap.size ≤ k_)) (.slice (some ⟨go9,0,none⟩) x0_3.length co13) x0_3) ∧ Aside0 (Kept w w' (fun k_ => P0_ k_)) ∧ Aside0 (Below w0.heap.size w0 w'))
                  case atStart => exact ⟨(x11_3),(by first | rfl | (simp; done) | (simp [*]; done)),H',⟨Nat.le_refl _⟩,⟨by (try simp only [hl0_10]); (try simp only [hl0_3]); (with_reducible repeat (first | apply BR_alloc | apply BR_drewN | apply BR_drew)); exact HO_0.out⟩,⟨by repeat (first | (with_reducible first | exact HK.out | apply Kept.alloc | apply Kept.drewN | apply Kept.drew) | exact HK.out)⟩,⟨by repeat (first | (with_reducible first | exact HB.out | apply below_alloc | apply pw_below_drewN | apply below_drew1) | exact HB.out)⟩⟩
                  case round =>
                   clear H'; try clear c1
                   try clear p1
                   try clear q1
                   try clear hx1
                   try clear c2
                   try clear p2
                   try clear c3
                   try clear c4
                   try clear p4
                   try clear q4
                   try clear hx4
                   try clear hf4
                   try clear c5
                   try clear c5b0
                   try clear p5
                   try clear q5
                   try clear hx5
                   try clear hf5
                   try clear c6
                   try clear c6b0
                   try clear p6
                   try clear c7
                   try clear c7b0
                   try clear c8
                   try clear c8b0
                   try clear p9
                   try clear q9
                   try clear hx9
                   try clear hf9
                   try clear p10
                   try clear q10
                   try clear hx10
                   try clear hf10
                   try clear p11
                   try clear q11
                   try clear hx11
                   try clear p12
                   try clear q12
                   try clear hx12
                   try clear c16
                   try clear c16b0
                   try clear c17
                   try clear c17b0
                   try clear c18
                   try clear c18b0
                   try clear c19
                   try clear c19b0
                   try clear c20
                   try clear c20b0
                   try clear c22
                   try clear c27
                   try clear c27b0
                   try clear c28
                   try clear c28b0
                   try clear c29
                   try clear c29b0
                   try clear c30
                   try clear c30b0
                   try clear c31
                   try clear c31b0
                   try clear c33
                   try clear c37
                   try clear c37b0
                   try clear c38
                   try clear c38b0
                   try clear c39
                   try clear c39b0
                   try clear c40
                   try clear c40b0
                   try clear c41
                   try clear c41b0
                   try clear p42
                   try clear q42
                   try clear hx42
                   try clear hf42
                   try clear p43
                   try clear q43
                   try clear hx43
                   try clear hf43
                   try clear c47
                   try clear c47b0
                   try clear c48
                   try clear c48b0
                   try clear c49
                   try clear c49b0
                   try clear c50
                   try clear c50b0
                   try clear p51
                   try clear q51
                   try clear hx51
                   try clear hf51
                   try clear p52
                   try clear q52
                   try clear hx52
                   try clear hf52
                   try clear c57
                   try clear c57b0
                   try clear c58
                   try clear c58b0
                   try clear c59
                   try clear c59b0
                   try clear c60
                   try clear c60b0
                   try clear c61
                   try clear c61b0
                   try clear c63
                   try clear p64
                   try clear hx101_0
                   try clear hx102_0
                   try clear hx105_0
                   try clear hx106_0
                   try clear hx108_0
                   try clear hx109_0
                   try clear hx10_0
                   try clear hx111_0
                   try clear hx112_0
                   try clear hx115_0
                   try clear hx116_0
                   try clear hx119_0
                   try clear hx120_0
                   try clear hx42_0
                   try clear hx43_0
                   try clear hx51_0
                   try clear hx52_0
                   try clear hx9_0
                   try clear p1
                   try clear p10
                   try clear p101
                   try clear p102
                   try clear p105
                   try clear p106
                   try clear p108
                   try clear p109
                   try clear p11
                   try clear p111
                   try clear p112
                   try clear p115
                   try clear p116
                   try clear p119
                   try clear p12
                   try clear p120
                   try clear p2
                   try clear p4
                   try clear p42
                   try clear p43
                   try clear p5
                   try clear p51
                   try clear p52
                   try clear p6
                   try clear p64
                   try clear p9
                   try clear q1
                   try clear q10
                   try clear q101
                   try clear q102
                   try clear q105
                   try clear q106
                   try clear q108
                   try clear q109
                   try clear q11
                   try clear q111
                   try clear q112
                   try clear q115
                   try clear q116
                   try clear q119
                   try clear q12
                   try clear q120
                   try clear q4
                   try clear q42
                   try clear q43
                   try clear q5
                   try clear q51
                   try clear q52
                   try clear q9
                   obtain ⟨x11_5,rfl,HA,HK5,HO_0,HK,HB⟩ := hrel
                   cases gk with
                   | zero => exact absurd HA.out (by simp [slices_partitionOrdered_byte.l4])
                   | succ k5 =>
                    have H := HA.out; clear HA; simp only [slices_partitionOrdered_byte.l4] at H
                    by_cases c67 : x10_55 ≤ x11_5
                    ·
                     rw [if_pos c67] at H; have c67b0 : decide (x10_55 ≤ x11_5) = true := decide_eq_true c67; clear c67
                     by_cases c68 : 0 ≤ x11_5
                     ·
                      rw [if_pos c68] at H; have c68b0 : decide (0 ≤ x11_5) = true := decide_eq_true c68; clear c68
                      by_cases c69 : x11_5 < (x0_3.length : Int)
                      ·
                       rw [if_pos c69] at H; have c69b0 : decide (x11_5 < (x0_3.length : Int)) = true := decide_eq_true c69
                       (try (have c69b0_ := c69b0; rw [hl0_10] at c69b0_))
                       (try (have c69b0_ := c69b0; rw [hl0_3] at c69b0_))
                       clear c69
                       by_cases c70 : 0 ≤ a1
                       ·
                        rw [if_pos c70] at H; have c70b0 : decide (0 ≤ a1) = true := decide_eq_true c70; clear c70
                        by_cases c71 : a1 < (x0_3.length : Int)
                        ·
                         rw [if_pos c71] at H; have c71b0 : decide (a1 < (x0_3.length : Int)) = true := decide_eq_true c71
                         (try (have c71b0_ := c71b0; rw [hl0_10] at c71b0_))
                         (try (have c71b0_ := c71b0; rw [hl0_3] at c71b0_))
                         clear c71; replace H := Option.bind_eq_some_iff.mp H; obtain ⟨t124,A720,H⟩ := H; replace H : (if t124 = true then (if x10_55 > x11_5 then (some (x11_5,false,((x0_3.set (x11_5 : Int).toNat (rd x0_3 a1)).set (a1 : Int).toNat (rd x0_3 x11_5)))) else (if 0 ≤ x10_55 then (if x10_55 < (x0_3.length : Int) then (slices_partitionOrdered_byte.l2 k5 ((x0_3.set (x10_55 : Int).toNat (rd x0_3 x11_5)).set (x11_5 : Int).toNat (rd x0_3 x10_55)) a1 (wrap64 (x10_55 + 1)) (wrap64 (x11_5 - 1))) else (none)) else (none))) else (slices_partitionOrdered_byte.l4 k5 x0_3 a1 x10_55 (wrap64 (x11_5 - 1)))) = some (r1,r2,r3) := H; have A72 := Aside0.mk A720; clear A720
                         by_cases c73 : t124 = true
                         ·
                          subst c73; have H1 : (if x10_55 > x11_5 then (some (x11_5,false,((x0_3.set (x11_5 : Int).toNat (rd x0_3 a1)).set (a1 : Int).toNat (rd x0_3 x11_5)))) else (if 0 ≤ x10_55 then (if x10_55 < (x0_3.length : Int) then (slices_partitionOrdered_byte.l2 k5 ((x0_3.set (x10_55 : Int).toNat (rd x0_3 x11_5)).set (x11_5 : Int).toNat (rd x0_3 x10_55)) a1 (wrap64 (x10_55 + 1)) (wrap64 (x11_5 - 1))) else (none)) else (none))) = some (r1,r2,r3) := by rw [if_pos rfl] at H; exact H
                          clear H; have H := H1; clear H1
                          by_cases c74 : x10_55 > x11_5
                          ·
                           rw [if_pos c74] at H; have c74b0 : decide (x11_5 < x10_55) = true := decide_eq_true c74; clear c74; obtain ⟨y127,hy127⟩ : ∃ y_ : List Int,y_ = (x0_3.set (x11_5 : Int).toNat (rd x0_3 a1)) := ⟨_,rfl⟩; replace H : (some (x11_5,false,(y127.set (a1 : Int).toNat (rd x0_3 x11_5)))) = some (r1,r2,r3) := by first | (rw [hy127]; with_reducible exact H) | (have H2_ := (Option.bind_some _ _).symm.trans H; rw [hy127]; with_reducible exact H2_) | (have H2_ := (Option.bind_some _ _).symm.trans H; with_reducible exact H2_) | with_reducible exact H | (rw [hy127]; exact H) | exact H
                           have Ny127 := Aside0.mk hy127; clear hy127; obtain ⟨y128,hy128⟩ : ∃ y_ : List Int,y_ = (y127.set (a1 : Int).toNat (rd x0_3 x11_5)) := ⟨_,rfl⟩; replace H : (some (x11_5,false,y128)) = some (r1,r2,r3) := by first | (rw [hy128]; with_reducible exact H) | (have H2_ := (Option.bind_some _ _).symm.trans H; rw [hy128]; with_reducible exact H2_) | (have H2_ := (Option.bind_some _ _).symm.trans H; with_reducible exact H2_) | with_reducible exact H | (rw [hy128]; exact H) | exact H
                           have Ny128 := Aside0.mk hy128; clear hy128; simp only [Option.some.injEq,Prod.mk.injEq] at H; obtain ⟨rfl,rfl,rfl⟩ := H; try go_wp2
                           have n0_ := Aside0.mk (BR_drew HO_0.out); have n1_ := Aside0.mk (Kept.drew HK.out); have n2_ := Aside0.mk (below_drew1 HB.out); clear HO_0; clear HK; clear HB; have HO_0 := n0_; have HK := n1_; have HB := n2_; clear n0_ n1_ n2_; have p122 : 0 ≤ (x11_5 : Int) := of_decide_eq_true (by first | (with_reducible assumption) | assumption); have q122 : x11_5 < (x0_3.length : Int) := of_decide_eq_true (by first | (with_reducible assumption) | assumption); obtain ⟨ad122,e122,hx122_0⟩ := Kd.at_int (BR_reads' HO_0.out).2.2 x11_5 p122 q122; obtain rfl : (⟨go9,0,none⟩ : Addr) = ad122 := (by injection e122)
                           (first | simp only [add_plain] at hx122_0 | simp only [add_at] at hx122_0 | simp only [Addr.add,Nat.zero_add] at hx122_0 | skip)
                           replace p122 := eq_true p122; replace q122 := eq_true q122; have p123 : 0 ≤ (a1 : Int) := of_decide_eq_true (by first | (with_reducible assumption) | assumption); have q123 : a1 < (x0_3.length : Int) := of_decide_eq_true (by first | (with_reducible assumption) | assumption); obtain ⟨ad123,e123,hx123_0⟩ := Kd.at_int (BR_reads' HO_0.out).2.2 a1 p123 q123; obtain rfl : (⟨go9,0,none⟩ : Addr) = ad123 := (by injection e123)
                           (first | simp only [add_plain] at hx123_0 | simp only [add_at] at hx123_0 | simp only [Addr.add,Nat.zero_add] at hx123_0 | skip)
                           replace p123 := eq_true p123; replace q123 := eq_true q123; refine start_ (n := 15) (S := fun w' => w'.cell? ⟨go9,(x11_5).toNat,none⟩ = some (.int .u8 (rd x0_3 x11_5)) ∧ w'.cell? ⟨go9,(a1).toNat,none⟩ = some (.int .u8 (rd x0_3 a1))) (ds := []) #[false,false,false,false,false,false,false,false,false,false,false,false,false,false,false] (by kernel_rfl) rfl rfl ⟨hx122_0,hx123_0⟩ (fun hHeld => ?_); refine with_tabW slices_partitionOrdered_byte.tab15 slices_partitionOrdered_byte.bits15 (fun HT_ HW_ => ?_)
                           generalize wr.drew = w77 at HO_0 HK HB hx122_0 hx123_0 hHeld ⊢; refine pure_ (i := 0) (N := some 115) (v := ?_) (a' := ?_) #[true,false,false,false,false,false,false,false,false,false,false,false,false,false,false] rfl rfl (any_of HT_.out (by kernel_rfl)) (fun _ _ _ h => h) (Or.inl ⟨by rfl,?_⟩) ?_ ?_; rotate_left
                           · intro w'; go_simp; with_reducible rfl
                           rotate_left
                           · simp only [Act.put,List.setIfInBounds_toArray,List.set_cons_zero,List.set_cons_succ,i64_w,i32_w]; rfl
                           refine pure_ (i := 1) (N := some 116) (v := ?_) (a' := ?_) #[true,true,false,false,false,false,false,false,false,false,false,false,false,false,false] rfl rfl (any_of HT_.out (by kernel_rfl)) (fun _ _ _ h => h) (Or.inl ⟨by rfl,?_⟩) ?_ ?_; rotate_left
                           · intro w'; go_simp; with_reducible rfl
                           rotate_left
                           · simp only [Act.put,List.setIfInBounds_toArray,List.set_cons_zero,List.set_cons_succ,i64_w,i32_w]; rfl
                           refine pure_ (i := 2) (N := some 117) (v := ?_) (a' := ?_) #[true,true,true,false,false,false,false,false,false,false,false,false,false,false,false] rfl rfl (any_of HT_.out (by kernel_rfl)) (fun _ _ _ h => h) (Or.inl ⟨by rfl,?_⟩) ?_ ?_; rotate_left
                           · intro w'; go_simp; with_reducible rfl
                           rotate_left
                           · simp only [Act.put,List.setIfInBounds_toArray,List.set_cons_zero,List.set_cons_succ,i64_w,i32_w]; rfl
                           refine pure_ (i := 3) (N := some 118) (v := ?_) (a' := ?_) #[true,true,true,true,false,false,false,false,false,false,false,false,false,false,false] rfl rfl (any_of HT_.out (by kernel_rfl)) (fun _ _ _ h => h) (Or.inl ⟨by rfl,?_⟩) ?_ ?_; rotate_left
                           · intro w'; go_simp; with_reducible rfl
                           rotate_left
                           · simp only [Act.put,List.setIfInBounds_toArray,List.set_cons_zero,List.set_cons_succ,i64_w,i32_w]; rfl
                           refine pure_ (i := 4) (N := some 119) (v := ?_) (a' := ?_) #[true,true,true,true,true,false,false,false,false,false,false,false,false,false,false] rfl rfl (any_of HT_.out (by kernel_rfl)) (fun _ _ _ h => h) (Or.inl ⟨by rfl,?_⟩) ?_ ?_; rotate_left
                           · intro w'; go_simp; with_reducible rfl
                           rotate_left
                           · simp only [Act.put,List.setIfInBounds_toArray,List.set_cons_zero,List.set_cons_succ,i64_w,i32_w]; rfl
                           refine pure_ (i := 5) (N := some 120) (v := ?_) (a' := ?_) #[true,true,true,true,true,true,false,false,false,false,false,false,false,false,false] rfl rfl (any_of HT_.out (by kernel_rfl)) (fun _ _ _ h => h) (Or.inl ⟨by rfl,?_⟩) ?_ ?_; rotate_left
                           · intro w'; go_simp; with_reducible rfl
                           rotate_left
                           · simp only [Act.put,List.setIfInBounds_toArray,List.set_cons_zero,List.set_cons_succ,i64_w,i32_w]; rfl
                           refine pure_ (i := 6) (N := some 121) (v := ?_) (a' := ?_) #[true,true,true,true,true,true,true,false,false,false,false,false,false,false,false] rfl rfl (any_of HT_.out (by kernel_rfl)) (fun _ _ _ h => h) (Or.inl ⟨by rfl,?_⟩) ?_ ?_; rotate_left
                           · intro w'; go_simp; with_reducible rfl
                           rotate_left
                           · simp only [Act.put,List.setIfInBounds_toArray,List.set_cons_zero,List.set_cons_succ,i64_w,i32_w]; rfl
                           refine pure_ (i := 8) (N := some 123) (v := ?_) (a' := ?_) #[true,true,true,true,true,true,true,false,true,false,false,false,false,false,false] rfl rfl (any_of HT_.out (by kernel_rfl)) (fun _ _ _ h => h) (Or.inl ⟨by rfl,?_⟩) ?_ ?_; rotate_left
                           · intro w'; go_simp; with_reducible rfl
                           rotate_left
                           · simp only [Act.put,List.setIfInBounds_toArray,List.set_cons_zero,List.set_cons_succ,i64_w,i32_w]; rfl
                           refine pure_ (i := 9) (N := some 124) (v := ?_) (a' := ?_) #[true,true,true,true,true,true,true,false,true,true,false,false,false,false,false] rfl rfl (any_of HT_.out (by kernel_rfl)) (fun _ _ _ h => h) (Or.inl ⟨by rfl,?_⟩) ?_ ?_; rotate_left
                           · intro w'; go_simp; with_reducible rfl
                           rotate_left
                           · simp only [Act.put,List.setIfInBounds_toArray,List.set_cons_zero,List.set_cons_succ,i64_w,i32_w]; rfl
                           refine pure_ (i := 10) (N := some 125) (v := ?_) (a' := ?_) #[true,true,true,true,true,true,true,false,true,true,true,false,false,false,false] rfl rfl (any_of HT_.out (by kernel_rfl)) (fun _ _ _ h => h) (Or.inl ⟨by rfl,?_⟩) ?_ ?_; rotate_left
                           · intro w'; go_simp; with_reducible rfl
                           rotate_left
                           · simp only [Act.put,List.setIfInBounds_toArray,List.set_cons_zero,List.set_cons_succ,i64_w,i32_w]; rfl
                           refine take_ (i := 7) (N := some 122) (v := ?_) (a' := ?_) #[true,true,true,true,true,true,true,true,true,true,true,false,false,false,false] rfl rfl (take_ofW HT_.out HW_.out (by kernel_rfl)) (fun _ _ _ h => h) (Or.inl ⟨by rfl,?_⟩) hHeld ?_ ?_; rotate_left
                           · rintro w' ⟨s0,s1⟩; go_simp; with_reducible rfl
                           rotate_left
                           · simp only [Act.put,List.setIfInBounds_toArray,List.set_cons_zero,List.set_cons_succ,i64_w,i32_w]; rfl
                           refine take_ (i := 11) (N := some 126) (v := ?_) (a' := ?_) #[true,true,true,true,true,true,true,true,true,true,true,true,false,false,false] rfl rfl (take_ofW HT_.out HW_.out (by kernel_rfl)) (fun _ _ _ h => h) (Or.inl ⟨by rfl,?_⟩) hHeld ?_ ?_; rotate_left
                           · rintro w' ⟨s0,s1⟩; go_simp; with_reducible rfl
                           rotate_left
                           · simp only [Act.put,List.setIfInBounds_toArray,List.set_cons_zero,List.set_cons_succ,i64_w,i32_w]; rfl
                           refine one_ (i := 12) (N := some 127) #[true,true,true,true,true,true,true,true,true,true,true,true,true,false,false] rfl rfl (one_of HT_.out (by kernel_rfl)) (by decide) (fun K hK => ?_); refine goes_ Tryd.func82 (by kernel_rfl) rfl #[.int .u8 (rd x0_3 x11_5),.int .u8 (rd x0_3 a1)] (by rfl) rfl rfl (by (try simp only [List.map_toArray,List.map_cons,List.map_nil]); first | done | rfl | (simp only [List.length_drop,List.length_take]; rfl)) ?_; with_reducible refine (cmp_Less_byte.calls (rd x0_3 x11_5) (rd x0_3 a1) true _ A72.out).mono ?_
                           rintro e w' ⟨rfl,⟨nd,rfl⟩⟩; refine ⟨_,rfl,?_⟩; refine hK.out _ _ ⟨hHeld.1,hHeld.2⟩ (fun hHeld => ?_); clear hK K; refine norm_ (a' := ?_) ?_ ?_; rotate_left
                           ·
                            show Act.put _ (some 127) _ = _
                            simp only [Act.put,List.setIfInBounds_toArray,List.set_cons_zero,List.set_cons_succ,i64_w,i32_w]; rfl
                           refine pure_ (i := 13) (N := some 128) (v := ?_) (a' := ?_) #[true,true,true,true,true,true,true,true,true,true,true,true,true,true,false] rfl rfl (any_of HT_.out (by kernel_rfl)) (fun _ _ _ h => h) (Or.inl ⟨by rfl,?_⟩) ?_ ?_; rotate_left
                           · intro w'; go_simp; with_reducible rfl
                           rotate_left
                           · simp only [Act.put,List.setIfInBounds_toArray,List.set_cons_zero,List.set_cons_succ,i64_w,i32_w]; rfl
                           refine pure_ (i := 14) (N := some 129) (v := ?_) (a' := ?_) #[true,true,true,true,true,true,true,true,true,true,true,true,true,true,true] rfl rfl (any_of HT_.out (by kernel_rfl)) (fun _ _ _ h => h) (Or.inl ⟨by rfl,?_⟩) ?_ ?_; rotate_left
                           · intro w'; go_simp; with_reducible rfl
                           rotate_left
                           · simp only [Act.put,List.setIfInBounds_toArray,List.set_cons_zero,List.set_cons_succ,i64_w,i32_w]; rfl
                           refine done_ (done_of HT_.out (by kernel_rfl)) ?_; try go_wp2
                           (try (rw [drewN_self w77]; generalize hq_ : World.drewN w77 _ = w77; have n0_ : Aside0 (BR w77 w0.heap.size (fun k_ => (P0_ k_ ∨ w.heap.size ≤ k_)) (.slice (some ⟨go9,0,none⟩) x0_3.length co13) x0_3) := ⟨by rw [← hq_]; exact (by (with_reducible repeat (first | apply BR_alloc | apply BR_drewN | apply BR_drew)); exact HO_0.out)⟩; have n1_ : Aside0 (Kept w w77 (fun k_ => P0_ k_)) := ⟨by rw [← hq_]; exact (by repeat (first | (with_reducible first | exact HK.out | apply Kept.alloc | apply Kept.drewN | apply Kept.drew) | exact HK.out))⟩; have n2_ : Aside0 (Below w0.heap.size w0 w77) := ⟨by rw [← hq_]; exact (by repeat (first | (with_reducible first | exact HB.out | apply below_alloc | apply pw_below_drewN | apply below_drew1) | exact HB.out))⟩; clear HO_0 HK HB hq_; have HO_0 := n0_; have HK := n1_; have HB := n2_; clear n0_ n1_ n2_))
                           have n0_ := Aside0.mk (BR_drew HO_0.out); have n1_ := Aside0.mk (Kept.drew HK.out); have n2_ := Aside0.mk (below_drew1 HB.out); clear HO_0; clear HK; clear HB; have HO_0 := n0_; have HK := n1_; have HB := n2_; clear n0_ n1_ n2_; have p125 : 0 ≤ (a1 : Int) := of_decide_eq_true (by first | (with_reducible assumption) | assumption); have q125 : a1 < (x0_3.length : Int) := of_decide_eq_true (by first | (with_reducible assumption) | assumption); obtain ⟨ad125,e125,hx125_0⟩ := Kd.at_int (BR_reads' HO_0.out).2.2 a1 p125 q125; obtain rfl : (⟨go9,0,none⟩ : Addr) = ad125 := (by injection e125)
                           (first | simp only [add_plain] at hx125_0 | simp only [add_at] at hx125_0 | simp only [Addr.add,Nat.zero_add] at hx125_0 | skip)
                           replace p125 := eq_true p125; replace q125 := eq_true q125; have p126 : 0 ≤ (x11_5 : Int) := of_decide_eq_true (by first | (with_reducible assumption) | assumption); have q126 : x11_5 < (x0_3.length : Int) := of_decide_eq_true (by first | (with_reducible assumption) | assumption); obtain ⟨ad126,e126,hx126_0⟩ := Kd.at_int (BR_reads' HO_0.out).2.2 x11_5 p126 q126; obtain rfl : (⟨go9,0,none⟩ : Addr) = ad126 := (by injection e126)
                           (first | simp only [add_plain] at hx126_0 | simp only [add_at] at hx126_0 | simp only [Addr.add,Nat.zero_add] at hx126_0 | skip)
                           replace p126 := eq_true p126; replace q126 := eq_true q126; have p75 : 0 ≤ (x11_5 : Int) := of_decide_eq_true (by first | (with_reducible assumption) | assumption); have q75 : (x11_5 : Int) < ((x0_3.length : Int) : Int) := of_decide_eq_true (by first | (with_reducible assumption) | assumption); obtain ⟨hx75_0,hf75_0⟩ := BR_celln 0 HO_0.out (x11_5 : Int) p75 q75; replace p75 := eq_true p75; replace q75 := eq_true q75; have HP79 := BR_putn HO_0.out (x11_5 : Int) (rd x0_3 a1); rw [← Ny127.out] at HP79; have HQ79 := Aside0.mk HP79; clear HP79; have p76 : 0 ≤ (a1 : Int) := of_decide_eq_true (by first | (with_reducible assumption) | assumption); have q76 : (a1 : Int) < ((x0_3.length : Int) : Int) := of_decide_eq_true (by first | (with_reducible assumption) | assumption); obtain ⟨hx76_0,hf76_0⟩ := BR_celln 0 HQ79.out (a1 : Int) p76 q76; replace p76 := eq_true p76; replace q76 := eq_true q76; have HP80 := BR_putn HQ79.out (a1 : Int) (rd x0_3 x11_5); rw [← Ny128.out] at HP80; have HQ80 := Aside0.mk HP80; clear HP80; refine start_ (n := 16) (S := fun w' => w'.cell? ⟨go9,(a1).toNat,none⟩ = some (.int .u8 (rd x0_3 a1)) ∧ w'.cell? ⟨go9,(x11_5).toNat,none⟩ = some (.int .u8 (rd x0_3 x11_5))) (ds := [13,15]) #[false,false,false,false,false,false,false,false,false,false,false,false,false,false,false,false] (by kernel_rfl) rfl rfl ⟨hx125_0,hx126_0⟩ (fun hHeld => ?_); refine with_tabW slices_partitionOrdered_byte.tab21 slices_partitionOrdered_byte.bits21 (fun HT_ HW_ => ?_)
                           generalize w77.drew = w78 at HO_0 HK HB HQ79 HQ80 hf75_0 hf76_0 hx125_0 hx126_0 hx75_0 hx76_0 hHeld ⊢; refine pure_ (i := 0) (N := some 153) (v := ?_) (a' := ?_) #[true,false,false,false,false,false,false,false,false,false,false,false,false,false,false,false] rfl rfl (any_of HT_.out (by kernel_rfl)) (fun _ _ _ h => h) (Or.inl ⟨by rfl,?_⟩) ?_ ?_; rotate_left
                           · intro w'; go_simp; with_reducible rfl
                           rotate_left
                           · simp only [Act.put,List.setIfInBounds_toArray,List.set_cons_zero,List.set_cons_succ,i64_w,i32_w]; rfl
                           refine pure_ (i := 1) (N := some 154) (v := ?_) (a' := ?_) #[true,true,false,false,false,false,false,false,false,false,false,false,false,false,false,false] rfl rfl (any_of HT_.out (by kernel_rfl)) (fun _ _ _ h => h) (Or.inl ⟨by rfl,?_⟩) ?_ ?_; rotate_left
                           · intro w'; go_simp; with_reducible rfl
                           rotate_left
                           · simp only [Act.put,List.setIfInBounds_toArray,List.set_cons_zero,List.set_cons_succ,i64_w,i32_w]; rfl
                           refine pure_ (i := 2) (N := some 155) (v := ?_) (a' := ?_) #[true,true,true,false,false,false,false,false,false,false,false,false,false,false,false,false] rfl rfl (any_of HT_.out (by kernel_rfl)) (fun _ _ _ h => h) (Or.inl ⟨by rfl,?_⟩) ?_ ?_; rotate_left
                           · intro w'; go_simp; with_reducible rfl
                           rotate_left
                           · simp only [Act.put,List.setIfInBounds_toArray,List.set_cons_zero,List.set_cons_succ,i64_w,i32_w]; rfl
                           refine pure_ (i := 3) (N := some 156) (v := ?_) (a' := ?_) #[true,true,true,true,false,false,false,false,false,false,false,false,false,false,false,false] rfl rfl (any_of HT_.out (by kernel_rfl)) (fun _ _ _ h => h) (Or.inl ⟨by rfl,?_⟩) ?_ ?_; rotate_left
                           · intro w'; go_simp; with_reducible rfl
                           rotate_left
                           · simp only [Act.put,List.setIfInBounds_toArray,List.set_cons_zero,List.set_cons_succ,i64_w,i32_w]; rfl
                           refine pure_ (i := 4) (N := some 157) (v := ?_) (a' := ?_) #[true,true,true,true,true,false,false,false,false,false,false,false,false,false,false,false] rfl rfl (any_of HT_.out (by kernel_rfl)) (fun _ _ _ h => h) (Or.inl ⟨by rfl,?_⟩) ?_ ?_; rotate_left
                           · intro w'; go_simp; with_reducible rfl
                           rotate_left
                           · simp only [Act.put,List.setIfInBounds_toArray,List.set_cons_zero,List.set_cons_succ,i64_w,i32_w]; rfl
                           refine pure_ (i := 5) (N := some 158) (v := ?_) (a' := ?_) #[true,true,true,true,true,true,false,false,false,false,false,false,false,false,false,false] rfl rfl (any_of HT_.out (by kernel_rfl)) (fun _ _ _ h => h) (Or.inl ⟨by rfl,?_⟩) ?_ ?_; rotate_left
                           · intro w'; go_simp; with_reducible rfl
                           rotate_left
                           · simp only [Act.put,List.setIfInBounds_toArray,List.set_cons_zero,List.set_cons_succ,i64_w,i32_w]; rfl
                           refine pure_ (i := 6) (N := some 159) (v := ?_) (a' := ?_) #[true,true,true,true,true,true,true,false,false,false,false,false,false,false,false,false] rfl rfl (any_of HT_.out (by kernel_rfl)) (fun _ _ _ h => h) (Or.inl ⟨by rfl,?_⟩) ?_ ?_; rotate_left
                           · intro w'; go_simp; with_reducible rfl
                           rotate_left
                           · simp only [Act.put,List.setIfInBounds_toArray,List.set_cons_zero,List.set_cons_succ,i64_w,i32_w]; rfl
                           refine pure_ (i := 8) (N := some 161) (v := ?_) (a' := ?_) #[true,true,true,true,true,true,true,false,true,false,false,false,false,false,false,false] rfl rfl (any_of HT_.out (by kernel_rfl)) (fun _ _ _ h => h) (Or.inl ⟨by rfl,?_⟩) ?_ ?_; rotate_left
                           · intro w'; go_simp; with_reducible rfl
                           rotate_left
                           · simp only [Act.put,List.setIfInBounds_toArray,List.set_cons_zero,List.set_cons_succ,i64_w,i32_w]; rfl
                           refine pure_ (i := 9) (N := some 162) (v := ?_) (a' := ?_) #[true,true,true,true,true,true,true,false,true,true,false,false,false,false,false,false] rfl rfl (any_of HT_.out (by kernel_rfl)) (fun _ _ _ h => h) (Or.inl ⟨by rfl,?_⟩) ?_ ?_; rotate_left
                           · intro w'; go_simp; with_reducible rfl
                           rotate_left
                           · simp only [Act.put,List.setIfInBounds_toArray,List.set_cons_zero,List.set_cons_succ,i64_w,i32_w]; rfl
                           refine pure_ (i := 10) (N := some 163) (v := ?_) (a' := ?_) #[true,true,true,true,true,true,true,false,true,true,true,false,false,false,false,false] rfl rfl (any_of HT_.out (by kernel_rfl)) (fun _ _ _ h => h) (Or.inl ⟨by rfl,?_⟩) ?_ ?_; rotate_left
                           · intro w'; go_simp; with_reducible rfl
                           rotate_left
                           · simp only [Act.put,List.setIfInBounds_toArray,List.set_cons_zero,List.set_cons_succ,i64_w,i32_w]; rfl
                           refine take_ (i := 7) (N := some 160) (v := ?_) (a' := ?_) #[true,true,true,true,true,true,true,true,true,true,true,false,false,false,false,false] rfl rfl (take_ofW HT_.out HW_.out (by kernel_rfl)) (fun _ _ _ h => h) (Or.inl ⟨by rfl,?_⟩) hHeld ?_ ?_; rotate_left
                           · rintro w' ⟨s0,s1⟩; go_simp; with_reducible rfl
                           rotate_left
                           · simp only [Act.put,List.setIfInBounds_toArray,List.set_cons_zero,List.set_cons_succ,i64_w,i32_w]; rfl
                           refine take_ (i := 11) (N := some 164) (v := ?_) (a' := ?_) #[true,true,true,true,true,true,true,true,true,true,true,true,false,false,false,false] rfl rfl (take_ofW HT_.out HW_.out (by kernel_rfl)) (fun _ _ _ h => h) (Or.inl ⟨by rfl,?_⟩) hHeld ?_ ?_; rotate_left
                           · rintro w' ⟨s0,s1⟩; go_simp; with_reducible rfl
                           rotate_left
                           · simp only [Act.put,List.setIfInBounds_toArray,List.set_cons_zero,List.set_cons_succ,i64_w,i32_w]; rfl
                           refine pure_ (i := 12) (N := some 165) (v := ?_) (a' := ?_) #[true,true,true,true,true,true,true,true,true,true,true,true,true,false,false,false] rfl rfl (any_of HT_.out (by kernel_rfl)) (fun _ _ _ h => h) (Or.inl ⟨by rfl,?_⟩) ?_ ?_; rotate_left
                           · intro w'; go_simp; with_reducible rfl
                           rotate_left
                           · simp only [Act.put,List.setIfInBounds_toArray,List.set_cons_zero,List.set_cons_succ,i64_w,i32_w]; rfl
                           refine last_ (i := 13) (N := none) #[true,true,true,true,true,true,true,true,true,true,true,true,true,true,false,false] rfl rfl (one_of HT_.out (by kernel_rfl)) (by decide) (fun K hK => ?_); refine skip_ (w1 := ?_) (by rfl) rfl ?_ ?_; rotate_left
                           · go_simp; rfl
                           refine hK.out _ _ ?_; clear hK K; refine pure_ (i := 14) (N := some 166) (v := ?_) (a' := ?_) #[true,true,true,true,true,true,true,true,true,true,true,true,true,true,true,false] rfl rfl (any_of HT_.out (by kernel_rfl)) (fun _ _ _ h => h) (Or.inl ⟨by rfl,?_⟩) ?_ ?_; rotate_left
                           · intro w'; go_simp; with_reducible rfl
                           rotate_left
                           · simp only [Act.put,List.setIfInBounds_toArray,List.set_cons_zero,List.set_cons_succ,i64_w,i32_w]; rfl
                           refine last_ (i := 15) (N := none) #[true,true,true,true,true,true,true,true,true,true,true,true,true,true,true,true] rfl rfl (one_of HT_.out (by kernel_rfl)) (by decide) (fun K hK => ?_); refine skip_ (w1 := ?_) (by rfl) rfl ?_ ?_; rotate_left
                           · go_simp; rfl
                           refine hK.out _ _ ?_; clear hK K; refine done_ (done_of HT_.out (by kernel_rfl)) ?_; try go_wp2
                           go_ret2
                           exact ⟨by first | rfl | (simp [errW_none,errW_some] <;> rfl) | (simp [*,errW_none,errW_some] <;> rfl),(by first | exact (by (with_reducible repeat (first | apply BR_alloc | apply BR_drewN | apply BR_drew)); exact HQ80.out) | (simp only [hl0_10,hl0_3]; exact (by (with_reducible repeat (first | apply BR_alloc | apply BR_drewN | apply BR_drew)); exact HQ80.out))),by repeat (first | (with_reducible first | exact HB.out | apply below_alloc | apply pw_below_drewN | apply below_drew1 | refine below_set ?_ GB9.out | refine below_set ?_ GB9.out) | exact HB.out),by repeat (first | (with_reducible first | exact HK.out | apply Kept.alloc | apply Kept.drewN | apply Kept.drew | refine Kept.setCell ?_ HMgo9.out _ | refine Kept.setCell ?_ HMgo9.out _) | exact HK.out)⟩
                          ·
                           rw [if_neg c74] at H; have c74b0 : decide (x11_5 < x10_55) = false := decide_eq_false c74; clear c74
                           by_cases c81 : 0 ≤ x10_55
                           ·
                            rw [if_pos c81] at H; have c81b0 : decide (0 ≤ x10_55) = true := decide_eq_true c81; clear c81
                            by_cases c82 : x10_55 < (x0_3.length : Int)
                            ·
                             rw [if_pos c82] at H; have c82b0 : decide (x10_55 < (x0_3.length : Int)) = true := decide_eq_true c82
                             (try (have c82b0_ := c82b0; rw [hl0_10] at c82b0_))
                             (try (have c82b0_ := c82b0; rw [hl0_3] at c82b0_))
                             clear c82; obtain ⟨y131,hy131⟩ : ∃ y_ : List Int,y_ = (x0_3.set (x10_55 : Int).toNat (rd x0_3 x11_5)) := ⟨_,rfl⟩; replace H : (slices_partitionOrdered_byte.l2 k5 (y131.set (x11_5 : Int).toNat (rd x0_3 x10_55)) a1 (wrap64 (x10_55 + 1)) (wrap64 (x11_5 - 1))) = some (r1,r2,r3) := by first | (rw [hy131]; with_reducible exact H) | (have H2_ := (Option.bind_some _ _).symm.trans H; rw [hy131]; with_reducible exact H2_) | (have H2_ := (Option.bind_some _ _).symm.trans H; with_reducible exact H2_) | with_reducible exact H | (rw [hy131]; exact H) | exact H
                             have Ny131 := Aside0.mk hy131; clear hy131; obtain ⟨y132,hy132⟩ : ∃ y_ : List Int,y_ = (y131.set (x11_5 : Int).toNat (rd x0_3 x10_55)) := ⟨_,rfl⟩; replace H : (slices_partitionOrdered_byte.l2 k5 y132 a1 (wrap64 (x10_55 + 1)) (wrap64 (x11_5 - 1))) = some (r1,r2,r3) := by first | (rw [hy132]; with_reducible exact H) | (have H2_ := (Option.bind_some _ _).symm.trans H; rw [hy132]; with_reducible exact H2_) | (have H2_ := (Option.bind_some _ _).symm.trans H; with_reducible exact H2_) | with_reducible exact H | (rw [hy132]; exact H) | exact H
                             have Ny132 := Aside0.mk hy132; clear hy132; have H' := Aside0.mk H; clear H; try go_wp2
                             have n0_ := Aside0.mk (BR_drew HO_0.out); have n1_ := Aside0.mk (Kept.drew HK.out); have n2_ := Aside0.mk (below_drew1 HB.out); clear HO_0; clear HK; clear HB; have HO_0 := n0_; have HK := n1_; have HB := n2_; clear n0_ n1_ n2_; have p122 : 0 ≤ (x11_5 : Int) := of_decide_eq_true (by first | (with_reducible assumption) | assumption); have q122 : x11_5 < (x0_3.length : Int) := of_decide_eq_true (by first | (with_reducible assumption) | assumption); obtain ⟨ad122,e122,hx122_0⟩ := Kd.at_int (BR_reads' HO_0.out).2.2 x11_5 p122 q122; obtain rfl : (⟨go9,0,none⟩ : Addr) = ad122 := (by injection e122)
                             (first | simp only [add_plain] at hx122_0 | simp only [add_at] at hx122_0 | simp only [Addr.add,Nat.zero_add] at hx122_0 | skip)
                             replace p122 := eq_true p122; replace q122 := eq_true q122; have p123 : 0 ≤ (a1 : Int) := of_decide_eq_true (by first | (with_reducible assumption) | assumption); have q123 : a1 < (x0_3.length : Int) := of_decide_eq_true (by first | (with_reducible assumption) | assumption); obtain ⟨ad123,e123,hx123_0⟩ := Kd.at_int (BR_reads' HO_0.out).2.2 a1 p123 q123; obtain rfl : (⟨go9,0,none⟩ : Addr) = ad123 := (by injection e123)
                             (first | simp only [add_plain] at hx123_0 | simp only [add_at] at hx123_0 | simp only [Addr.add,Nat.zero_add] at hx123_0 | skip)
                             replace p123 := eq_true p123; replace q123 := eq_true q123; refine start_ (n := 15) (S := fun w' => w'.cell? ⟨go9,(x11_5).toNat,none⟩ = some (.int .u8 (rd x0_3 x11_5)) ∧ w'.cell? ⟨go9,(a1).toNat,none⟩ = some (.int .u8 (rd x0_3 a1))) (ds := []) #[false,false,false,false,false,false,false,false,false,false,false,false,false,false,false] (by kernel_rfl) rfl rfl ⟨hx122_0,hx123_0⟩ (fun hHeld => ?_); refine with_tabW slices_partitionOrdered_byte.tab15 slices_partitionOrdered_byte.bits15 (fun HT_ HW_ => ?_)
                             generalize wr.drew = w85 at HO_0 HK HB hx122_0 hx123_0 hHeld ⊢; refine pure_ (i := 0) (N := some 115) (v := ?_) (a' := ?_) #[true,false,false,false,false,false,false,false,false,false,false,false,false,false,false] rfl rfl (any_of HT_.out (by kernel_rfl)) (fun _ _ _ h => h) (Or.inl ⟨by rfl,?_⟩) ?_ ?_; rotate_left
                             · intro w'; go_simp; with_reducible rfl
                             rotate_left
                             · simp only [Act.put,List.setIfInBounds_toArray,List.set_cons_zero,List.set_cons_succ,i64_w,i32_w]; rfl
                             refine pure_ (i := 1) (N := some 116) (v := ?_) (a' := ?_) #[true,true,false,false,false,false,false,false,false,false,false,false,false,false,false] rfl rfl (any_of HT_.out (by kernel_rfl)) (fun _ _ _ h => h) (Or.inl ⟨by rfl,?_⟩) ?_ ?_; rotate_left
                             · intro w'; go_simp; with_reducible rfl
                             rotate_left
                             · simp only [Act.put,List.setIfInBounds_toArray,List.set_cons_zero,List.set_cons_succ,i64_w,i32_w]; rfl
                             refine pure_ (i := 2) (N := some 117) (v := ?_) (a' := ?_) #[true,true,true,false,false,false,false,false,false,false,false,false,false,false,false] rfl rfl (any_of HT_.out (by kernel_rfl)) (fun _ _ _ h => h) (Or.inl ⟨by rfl,?_⟩) ?_ ?_; rotate_left
                             · intro w'; go_simp; with_reducible rfl
                             rotate_left
                             · simp only [Act.put,List.setIfInBounds_toArray,List.set_cons_zero,List.set_cons_succ,i64_w,i32_w]; rfl
                             refine pure_ (i := 3) (N := some 118) (v := ?_) (a' := ?_) #[true,true,true,true,false,false,false,false,false,false,false,false,false,false,false] rfl rfl (any_of HT_.out (by kernel_rfl)) (fun _ _ _ h => h) (Or.inl ⟨by rfl,?_⟩) ?_ ?_; rotate_left
                             · intro w'; go_simp; with_reducible rfl
                             rotate_left
                             · simp only [Act.put,List.setIfInBounds_toArray,List.set_cons_zero,List.set_cons_succ,i64_w,i32_w]; rfl
                             refine pure_ (i := 4) (N := some 119) (v := ?_) (a' := ?_) #[true,true,true,true,true,false,false,false,false,false,false,false,false,false,false] rfl rfl (any_of HT_.out (by kernel_rfl)) (fun _ _ _ h => h) (Or.inl ⟨by rfl,?_⟩) ?_ ?_; rotate_left
                             · intro w'; go_simp; with_reducible rfl
                             rotate_left
                             · simp only [Act.put,List.setIfInBounds_toArray,List.set_cons_zero,List.set_cons_succ,i64_w,i32_w]; rfl
                             refine pure_ (i := 5) (N := some 120) (v := ?_) (a' := ?_) #[true,true,true,true,true,true,false,false,false,false,false,false,false,false,false] rfl rfl (any_of HT_.out (by kernel_rfl)) (fun _ _ _ h => h) (Or.inl ⟨by rfl,?_⟩) ?_ ?_; rotate_left
                             · intro w'; go_simp; with_reducible rfl
                             rotate_left
                             · simp only [Act.put,List.setIfInBounds_toArray,List.set_cons_zero,List.set_cons_succ,i64_w,i32_w]; rfl
                             refine pure_ (i := 6) (N := some 121) (v := ?_) (a' := ?_) #[true,true,true,true,true,true,true,false,false,false,false,false,false,false,false] rfl rfl (any_of HT_.out (by kernel_rfl)) (fun _ _ _ h => h) (Or.inl ⟨by rfl,?_⟩) ?_ ?_; rotate_left
                             · intro w'; go_simp; with_reducible rfl
                             rotate_left
                             · simp only [Act.put,List.setIfInBounds_toArray,List.set_cons_zero,List.set_cons_succ,i64_w,i32_w]; rfl
                             refine pure_ (i := 8) (N := some 123) (v := ?_) (a' := ?_) #[true,true,true,true,true,true,true,false,true,false,false,false,false,false,false] rfl rfl (any_of HT_.out (by kernel_rfl)) (fun _ _ _ h => h) (Or.inl ⟨by rfl,?_⟩) ?_ ?_; rotate_left
                             · intro w'; go_simp; with_reducible rfl
                             rotate_left
                             · simp only [Act.put,List.setIfInBounds_toArray,List.set_cons_zero,List.set_cons_succ,i64_w,i32_w]; rfl
                             refine pure_ (i := 9) (N := some 124) (v := ?_) (a' := ?_) #[true,true,true,true,true,true,true,false,true,true,false,false,false,false,false] rfl rfl (any_of HT_.out (by kernel_rfl)) (fun _ _ _ h => h) (Or.inl ⟨by rfl,?_⟩) ?_ ?_; rotate_left
                             · intro w'; go_simp; with_reducible rfl
                             rotate_left
                             · simp only [Act.put,List.setIfInBounds_toArray,List.set_cons_zero,List.set_cons_succ,i64_w,i32_w]; rfl
                             refine pure_ (i := 10) (N := some 125) (v := ?_) (a' := ?_) #[true,true,true,true,true,true,true,false,true,true,true,false,false,false,false] rfl rfl (any_of HT_.out (by kernel_rfl)) (fun _ _ _ h => h) (Or.inl ⟨by rfl,?_⟩) ?_ ?_; rotate_left
                             · intro w'; go_simp; with_reducible rfl
                             rotate_left
                             · simp only [Act.put,List.setIfInBounds_toArray,List.set_cons_zero,List.set_cons_succ,i64_w,i32_w]; rfl
                             refine take_ (i := 7) (N := some 122) (v := ?_) (a' := ?_) #[true,true,true,true,true,true,true,true,true,true,true,false,false,false,false] rfl rfl (take_ofW HT_.out HW_.out (by kernel_rfl)) (fun _ _ _ h => h) (Or.inl ⟨by rfl,?_⟩) hHeld ?_ ?_; rotate_left
                             · rintro w' ⟨s0,s1⟩; go_simp; with_reducible rfl
                             rotate_left
                             · simp only [Act.put,List.setIfInBounds_toArray,List.set_cons_zero,List.set_cons_succ,i64_w,i32_w]; rfl
                             refine take_ (i := 11) (N := some 126) (v := ?_) (a' := ?_) #[true,true,true,true,true,true,true,true,true,true,true,true,false,false,false] rfl rfl (take_ofW HT_.out HW_.out (by kernel_rfl)) (fun _ _ _ h => h) (Or.inl ⟨by rfl,?_⟩) hHeld ?_ ?_; rotate_left
                             · rintro w' ⟨s0,s1⟩; go_simp; with_reducible rfl
                             rotate_left
                             · simp only [Act.put,List.setIfInBounds_toArray,List.set_cons_zero,List.set_cons_succ,i64_w,i32_w]; rfl
                             refine one_ (i := 12) (N := some 127) #[true,true,true,true,true,true,true,true,true,true,true,true,true,false,false] rfl rfl (one_of HT_.out (by kernel_rfl)) (by decide) (fun K hK => ?_); refine goes_ Tryd.func82 (by kernel_rfl) rfl #[.int .u8 (rd x0_3 x11_5),.int .u8 (rd x0_3 a1)] (by rfl) rfl rfl (by (try simp only [List.map_toArray,List.map_cons,List.map_nil]); first | done | rfl | (simp only [List.length_drop,List.length_take]; rfl)) ?_; with_reducible refine (cmp_Less_byte.calls (rd x0_3 x11_5) (rd x0_3 a1) true _ A72.out).mono ?_
                             rintro e w' ⟨rfl,⟨nd,rfl⟩⟩; refine ⟨_,rfl,?_⟩; refine hK.out _ _ ⟨hHeld.1,hHeld.2⟩ (fun hHeld => ?_); clear hK K; refine norm_ (a' := ?_) ?_ ?_; rotate_left
                             ·
                              show Act.put _ (some 127) _ = _
                              simp only [Act.put,List.setIfInBounds_toArray,List.set_cons_zero,List.set_cons_succ,i64_w,i32_w]; rfl
                             refine pure_ (i := 13) (N := some 128) (v := ?_) (a' := ?_) #[true,true,true,true,true,true,true,true,true,true,true,true,true,true,false] rfl rfl (any_of HT_.out (by kernel_rfl)) (fun _ _ _ h => h) (Or.inl ⟨by rfl,?_⟩) ?_ ?_; rotate_left
                             · intro w'; go_simp; with_reducible rfl
                             rotate_left
                             · simp only [Act.put,List.setIfInBounds_toArray,List.set_cons_zero,List.set_cons_succ,i64_w,i32_w]; rfl
                             refine pure_ (i := 14) (N := some 129) (v := ?_) (a' := ?_) #[true,true,true,true,true,true,true,true,true,true,true,true,true,true,true] rfl rfl (any_of HT_.out (by kernel_rfl)) (fun _ _ _ h => h) (Or.inl ⟨by rfl,?_⟩) ?_ ?_; rotate_left
                             · intro w'; go_simp; with_reducible rfl
                             rotate_left
                             · simp only [Act.put,List.setIfInBounds_toArray,List.set_cons_zero,List.set_cons_succ,i64_w,i32_w]; rfl
                             refine done_ (done_of HT_.out (by kernel_rfl)) ?_; try go_wp2
                             (try (rw [drewN_self w85]; generalize hq_ : World.drewN w85 _ = w85; have n0_ : Aside0 (BR w85 w0.heap.size (fun k_ => (P0_ k_ ∨ w.heap.size ≤ k_)) (.slice (some ⟨go9,0,none⟩) x0_3.length co13) x0_3) := ⟨by rw [← hq_]; exact (by (with_reducible repeat (first | apply BR_alloc | apply BR_drewN | apply BR_drew)); exact HO_0.out)⟩; have n1_ : Aside0 (Kept w w85 (fun k_ => P0_ k_)) := ⟨by rw [← hq_]; exact (by repeat (first | (with_reducible first | exact HK.out | apply Kept.alloc | apply Kept.drewN | apply Kept.drew) | exact HK.out))⟩; have n2_ : Aside0 (Below w0.heap.size w0 w85) := ⟨by rw [← hq_]; exact (by repeat (first | (with_reducible first | exact HB.out | apply below_alloc | apply pw_below_drewN | apply below_drew1) | exact HB.out))⟩; clear HO_0 HK HB hq_; have HO_0 := n0_; have HK := n1_; have HB := n2_; clear n0_ n1_ n2_))
                             have n0_ := Aside0.mk (BR_drew HO_0.out); have n1_ := Aside0.mk (Kept.drew HK.out); have n2_ := Aside0.mk (below_drew1 HB.out); clear HO_0; clear HK; clear HB; have HO_0 := n0_; have HK := n1_; have HB := n2_; clear n0_ n1_ n2_; have p129 : 0 ≤ (x11_5 : Int) := of_decide_eq_true (by first | (with_reducible assumption) | assumption); have q129 : x11_5 < (x0_3.length : Int) := of_decide_eq_true (by first | (with_reducible assumption) | assumption); obtain ⟨ad129,e129,hx129_0⟩ := Kd.at_int (BR_reads' HO_0.out).2.2 x11_5 p129 q129; obtain rfl : (⟨go9,0,none⟩ : Addr) = ad129 := (by injection e129)
                             (first | simp only [add_plain] at hx129_0 | simp only [add_at] at hx129_0 | simp only [Addr.add,Nat.zero_add] at hx129_0 | skip)
                             replace p129 := eq_true p129; replace q129 := eq_true q129; have p130 : 0 ≤ (x10_55 : Int) := of_decide_eq_true (by first | (with_reducible assumption) | assumption); have q130 : x10_55 < (x0_3.length : Int) := of_decide_eq_true (by first | (with_reducible assumption) | assumption); obtain ⟨ad130,e130,hx130_0⟩ := Kd.at_int (BR_reads' HO_0.out).2.2 x10_55 p130 q130; obtain rfl : (⟨go9,0,none⟩ : Addr) = ad130 := (by injection e130)
                             (first | simp only [add_plain] at hx130_0 | simp only [add_at] at hx130_0 | simp only [Addr.add,Nat.zero_add] at hx130_0 | skip)
                             replace p130 := eq_true p130; replace q130 := eq_true q130; have p83 : 0 ≤ (x10_55 : Int) := of_decide_eq_true (by first | (with_reducible assumption) | assumption); have q83 : (x10_55 : Int) < ((x0_3.length : Int) : Int) := of_decide_eq_true (by first | (with_reducible assumption) | assumption); obtain ⟨hx83_0,hf83_0⟩ := BR_celln 0 HO_0.out (x10_55 : Int) p83 q83; replace p83 := eq_true p83; replace q83 := eq_true q83; have HP87 := BR_putn HO_0.out (x10_55 : Int) (rd x0_3 x11_5); rw [← Ny131.out] at HP87; have HQ87 := Aside0.mk HP87; clear HP87; have p84 : 0 ≤ (x11_5 : Int) := of_decide_eq_true (by first | (with_reducible assumption) | assumption); have q84 : (x11_5 : Int) < ((x0_3.length : Int) : Int) := of_decide_eq_true (by first | (with_reducible assumption) | assumption); obtain ⟨hx84_0,hf84_0⟩ := BR_celln 0 HQ87.out (x11_5 : Int) p84 q84; replace p84 := eq_true p84; replace q84 := eq_true q84; have HP88 := BR_putn HQ87.out (x11_5 : Int) (rd x0_3 x10_55); rw [← Ny132.out] at HP88; have HQ88 := Aside0.mk HP88; clear HP88; refine start_ (n := 16) (S := fun w' => w'.cell? ⟨go9,(x11_5).toNat,none⟩ = some (.int .u8 (rd x0_3 x11_5)) ∧ w'.cell? ⟨go9,(x10_55).toNat,none⟩ = some (.int .u8 (rd x0_3 x10_55))) (ds := [13,15]) #[false,false,false,false,false,false,false,false,false,false,false,false,false,false,false,false] (by kernel_rfl) rfl rfl ⟨hx129_0,hx130_0⟩ (fun hHeld => ?_); refine with_tabW slices_partitionOrdered_byte.tab18 slices_partitionOrdered_byte.bits18 (fun HT_ HW_ => ?_)
                             generalize w85.drew = w86 at HO_0 HK HB HQ87 HQ88 hf83_0 hf84_0 hx129_0 hx130_0 hx83_0 hx84_0 hHeld ⊢; refine pure_ (i := 0) (N := some 135) (v := ?_) (a' := ?_) #[true,false,false,false,false,false,false,false,false,false,false,false,false,false,false,false] rfl rfl (any_of HT_.out (by kernel_rfl)) (fun _ _ _ h => h) (Or.inl ⟨by rfl,?_⟩) ?_ ?_; rotate_left
                             · intro w'; go_simp; with_reducible rfl
                             rotate_left
                             · simp only [Act.put,List.setIfInBounds_toArray,List.set_cons_zero,List.set_cons_succ,i64_w,i32_w]; rfl
                             refine pure_ (i := 1) (N := some 136) (v := ?_) (a' := ?_) #[true,true,false,false,false,false,false,false,false,false,false,false,false,false,false,false] rfl rfl (any_of HT_.out (by kernel_rfl)) (fun _ _ _ h => h) (Or.inl ⟨by rfl,?_⟩) ?_ ?_; rotate_left
                             · intro w'; go_simp; with_reducible rfl
                             rotate_left
                             · simp only [Act.put,List.setIfInBounds_toArray,List.set_cons_zero,List.set_cons_succ,i64_w,i32_w]; rfl
                             refine pure_ (i := 2) (N := some 137) (v := ?_) (a' := ?_) #[true,true,true,false,false,false,false,false,false,false,false,false,false,false,false,false] rfl rfl (any_of HT_.out (by kernel_rfl)) (fun _ _ _ h => h) (Or.inl ⟨by rfl,?_⟩) ?_ ?_; rotate_left
                             · intro w'; go_simp; with_reducible rfl
                             rotate_left
                             · simp only [Act.put,List.setIfInBounds_toArray,List.set_cons_zero,List.set_cons_succ,i64_w,i32_w]; rfl
                             refine pure_ (i := 3) (N := some 138) (v := ?_) (a' := ?_) #[true,true,true,true,false,false,false,false,false,false,false,false,false,false,false,false] rfl rfl (any_of HT_.out (by kernel_rfl)) (fun _ _ _ h => h) (Or.inl ⟨by rfl,?_⟩) ?_ ?_; rotate_left
                             · intro w'; go_simp; with_reducible rfl
                             rotate_left
                             · simp only [Act.put,List.setIfInBounds_toArray,List.set_cons_zero,List.set_cons_succ,i64_w,i32_w]; rfl
                             refine pure_ (i := 4) (N := some 139) (v := ?_) (a' := ?_) #[true,true,true,true,true,false,false,false,false,false,false,false,false,false,false,false] rfl rfl (any_of HT_.out (by kernel_rfl)) (fun _ _ _ h => h) (Or.inl ⟨by rfl,?_⟩) ?_ ?_; rotate_left
                             · intro w'; go_simp; with_reducible rfl
                             rotate_left
                             · simp only [Act.put,List.setIfInBounds_toArray,List.set_cons_zero,List.set_cons_succ,i64_w,i32_w]; rfl
                             refine pure_ (i := 5) (N := some 140) (v := ?_) (a' := ?_) #[true,true,true,true,true,true,false,false,false,false,false,false,false,false,false,false] rfl rfl (any_of HT_.out (by kernel_rfl)) (fun _ _ _ h => h) (Or.inl ⟨by rfl,?_⟩) ?_ ?_; rotate_left
                             · intro w'; go_simp; with_reducible rfl
                             rotate_left
                             · simp only [Act.put,List.setIfInBounds_toArray,List.set_cons_zero,List.set_cons_succ,i64_w,i32_w]; rfl
                             refine pure_ (i := 6) (N := some 141) (v := ?_) (a' := ?_) #[true,true,true,true,true,true,true,false,false,false,false,false,false,false,false,false] rfl rfl (any_of HT_.out (by kernel_rfl)) (fun _ _ _ h => h) (Or.inl ⟨by rfl,?_⟩) ?_ ?_; rotate_left
                             · intro w'; go_simp; with_reducible rfl
                             rotate_left
                             · simp only [Act.put,List.setIfInBounds_toArray,List.set_cons_zero,List.set_cons_succ,i64_w,i32_w]; rfl
                             refine pure_ (i := 8) (N := some 143) (v := ?_) (a' := ?_) #[true,true,true,true,true,true,true,false,true,false,false,false,false,false,false,false] rfl rfl (any_of HT_.out (by kernel_rfl)) (fun _ _ _ h => h) (Or.inl ⟨by rfl,?_⟩) ?_ ?_; rotate_left
                             · intro w'; go_simp; with_reducible rfl
                             rotate_left
                             · simp only [Act.put,List.setIfInBounds_toArray,List.set_cons_zero,List.set_cons_succ,i64_w,i32_w]; rfl
                             refine pure_ (i := 9) (N := some 144) (v := ?_) (a' := ?_) #[true,true,true,true,true,true,true,false,true,true,false,false,false,false,false,false] rfl rfl (any_of HT_.out (by kernel_rfl)) (fun _ _ _ h => h) (Or.inl ⟨by rfl,?_⟩) ?_ ?_; rotate_left
                             · intro w'; go_simp; with_reducible rfl
                             rotate_left
                             · simp only [Act.put,List.setIfInBounds_toArray,List.set_cons_zero,List.set_cons_succ,i64_w,i32_w]; rfl
                             refine pure_ (i := 10) (N := some 145) (v := ?_) (a' := ?_) #[true,true,true,true,true,true,true,false,true,true,true,false,false,false,false,false] rfl rfl (any_of HT_.out (by kernel_rfl)) (fun _ _ _ h => h) (Or.inl ⟨by rfl,?_⟩) ?_ ?_; rotate_left
                             · intro w'; go_simp; with_reducible rfl
                             rotate_left
                             · simp only [Act.put,List.setIfInBounds_toArray,List.set_cons_zero,List.set_cons_succ,i64_w,i32_w]; rfl
                             refine take_ (i := 7) (N := some 142) (v := ?_) (a' := ?_) #[true,true,true,true,true,true,true,true,true,true,true,false,false,false,false,false] rfl rfl (take_ofW HT_.out HW_.out (by kernel_rfl)) (fun _ _ _ h => h) (Or.inl ⟨by rfl,?_⟩) hHeld ?_ ?_; rotate_left
                             · rintro w' ⟨s0,s1⟩; go_simp; with_reducible rfl
                             rotate_left
                             · simp only [Act.put,List.setIfInBounds_toArray,List.set_cons_zero,List.set_cons_succ,i64_w,i32_w]; rfl
                             refine take_ (i := 11) (N := some 146) (v := ?_) (a' := ?_) #[true,true,true,true,true,true,true,true,true,true,true,true,false,false,false,false] rfl rfl (take_ofW HT_.out HW_.out (by kernel_rfl)) (fun _ _ _ h => h) (Or.inl ⟨by rfl,?_⟩) hHeld ?_ ?_; rotate_left
                             · rintro w' ⟨s0,s1⟩; go_simp; with_reducible rfl
                             rotate_left
                             · simp only [Act.put,List.setIfInBounds_toArray,List.set_cons_zero,List.set_cons_succ,i64_w,i32_w]; rfl
                             refine pure_ (i := 12) (N := some 147) (v := ?_) (a' := ?_) #[true,true,true,true,true,true,true,true,true,true,true,true,true,false,false,false] rfl rfl (any_of HT_.out (by kernel_rfl)) (fun _ _ _ h => h) (Or.inl ⟨by rfl,?_⟩) ?_ ?_; rotate_left
                             · intro w'; go_simp; with_reducible rfl
                             rotate_left
                             · simp only [Act.put,List.setIfInBounds_toArray,List.set_cons_zero,List.set_cons_succ,i64_w,i32_w]; rfl
                             refine last_ (i := 13) (N := none) #[true,true,true,true,true,true,true,true,true,true,true,true,true,true,false,false] rfl rfl (one_of HT_.out (by kernel_rfl)) (by decide) (fun K hK => ?_); refine skip_ (w1 := ?_) (by rfl) rfl ?_ ?_; rotate_left
                             · go_simp; rfl
                             refine hK.out _ _ ?_; clear hK K; refine pure_ (i := 14) (N := some 148) (v := ?_) (a' := ?_) #[true,true,true,true,true,true,true,true,true,true,true,true,true,true,true,false] rfl rfl (any_of HT_.out (by kernel_rfl)) (fun _ _ _ h => h) (Or.inl ⟨by rfl,?_⟩) ?_ ?_; rotate_left
                             · intro w'; go_simp; with_reducible rfl
                             rotate_left
                             · simp only [Act.put,List.setIfInBounds_toArray,List.set_cons_zero,List.set_cons_succ,i64_w,i32_w]; rfl
                             refine last_ (i := 15) (N := none) #[true,true,true,true,true,true,true,true,true,true,true,true,true,true,true,true] rfl rfl (one_of HT_.out (by kernel_rfl)) (by decide) (fun K hK => ?_); refine skip_ (w1 := ?_) (by rfl) rfl ?_ ?_; rotate_left
                             · go_simp; rfl
                             refine hK.out _ _ ?_; clear hK K; refine done_ (done_of HT_.out (by kernel_rfl)) ?_; try go_wp2
                             (try simp only [← hl0_3])
                             go_roundg k5
                             case measure => have := HJ10.out; have := HJ25.out; have := HK3.out; have := HJ55.out; have := HK5.out; omega
                             case rel => exact ⟨(y132),(wrap64 (x10_55 + 1)),(wrap64 (x11_5 - 1)),(by first | rfl | (simp; done) | (simp [*]; done)),(by first | rfl | (simp; done) | (simp [*]; done)),H',⟨by have := HJ10.out; have := HJ25.out; have := HK3.out; have := HJ55.out; have := HK5.out; omega⟩,⟨by (try simp only [hl0_10]); (try simp only [hl0_3]); (with_reducible repeat (first | apply BR_alloc | apply BR_drewN | apply BR_drew)); exact HQ88.out⟩,⟨by repeat (first | (with_reducible first | exact HK.out | apply Kept.alloc | apply Kept.drewN | apply Kept.drew | refine Kept.setCell ?_ HMgo9.out _ | refine Kept.setCell ?_ HMgo9.out _) | exact HK.out)⟩,⟨by repeat (first | (with_reducible first | exact HB.out | apply below_alloc | apply pw_below_drewN | apply below_drew1 | refine below_set ?_ GB9.out | refine below_set ?_ GB9.out) | exact HB.out)⟩⟩
                            · rw [if_neg c82] at H; exact absurd H (by simp)
                           · rw [if_neg c81] at H; exact absurd H (by simp)
                         ·
                          replace c73 := Bool.eq_false_iff.mpr c73; subst c73; have H1 : (slices_partitionOrdered_byte.l4 k5 x0_3 a1 x10_55 (wrap64 (x11_5 - 1))) = some (r1,r2,r3) := by rw [if_neg (show ¬ (false = true) by decide)] at H; exact H
                          clear H; have H := H1; clear H1; have H' := Aside0.mk H; clear H; try go_wp2
                          have n0_ := Aside0.mk (BR_drew HO_0.out); have n1_ := Aside0.mk (Kept.drew HK.out); have n2_ := Aside0.mk (below_drew1 HB.out); clear HO_0; clear HK; clear HB; have HO_0 := n0_; have HK := n1_; have HB := n2_; clear n0_ n1_ n2_; have p122 : 0 ≤ (x11_5 : Int) := of_decide_eq_true (by first | (with_reducible assumption) | assumption); have q122 : x11_5 < (x0_3.length : Int) := of_decide_eq_true (by first | (with_reducible assumption) | assumption); obtain ⟨ad122,e122,hx122_0⟩ := Kd.at_int (BR_reads' HO_0.out).2.2 x11_5 p122 q122; obtain rfl : (⟨go9,0,none⟩ : Addr) = ad122 := (by injection e122)
                          (first | simp only [add_plain] at hx122_0 | simp only [add_at] at hx122_0 | simp only [Addr.add,Nat.zero_add] at hx122_0 | skip)
                          replace p122 := eq_true p122; replace q122 := eq_true q122; have p123 : 0 ≤ (a1 : Int) := of_decide_eq_true (by first | (with_reducible assumption) | assumption); have q123 : a1 < (x0_3.length : Int) := of_decide_eq_true (by first | (with_reducible assumption) | assumption); obtain ⟨ad123,e123,hx123_0⟩ := Kd.at_int (BR_reads' HO_0.out).2.2 a1 p123 q123; obtain rfl : (⟨go9,0,none⟩ : Addr) = ad123 := (by injection e123)
                          (first | simp only [add_plain] at hx123_0 | simp only [add_at] at hx123_0 | simp only [Addr.add,Nat.zero_add] at hx123_0 | skip)
                          replace p123 := eq_true p123; replace q123 := eq_true q123; refine start_ (n := 15) (S := fun w' => w'.cell? ⟨go9,(x11_5).toNat,none⟩ = some (.int .u8 (rd x0_3 x11_5)) ∧ w'.cell? ⟨go9,(a1).toNat,none⟩ = some (.int .u8 (rd x0_3 a1))) (ds := []) #[false,false,false,false,false,false,false,false,false,false,false,false,false,false,false] (by kernel_rfl) rfl rfl ⟨hx122_0,hx123_0⟩ (fun hHeld => ?_); refine with_tabW slices_partitionOrdered_byte.tab15 slices_partitionOrdered_byte.bits15 (fun HT_ HW_ => ?_)
                          generalize wr.drew = w89 at HO_0 HK HB hx122_0 hx123_0 hHeld ⊢; refine pure_ (i := 0) (N := some 115) (v := ?_) (a' := ?_) #[true,false,false,false,false,false,false,false,false,false,false,false,false,false,false] rfl rfl (any_of HT_.out (by kernel_rfl)) (fun _ _ _ h => h) (Or.inl ⟨by rfl,?_⟩) ?_ ?_; rotate_left
                          · intro w'; go_simp; with_reducible rfl
                          rotate_left
                          · simp only [Act.put,List.setIfInBounds_toArray,List.set_cons_zero,List.set_cons_succ,i64_w,i32_w]; rfl
                          refine pure_ (i := 1) (N := some 116) (v := ?_) (a' := ?_) #[true,true,false,false,false,false,false,false,false,false,false,false,false,false,false] rfl rfl (any_of HT_.out (by kernel_rfl)) (fun _ _ _ h => h) (Or.inl ⟨by rfl,?_⟩) ?_ ?_; rotate_left
                          · intro w'; go_simp; with_reducible rfl
                          rotate_left
                          · simp only [Act.put,List.setIfInBounds_toArray,List.set_cons_zero,List.set_cons_succ,i64_w,i32_w]; rfl
                          refine pure_ (i := 2) (N := some 117) (v := ?_) (a' := ?_) #[true,true,true,false,false,false,false,false,false,false,false,false,false,false,false] rfl rfl (any_of HT_.out (by kernel_rfl)) (fun _ _ _ h => h) (Or.inl ⟨by rfl,?_⟩) ?_ ?_; rotate_left
                          · intro w'; go_simp; with_reducible rfl
                          rotate_left
                          · simp only [Act.put,List.setIfInBounds_toArray,List.set_cons_zero,List.set_cons_succ,i64_w,i32_w]; rfl
                          refine pure_ (i := 3) (N := some 118) (v := ?_) (a' := ?_) #[true,true,true,true,false,false,false,false,false,false,false,false,false,false,false] rfl rfl (any_of HT_.out (by kernel_rfl)) (fun _ _ _ h => h) (Or.inl ⟨by rfl,?_⟩) ?_ ?_; rotate_left
                          · intro w'; go_simp; with_reducible rfl
                          rotate_left
                          · simp only [Act.put,List.setIfInBounds_toArray,List.set_cons_zero,List.set_cons_succ,i64_w,i32_w]; rfl
                          refine pure_ (i := 4) (N := some 119) (v := ?_) (a' := ?_) #[true,true,true,true,true,false,false,false,false,false,false,false,false,false,false] rfl rfl (any_of HT_.out (by kernel_rfl)) (fun _ _ _ h => h) (Or.inl ⟨by rfl,?_⟩) ?_ ?_; rotate_left
                          · intro w'; go_simp; with_reducible rfl
                          rotate_left
                          · simp only [Act.put,List.setIfInBounds_toArray,List.set_cons_zero,List.set_cons_succ,i64_w,i32_w]; rfl
                          refine pure_ (i := 5) (N := some 120) (v := ?_) (a' := ?_) #[true,true,true,true,true,true,false,false,false,false,false,false,false,false,false] rfl rfl (any_of HT_.out (by kernel_rfl)) (fun _ _ _ h => h) (Or.inl ⟨by rfl,?_⟩) ?_ ?_; rotate_left
                          · intro w'; go_simp; with_reducible rfl
                          rotate_left
                          · simp only [Act.put,List.setIfInBounds_toArray,List.set_cons_zero,List.set_cons_succ,i64_w,i32_w]; rfl
                          refine pure_ (i := 6) (N := some 121) (v := ?_) (a' := ?_) #[true,true,true,true,true,true,true,false,false,false,false,false,false,false,false] rfl rfl (any_of HT_.out (by kernel_rfl)) (fun _ _ _ h => h) (Or.inl ⟨by rfl,?_⟩) ?_ ?_; rotate_left
                          · intro w'; go_simp; with_reducible rfl
                          rotate_left
                          · simp only [Act.put,List.setIfInBounds_toArray,List.set_cons_zero,List.set_cons_succ,i64_w,i32_w]; rfl
                          refine pure_ (i := 8) (N := some 123) (v := ?_) (a' := ?_) #[true,true,true,true,true,true,true,false,true,false,false,false,false,false,false] rfl rfl (any_of HT_.out (by kernel_rfl)) (fun _ _ _ h => h) (Or.inl ⟨by rfl,?_⟩) ?_ ?_; rotate_left
                          · intro w'; go_simp; with_reducible rfl
                          rotate_left
                          · simp only [Act.put,List.setIfInBounds_toArray,List.set_cons_zero,List.set_cons_succ,i64_w,i32_w]; rfl
                          refine pure_ (i := 9) (N := some 124) (v := ?_) (a' := ?_) #[true,true,true,true,true,true,true,false,true,true,false,false,false,false,false] rfl rfl (any_of HT_.out (by kernel_rfl)) (fun _ _ _ h => h) (Or.inl ⟨by rfl,?_⟩) ?_ ?_; rotate_left
                          · intro w'; go_simp; with_reducible rfl
                          rotate_left
                          · simp only [Act.put,List.setIfInBounds_toArray,List.set_cons_zero,List.set_cons_succ,i64_w,i32_w]; rfl
                          refine pure_ (i := 10) (N := some 125) (v := ?_) (a' := ?_) #[true,true,true,true,true,true,true,false,true,true,true,false,false,false,false] rfl rfl (any_of HT_.out (by kernel_rfl)) (fun _ _ _ h => h) (Or.inl ⟨by rfl,?_⟩) ?_ ?_; rotate_left
                          · intro w'; go_simp; with_reducible rfl
                          rotate_left
                          · simp only [Act.put,List.setIfInBounds_toArray,List.set_cons_zero,List.set_cons_succ,i64_w,i32_w]; rfl
                          refine take_ (i := 7) (N := some 122) (v := ?_) (a' := ?_) #[true,true,true,true,true,true,true,true,true,true,true,false,false,false,false] rfl rfl (take_ofW HT_.out HW_.out (by kernel_rfl)) (fun _ _ _ h => h) (Or.inl ⟨by rfl,?_⟩) hHeld ?_ ?_; rotate_left
                          · rintro w' ⟨s0,s1⟩; go_simp; with_reducible rfl
                          rotate_left
                          · simp only [Act.put,List.setIfInBounds_toArray,List.set_cons_zero,List.set_cons_succ,i64_w,i32_w]; rfl
                          refine take_ (i := 11) (N := some 126) (v := ?_) (a' := ?_) #[true,true,true,true,true,true,true,true,true,true,true,true,false,false,false] rfl rfl (take_ofW HT_.out HW_.out (by kernel_rfl)) (fun _ _ _ h => h) (Or.inl ⟨by rfl,?_⟩) hHeld ?_ ?_; rotate_left
                          · rintro w' ⟨s0,s1⟩; go_simp; with_reducible rfl
                          rotate_left
                          · simp only [Act.put,List.setIfInBounds_toArray,List.set_cons_zero,List.set_cons_succ,i64_w,i32_w]; rfl
                          refine one_ (i := 12) (N := some 127) #[true,true,true,true,true,true,true,true,true,true,true,true,true,false,false] rfl rfl (one_of HT_.out (by kernel_rfl)) (by decide) (fun K hK => ?_); refine goes_ Tryd.func82 (by kernel_rfl) rfl #[.int .u8 (rd x0_3 x11_5),.int .u8 (rd x0_3 a1)] (by rfl) rfl rfl (by (try simp only [List.map_toArray,List.map_cons,List.map_nil]); first | done | rfl | (simp only [List.length_drop,List.length_take]; rfl)) ?_; with_reducible refine (cmp_Less_byte.calls (rd x0_3 x11_5) (rd x0_3 a1) false _ A72.out).mono ?_
                          rintro e w' ⟨rfl,⟨nd,rfl⟩⟩; refine ⟨_,rfl,?_⟩; refine hK.out _ _ ⟨hHeld.1,hHeld.2⟩ (fun hHeld => ?_); clear hK K; refine norm_ (a' := ?_) ?_ ?_; rotate_left
                          ·
                           show Act.put _ (some 127) _ = _
                           simp only [Act.put,List.setIfInBounds_toArray,List.set_cons_zero,List.set_cons_succ,i64_w,i32_w]; rfl
                          refine pure_ (i := 13) (N := some 128) (v := ?_) (a' := ?_) #[true,true,true,true,true,true,true,true,true,true,true,true,true,true,false] rfl rfl (any_of HT_.out (by kernel_rfl)) (fun _ _ _ h => h) (Or.inl ⟨by rfl,?_⟩) ?_ ?_; rotate_left
                          · intro w'; go_simp; with_reducible rfl
                          rotate_left
                          · simp only [Act.put,List.setIfInBounds_toArray,List.set_cons_zero,List.set_cons_succ,i64_w,i32_w]; rfl
                          refine pure_ (i := 14) (N := some 129) (v := ?_) (a' := ?_) #[true,true,true,true,true,true,true,true,true,true,true,true,true,true,true] rfl rfl (any_of HT_.out (by kernel_rfl)) (fun _ _ _ h => h) (Or.inl ⟨by rfl,?_⟩) ?_ ?_; rotate_left
                          · intro w'; go_simp; with_reducible rfl
                          rotate_left
                          · simp only [Act.put,List.setIfInBounds_toArray,List.set_cons_zero,List.set_cons_succ,i64_w,i32_w]; rfl
                          refine done_ (done_of HT_.out (by kernel_rfl)) ?_; try go_wp2
                          go_roundg k5
                          case measure => have := HJ10.out; have := HJ25.out; have := HK3.out; have := HJ55.out; have := HK5.out; omega
                          case rel => exact ⟨(wrap64 (x11_5 - 1)),(by first | rfl | (simp; done) | (simp [*]; done)),H',⟨by have := HJ10.out; have := HJ25.out; have := HK3.out; have := HJ55.out; have := HK5.out; omega⟩,⟨by (try simp only [hl0_10]); (try simp only [hl0_3]); (with_reducible repeat (first | apply BR_alloc | apply BR_drewN | apply BR_drew)); exact HO_0.out⟩,⟨by repeat (first | (with_reducible first | exact HK.out | apply Kept.alloc | apply Kept.drewN | apply Kept.drew) | exact HK.out)⟩,⟨by repeat (first | (with_reducible first | exact HB.out | apply below_alloc | apply pw_below_drewN | apply below_drew1) | exact HB.out)⟩⟩
                        · rw [if_neg c71] at H; exact absurd H (by simp)
                       · rw [if_neg c70] at H; exact absurd H (by simp)
                      · rw [if_neg c69] at H; exact absurd H (by simp)
                     · rw [if_neg c68] at H; exact absurd H (by simp)
                    ·
                     rw [if_neg c67] at H; have c67b0 : decide (x10_55 ≤ x11_5) = false := decide_eq_false c67; clear c67
                     by_cases c90 : x10_55 > x11_5
                     ·
                      rw [if_pos c90] at H; have c90b0 : decide (x11_5 < x10_55) = true := decide_eq_true c90; clear c90
                      by_cases c91 : 0 ≤ a1
                      ·
                       rw [if_pos c91] at H; have c91b0 : decide (0 ≤ a1) = true := decide_eq_true c91; clear c91
                       by_cases c92 : a1 < (x0_3.length : Int)
                       ·
                        rw [if_pos c92] at H; have c92b0 : decide (a1 < (x0_3.length : Int)) = true := decide_eq_true c92
                        (try (have c92b0_ := c92b0; rw [hl0_10] at c92b0_))
                        (try (have c92b0_ := c92b0; rw [hl0_3] at c92b0_))
                        clear c92
                        by_cases c93 : 0 ≤ x11_5
                        ·
                         rw [if_pos c93] at H; have c93b0 : decide (0 ≤ x11_5) = true := decide_eq_true c93; clear c93
                         by_cases c94 : x11_5 < (x0_3.length : Int)
                         ·
                          rw [if_pos c94] at H; have c94b0 : decide (x11_5 < (x0_3.length : Int)) = true := decide_eq_true c94
                          (try (have c94b0_ := c94b0; rw [hl0_10] at c94b0_))
                          (try (have c94b0_ := c94b0; rw [hl0_3] at c94b0_))
                          clear c94; obtain ⟨y135,hy135⟩ : ∃ y_ : List Int,y_ = (x0_3.set (x11_5 : Int).toNat (rd x0_3 a1)) := ⟨_,rfl⟩; replace H : (some (x11_5,false,(y135.set (a1 : Int).toNat (rd x0_3 x11_5)))) = some (r1,r2,r3) := by first | (rw [hy135]; with_reducible exact H) | (have H2_ := (Option.bind_some _ _).symm.trans H; rw [hy135]; with_reducible exact H2_) | (have H2_ := (Option.bind_some _ _).symm.trans H; with_reducible exact H2_) | with_reducible exact H | (rw [hy135]; exact H) | exact H
                          have Ny135 := Aside0.mk hy135; clear hy135; obtain ⟨y136,hy136⟩ : ∃ y_ : List Int,y_ = (y135.set (a1 : Int).toNat (rd x0_3 x11_5)) := ⟨_,rfl⟩; replace H : (some (x11_5,false,y136)) = some (r1,r2,r3) := by first | (rw [hy136]; with_reducible exact H) | (have H2_ := (Option.bind_some _ _).symm.trans H; rw [hy136]; with_reducible exact H2_) | (have H2_ := (Option.bind_some _ _).symm.trans H; with_reducible exact H2_) | with_reducible exact H | (rw [hy136]; exact H) | exact H
                          have Ny136 := Aside0.mk hy136; clear hy136; simp only [Option.some.injEq,Prod.mk.injEq] at H; obtain ⟨rfl,rfl,rfl⟩ := H; try go_wp2
                          have n0_ := Aside0.mk (BR_drew HO_0.out); have n1_ := Aside0.mk (Kept.drew HK.out); have n2_ := Aside0.mk (below_drew1 HB.out); clear HO_0; clear HK; clear HB; have HO_0 := n0_; have HK := n1_; have HB := n2_; clear n0_ n1_ n2_; refine start_ (n := 15) (S := fun w' => True) (ds := []) #[false,false,false,false,false,false,false,false,false,false,false,false,false,false,false] (by kernel_rfl) rfl rfl trivial (fun hHeld => ?_); refine with_tabW slices_partitionOrdered_byte.tab15 slices_partitionOrdered_byte.bits15 (fun HT_ HW_ => ?_)
                          generalize wr.drew = w97 at HO_0 HK HB hHeld ⊢; refine pure_ (i := 0) (N := some 115) (v := ?_) (a' := ?_) #[true,false,false,false,false,false,false,false,false,false,false,false,false,false,false] rfl rfl (any_of HT_.out (by kernel_rfl)) (fun _ _ _ h => h) (Or.inl ⟨by rfl,?_⟩) ?_ ?_; rotate_left
                          · intro w'; go_simp; with_reducible rfl
                          rotate_left
                          · simp only [Act.put,List.setIfInBounds_toArray,List.set_cons_zero,List.set_cons_succ,i64_w,i32_w]; rfl
                          refine pure_ (i := 1) (N := some 116) (v := ?_) (a' := ?_) #[true,true,false,false,false,false,false,false,false,false,false,false,false,false,false] rfl rfl (any_of HT_.out (by kernel_rfl)) (fun _ _ _ h => h) (Or.inl ⟨by rfl,?_⟩) ?_ ?_; rotate_left
                          · intro w'; go_simp; with_reducible rfl
                          rotate_left
                          · simp only [Act.put,List.setIfInBounds_toArray,List.set_cons_zero,List.set_cons_succ,i64_w,i32_w]; rfl
                          refine pure_ (i := 2) (N := some 117) (v := ?_) (a' := ?_) #[true,true,true,false,false,false,false,false,false,false,false,false,false,false,false] rfl rfl (any_of HT_.out (by kernel_rfl)) (fun _ _ _ h => h) (Or.inl ⟨by rfl,?_⟩) ?_ ?_; rotate_left
                          · intro w'; go_simp; with_reducible rfl
                          rotate_left
                          · simp only [Act.put,List.setIfInBounds_toArray,List.set_cons_zero,List.set_cons_succ,i64_w,i32_w]; rfl
                          refine pure_ (i := 3) (N := some 118) (v := ?_) (a' := ?_) #[true,true,true,true,false,false,false,false,false,false,false,false,false,false,false] rfl rfl (any_of HT_.out (by kernel_rfl)) (fun _ _ _ h => h) (Or.inl ⟨by rfl,?_⟩) ?_ ?_; rotate_left
                          · intro w'; go_simp; with_reducible rfl
                          rotate_left
                          · simp only [Act.put,List.setIfInBounds_toArray,List.set_cons_zero,List.set_cons_succ,i64_w,i32_w]; rfl
                          refine pure_ (i := 4) (N := some 119) (v := undef) (a' := ?_) #[true,true,true,true,true,false,false,false,false,false,false,false,false,false,false] rfl rfl (any_of HT_.out (by kernel_rfl)) (fun _ _ _ h => h) (Or.inr ⟨by rfl,rfl⟩) ?_ ?_; rotate_left
                          · simp only [Act.put,List.setIfInBounds_toArray,List.set_cons_zero,List.set_cons_succ,i64_w,i32_w]; rfl
                          refine pure_ (i := 5) (N := some 120) (v := undef) (a' := ?_) #[true,true,true,true,true,true,false,false,false,false,false,false,false,false,false] rfl rfl (any_of HT_.out (by kernel_rfl)) (fun _ _ _ h => h) (Or.inr ⟨by rfl,rfl⟩) ?_ ?_; rotate_left
                          · simp only [Act.put,List.setIfInBounds_toArray,List.set_cons_zero,List.set_cons_succ,i64_w,i32_w]; rfl
                          refine pure_ (i := 6) (N := some 121) (v := undef) (a' := ?_) #[true,true,true,true,true,true,true,false,false,false,false,false,false,false,false] rfl rfl (any_of HT_.out (by kernel_rfl)) (fun _ _ _ h => h) (Or.inr ⟨by rfl,rfl⟩) ?_ ?_; rotate_left
                          · simp only [Act.put,List.setIfInBounds_toArray,List.set_cons_zero,List.set_cons_succ,i64_w,i32_w]; rfl
                          refine pure_ (i := 7) (N := some 122) (v := undef) (a' := ?_) #[true,true,true,true,true,true,true,true,false,false,false,false,false,false,false] rfl rfl (any_of HT_.out (by kernel_rfl)) (fun _ _ _ h => h) (Or.inr ⟨by rfl,rfl⟩) ?_ ?_; rotate_left
                          · simp only [Act.put,List.setIfInBounds_toArray,List.set_cons_zero,List.set_cons_succ,i64_w,i32_w]; rfl
                          refine pure_ (i := 8) (N := some 123) (v := undef) (a' := ?_) #[true,true,true,true,true,true,true,true,true,false,false,false,false,false,false] rfl rfl (any_of HT_.out (by kernel_rfl)) (fun _ _ _ h => h) (Or.inr ⟨by rfl,rfl⟩) ?_ ?_; rotate_left
                          · simp only [Act.put,List.setIfInBounds_toArray,List.set_cons_zero,List.set_cons_succ,i64_w,i32_w]; rfl
                          refine pure_ (i := 9) (N := some 124) (v := undef) (a' := ?_) #[true,true,true,true,true,true,true,true,true,true,false,false,false,false,false] rfl rfl (any_of HT_.out (by kernel_rfl)) (fun _ _ _ h => h) (Or.inr ⟨by rfl,rfl⟩) ?_ ?_; rotate_left
                          · simp only [Act.put,List.setIfInBounds_toArray,List.set_cons_zero,List.set_cons_succ,i64_w,i32_w]; rfl
                          refine pure_ (i := 10) (N := some 125) (v := undef) (a' := ?_) #[true,true,true,true,true,true,true,true,true,true,true,false,false,false,false] rfl rfl (any_of HT_.out (by kernel_rfl)) (fun _ _ _ h => h) (Or.inr ⟨by rfl,rfl⟩) ?_ ?_; rotate_left
                          · simp only [Act.put,List.setIfInBounds_toArray,List.set_cons_zero,List.set_cons_succ,i64_w,i32_w]; rfl
                          refine pure_ (i := 11) (N := some 126) (v := undef) (a' := ?_) #[true,true,true,true,true,true,true,true,true,true,true,true,false,false,false] rfl rfl (any_of HT_.out (by kernel_rfl)) (fun _ _ _ h => h) (Or.inr ⟨by rfl,rfl⟩) ?_ ?_; rotate_left
                          · simp only [Act.put,List.setIfInBounds_toArray,List.set_cons_zero,List.set_cons_succ,i64_w,i32_w]; rfl
                          refine pure_ (i := 12) (N := some 127) (v := undef) (a' := ?_) #[true,true,true,true,true,true,true,true,true,true,true,true,true,false,false] rfl rfl (any_of HT_.out (by kernel_rfl)) (fun _ _ _ h => h) (Or.inr ⟨by rfl,rfl⟩) ?_ ?_; rotate_left
                          · simp only [Act.put,List.setIfInBounds_toArray,List.set_cons_zero,List.set_cons_succ,i64_w,i32_w]; rfl
                          refine pure_ (i := 13) (N := some 128) (v := undef) (a' := ?_) #[true,true,true,true,true,true,true,true,true,true,true,true,true,true,false] rfl rfl (any_of HT_.out (by kernel_rfl)) (fun _ _ _ h => h) (Or.inr ⟨by rfl,rfl⟩) ?_ ?_; rotate_left
                          · simp only [Act.put,List.setIfInBounds_toArray,List.set_cons_zero,List.set_cons_succ,i64_w,i32_w]; rfl
                          refine pure_ (i := 14) (N := some 129) (v := ?_) (a' := ?_) #[true,true,true,true,true,true,true,true,true,true,true,true,true,true,true] rfl rfl (any_of HT_.out (by kernel_rfl)) (fun _ _ _ h => h) (Or.inl ⟨by rfl,?_⟩) ?_ ?_; rotate_left
                          · intro w'; go_simp; with_reducible rfl
                          rotate_left
                          · simp only [Act.put,List.setIfInBounds_toArray,List.set_cons_zero,List.set_cons_succ,i64_w,i32_w]; rfl
                          refine done_ (done_of HT_.out (by kernel_rfl)) ?_; try go_wp2
                          have n0_ := Aside0.mk (BR_drew HO_0.out); have n1_ := Aside0.mk (Kept.drew HK.out); have n2_ := Aside0.mk (below_drew1 HB.out); clear HO_0; clear HK; clear HB; have HO_0 := n0_; have HK := n1_; have HB := n2_; clear n0_ n1_ n2_; have p133 : 0 ≤ (a1 : Int) := of_decide_eq_true (by first | (with_reducible assumption) | assumption); have q133 : a1 < (x0_3.length : Int) := of_decide_eq_true (by first | (with_reducible assumption) | assumption); obtain ⟨ad133,e133,hx133_0⟩ := Kd.at_int (BR_reads' HO_0.out).2.2 a1 p133 q133; obtain rfl : (⟨go9,0,none⟩ : Addr) = ad133 := (by injection e133)
                          (first | simp only [add_plain] at hx133_0 | simp only [add_at] at hx133_0 | simp only [Addr.add,Nat.zero_add] at hx133_0 | skip)
                          replace p133 := eq_true p133; replace q133 := eq_true q133; have p134 : 0 ≤ (x11_5 : Int) := of_decide_eq_true (by first | (with_reducible assumption) | assumption); have q134 : x11_5 < (x0_3.length : Int) := of_decide_eq_true (by first | (with_reducible assumption) | assumption); obtain ⟨ad134,e134,hx134_0⟩ := Kd.at_int (BR_reads' HO_0.out).2.2 x11_5 p134 q134; obtain rfl : (⟨go9,0,none⟩ : Addr) = ad134 := (by injection e134)
                          (first | simp only [add_plain] at hx134_0 | simp only [add_at] at hx134_0 | simp only [Addr.add,Nat.zero_add] at hx134_0 | skip)
                          replace p134 := eq_true p134; replace q134 := eq_true q134; have p95 : 0 ≤ (x11_5 : Int) := of_decide_eq_true (by first | (with_reducible assumption) | assumption); have q95 : (x11_5 : Int) < ((x0_3.length : Int) : Int) := of_decide_eq_true (by first | (with_reducible assumption) | assumption); obtain ⟨hx95_0,hf95_0⟩ := BR_celln 0 HO_0.out (x11_5 : Int) p95 q95; replace p95 := eq_true p95; replace q95 := eq_true q95; have HP99 := BR_putn HO_0.out (x11_5 : Int) (rd x0_3 a1); rw [← Ny135.out] at HP99; have HQ99 := Aside0.mk HP99; clear HP99; have p96 : 0 ≤ (a1 : Int) := of_decide_eq_true (by first | (with_reducible assumption) | assumption); have q96 : (a1 : Int) < ((x0_3.length : Int) : Int) := of_decide_eq_true (by first | (with_reducible assumption) | assumption); obtain ⟨hx96_0,hf96_0⟩ := BR_celln 0 HQ99.out (a1 : Int) p96 q96; replace p96 := eq_true p96; replace q96 := eq_true q96; have HP100 := BR_putn HQ99.out (a1 : Int) (rd x0_3 x11_5); rw [← Ny136.out] at HP100; have HQ100 := Aside0.mk HP100; clear HP100; refine start_ (n := 16) (S := fun w' => w'.cell? ⟨go9,(a1).toNat,none⟩ = some (.int .u8 (rd x0_3 a1)) ∧ w'.cell? ⟨go9,(x11_5).toNat,none⟩ = some (.int .u8 (rd x0_3 x11_5))) (ds := [13,15]) #[false,false,false,false,false,false,false,false,false,false,false,false,false,false,false,false] (by kernel_rfl) rfl rfl ⟨hx133_0,hx134_0⟩ (fun hHeld => ?_); refine with_tabW slices_partitionOrdered_byte.tab21 slices_partitionOrdered_byte.bits21 (fun HT_ HW_ => ?_)
                          generalize w97.drew = w98 at HO_0 HK HB HQ100 HQ99 hf95_0 hf96_0 hx133_0 hx134_0 hx95_0 hx96_0 hHeld ⊢; refine pure_ (i := 0) (N := some 153) (v := ?_) (a' := ?_) #[true,false,false,false,false,false,false,false,false,false,false,false,false,false,false,false] rfl rfl (any_of HT_.out (by kernel_rfl)) (fun _ _ _ h => h) (Or.inl ⟨by rfl,?_⟩) ?_ ?_; rotate_left
                          · intro w'; go_simp; with_reducible rfl
                          rotate_left
                          · simp only [Act.put,List.setIfInBounds_toArray,List.set_cons_zero,List.set_cons_succ,i64_w,i32_w]; rfl
                          refine pure_ (i := 1) (N := some 154) (v := ?_) (a' := ?_) #[true,true,false,false,false,false,false,false,false,false,false,false,false,false,false,false] rfl rfl (any_of HT_.out (by kernel_rfl)) (fun _ _ _ h => h) (Or.inl ⟨by rfl,?_⟩) ?_ ?_; rotate_left
                          · intro w'; go_simp; with_reducible rfl
                          rotate_left
                          · simp only [Act.put,List.setIfInBounds_toArray,List.set_cons_zero,List.set_cons_succ,i64_w,i32_w]; rfl
                          refine pure_ (i := 2) (N := some 155) (v := ?_) (a' := ?_) #[true,true,true,false,false,false,false,false,false,false,false,false,false,false,false,false] rfl rfl (any_of HT_.out (by kernel_rfl)) (fun _ _ _ h => h) (Or.inl ⟨by rfl,?_⟩) ?_ ?_; rotate_left
                          · intro w'; go_simp; with_reducible rfl
                          rotate_left
                          · simp only [Act.put,List.setIfInBounds_toArray,List.set_cons_zero,List.set_cons_succ,i64_w,i32_w]; rfl
                          refine pure_ (i := 3) (N := some 156) (v := ?_) (a' := ?_) #[true,true,true,true,false,false,false,false,false,false,false,false,false,false,false,false] rfl rfl (any_of HT_.out (by kernel_rfl)) (fun _ _ _ h => h) (Or.inl ⟨by rfl,?_⟩) ?_ ?_; rotate_left
                          · intro w'; go_simp; with_reducible rfl
                          rotate_left
                          · simp only [Act.put,List.setIfInBounds_toArray,List.set_cons_zero,List.set_cons_succ,i64_w,i32_w]; rfl
                          refine pure_ (i := 4) (N := some 157) (v := ?_) (a' := ?_) #[true,true,true,true,true,false,false,false,false,false,false,false,false,false,false,false] rfl rfl (any_of HT_.out (by kernel_rfl)) (fun _ _ _ h => h) (Or.inl ⟨by rfl,?_⟩) ?_ ?_; rotate_left
                          · intro w'; go_simp; with_reducible rfl
                          rotate_left
                          · simp only [Act.put,List.setIfInBounds_toArray,List.set_cons_zero,List.set_cons_succ,i64_w,i32_w]; rfl
                          refine pure_ (i := 5) (N := some 158) (v := ?_) (a' := ?_) #[true,true,true,true,true,true,false,false,false,false,false,false,false,false,false,false] rfl rfl (any_of HT_.out (by kernel_rfl)) (fun _ _ _ h => h) (Or.inl ⟨by rfl,?_⟩) ?_ ?_; rotate_left
                          · intro w'; go_simp; with_reducible rfl
                          rotate_left
                          · simp only [Act.put,List.setIfInBounds_toArray,List.set_cons_zero,List.set_cons_succ,i64_w,i32_w]; rfl
                          refine pure_ (i := 6) (N := some 159) (v := ?_) (a' := ?_) #[true,true,true,true,true,true,true,false,false,false,false,false,false,false,false,false] rfl rfl (any_of HT_.out (by kernel_rfl)) (fun _ _ _ h => h) (Or.inl ⟨by rfl,?_⟩) ?_ ?_; rotate_left
                          · intro w'; go_simp; with_reducible rfl
                          rotate_left
                          · simp only [Act.put,List.setIfInBounds_toArray,List.set_cons_zero,List.set_cons_succ,i64_w,i32_w]; rfl
                          refine pure_ (i := 8) (N := some 161) (v := ?_) (a' := ?_) #[true,true,true,true,true,true,true,false,true,false,false,false,false,false,false,false] rfl rfl (any_of HT_.out (by kernel_rfl)) (fun _ _ _ h => h) (Or.inl ⟨by rfl,?_⟩) ?_ ?_; rotate_left
                          · intro w'; go_simp; with_reducible rfl
                          rotate_left
                          · simp only [Act.put,List.setIfInBounds_toArray,List.set_cons_zero,List.set_cons_succ,i64_w,i32_w]; rfl
                          refine pure_ (i := 9) (N := some 162) (v := ?_) (a' := ?_) #[true,true,true,true,true,true,true,false,true,true,false,false,false,false,false,false] rfl rfl (any_of HT_.out (by kernel_rfl)) (fun _ _ _ h => h) (Or.inl ⟨by rfl,?_⟩) ?_ ?_; rotate_left
                          · intro w'; go_simp; with_reducible rfl
                          rotate_left
                          · simp only [Act.put,List.setIfInBounds_toArray,List.set_cons_zero,List.set_cons_succ,i64_w,i32_w]; rfl
                          refine pure_ (i := 10) (N := some 163) (v := ?_) (a' := ?_) #[true,true,true,true,true,true,true,false,true,true,true,false,false,false,false,false] rfl rfl (any_of HT_.out (by kernel_rfl)) (fun _ _ _ h => h) (Or.inl ⟨by rfl,?_⟩) ?_ ?_; rotate_left
                          · intro w'; go_simp; with_reducible rfl
                          rotate_left
                          · simp only [Act.put,List.setIfInBounds_toArray,List.set_cons_zero,List.set_cons_succ,i64_w,i32_w]; rfl
                          refine take_ (i := 7) (N := some 160) (v := ?_) (a' := ?_) #[true,true,true,true,true,true,true,true,true,true,true,false,false,false,false,false] rfl rfl (take_ofW HT_.out HW_.out (by kernel_rfl)) (fun _ _ _ h => h) (Or.inl ⟨by rfl,?_⟩) hHeld ?_ ?_; rotate_left
                          · rintro w' ⟨s0,s1⟩; go_simp; with_reducible rfl
                          rotate_left
                          · simp only [Act.put,List.setIfInBounds_toArray,List.set_cons_zero,List.set_cons_succ,i64_w,i32_w]; rfl
                          refine take_ (i := 11) (N := some 164) (v := ?_) (a' := ?_) #[true,true,true,true,true,true,true,true,true,true,true,true,false,false,false,false] rfl rfl (take_ofW HT_.out HW_.out (by kernel_rfl)) (fun _ _ _ h => h) (Or.inl ⟨by rfl,?_⟩) hHeld ?_ ?_; rotate_left
                          · rintro w' ⟨s0,s1⟩; go_simp; with_reducible rfl
                          rotate_left
                          · simp only [Act.put,List.setIfInBounds_toArray,List.set_cons_zero,List.set_cons_succ,i64_w,i32_w]; rfl
                          refine pure_ (i := 12) (N := some 165) (v := ?_) (a' := ?_) #[true,true,true,true,true,true,true,true,true,true,true,true,true,false,false,false] rfl rfl (any_of HT_.out (by kernel_rfl)) (fun _ _ _ h => h) (Or.inl ⟨by rfl,?_⟩) ?_ ?_; rotate_left
                          · intro w'; go_simp; with_reducible rfl
                          rotate_left
                          · simp only [Act.put,List.setIfInBounds_toArray,List.set_cons_zero,List.set_cons_succ,i64_w,i32_w]; rfl
                          refine last_ (i := 13) (N := none) #[true,true,true,true,true,true,true,true,true,true,true,true,true,true,false,false] rfl rfl (one_of HT_.out (by kernel_rfl)) (by decide) (fun K hK => ?_); refine skip_ (w1 := ?_) (by rfl) rfl ?_ ?_; rotate_left
                          · go_simp; rfl
                          refine hK.out _ _ ?_; clear hK K; refine pure_ (i := 14) (N := some 166) (v := ?_) (a' := ?_) #[true,true,true,true,true,true,true,true,true,true,true,true,true,true,true,false] rfl rfl (any_of HT_.out (by kernel_rfl)) (fun _ _ _ h => h) (Or.inl ⟨by rfl,?_⟩) ?_ ?_; rotate_left
                          · intro w'; go_simp; with_reducible rfl
                          rotate_left
                          · simp only [Act.put,List.setIfInBounds_toArray,List.set_cons_zero,List.set_cons_succ,i64_w,i32_w]; rfl
                          refine last_ (i := 15) (N := none) #[true,true,true,true,true,true,true,true,true,true,true,true,true,true,true,true] rfl rfl (one_of HT_.out (by kernel_rfl)) (by decide) (fun K hK => ?_); refine skip_ (w1 := ?_) (by rfl) rfl ?_ ?_; rotate_left
                          · go_simp; rfl
                          refine hK.out _ _ ?_; clear hK K; refine done_ (done_of HT_.out (by kernel_rfl)) ?_; try go_wp2
                          go_ret2
                          exact ⟨by first | rfl | (simp [errW_none,errW_some] <;> rfl) | (simp [*,errW_none,errW_some] <;> rfl),(by first | exact (by (with_reducible repeat (first | apply BR_alloc | apply BR_drewN | apply BR_drew)); exact HQ100.out) | (simp only [hl0_10,hl0_3]; exact (by (with_reducible repeat (first | apply BR_alloc | apply BR_drewN | apply BR_drew)); exact HQ100.out))),by repeat (first | (with_reducible first | exact HB.out | apply below_alloc | apply pw_below_drewN | apply below_drew1 | refine below_set ?_ GB9.out | refine below_set ?_ GB9.out) | exact HB.out),by repeat (first | (with_reducible first | exact HK.out | apply Kept.alloc | apply Kept.drewN | apply Kept.drew | refine Kept.setCell ?_ HMgo9.out _ | refine Kept.setCell ?_ HMgo9.out _) | exact HK.out)⟩
                         · rw [if_neg c94] at H; exact absurd H (by simp)
                        · rw [if_neg c93] at H; exact absurd H (by simp)
                       · rw [if_neg c92] at H; exact absurd H (by simp)
                      · rw [if_neg c91] at H; exact absurd H (by simp)
                     ·
                      rw [if_neg c90] at H; have c90b0 : decide (x11_5 < x10_55) = false := decide_eq_false c90; clear c90
                      by_cases c101 : 0 ≤ x11_5
                      ·
                       rw [if_pos c101] at H; have c101b0 : decide (0 ≤ x11_5) = true := decide_eq_true c101; clear c101
                       by_cases c102 : x11_5 < (x0_3.length : Int)
                       ·
                        rw [if_pos c102] at H; have c102b0 : decide (x11_5 < (x0_3.length : Int)) = true := decide_eq_true c102
                        (try (have c102b0_ := c102b0; rw [hl0_10] at c102b0_))
                        (try (have c102b0_ := c102b0; rw [hl0_3] at c102b0_))
                        clear c102
                        by_cases c103 : 0 ≤ x10_55
                        ·
                         rw [if_pos c103] at H; have c103b0 : decide (0 ≤ x10_55) = true := decide_eq_true c103; clear c103
                         by_cases c104 : x10_55 < (x0_3.length : Int)
                         ·
                          rw [if_pos c104] at H; have c104b0 : decide (x10_55 < (x0_3.length : Int)) = true := decide_eq_true c104
                          (try (have c104b0_ := c104b0; rw [hl0_10] at c104b0_))
                          (try (have c104b0_ := c104b0; rw [hl0_3] at c104b0_))
                          clear c104; obtain ⟨y139,hy139⟩ : ∃ y_ : List Int,y_ = (x0_3.set (x10_55 : Int).toNat (rd x0_3 x11_5)) := ⟨_,rfl⟩; replace H : (slices_partitionOrdered_byte.l2 k5 (y139.set (x11_5 : Int).toNat (rd x0_3 x10_55)) a1 (wrap64 (x10_55 + 1)) (wrap64 (x11_5 - 1))) = some (r1,r2,r3) := by first | (rw [hy139]; with_reducible exact H) | (have H2_ := (Option.bind_some _ _).symm.trans H; rw [hy139]; with_reducible exact H2_) | (have H2_ := (Option.bind_some _ _).symm.trans H; with_reducible exact H2_) | with_reducible exact H | (rw [hy139]; exact H) | exact H
                          have Ny139 := Aside0.mk hy139; clear hy139; obtain ⟨y140,hy140⟩ : ∃ y_ : List Int,y_ = (y139.set (x11_5 : Int).toNat (rd x0_3 x10_55)) := ⟨_,rfl⟩; replace H : (slices_partitionOrdered_byte.l2 k5 y140 a1 (wrap64 (x10_55 + 1)) (wrap64 (x11_5 - 1))) = some (r1,r2,r3) := by first | (rw [hy140]; with_reducible exact H) | (have H2_ := (Option.bind_some _ _).symm.trans H; rw [hy140]; with_reducible exact H2_) | (have H2_ := (Option.bind_some _ _).symm.trans H; with_reducible exact H2_) | with_reducible exact H | (rw [hy140]; exact H) | exact H
                          have Ny140 := Aside0.mk hy140; clear hy140; have H' := Aside0.mk H; clear H; try go_wp2
                          have n0_ := Aside0.mk (BR_drew HO_0.out); have n1_ := Aside0.mk (Kept.drew HK.out); have n2_ := Aside0.mk (below_drew1 HB.out); clear HO_0; clear HK; clear HB; have HO_0 := n0_; have HK := n1_; have HB := n2_; clear n0_ n1_ n2_; refine start_ (n := 15) (S := fun w' => True) (ds := []) #[false,false,false,false,false,false,false,false,false,false,false,false,false,false,false] (by kernel_rfl) rfl rfl trivial (fun hHeld => ?_); refine with_tabW slices_partitionOrdered_byte.tab15 slices_partitionOrdered_byte.bits15 (fun HT_ HW_ => ?_)
                          generalize wr.drew = w107 at HO_0 HK HB hHeld ⊢; refine pure_ (i := 0) (N := some 115) (v := ?_) (a' := ?_) #[true,false,false,false,false,false,false,false,false,false,false,false,false,false,false] rfl rfl (any_of HT_.out (by kernel_rfl)) (fun _ _ _ h => h) (Or.inl ⟨by rfl,?_⟩) ?_ ?_; rotate_left
                          · intro w'; go_simp; with_reducible rfl
                          rotate_left
                          · simp only [Act.put,List.setIfInBounds_toArray,List.set_cons_zero,List.set_cons_succ,i64_w,i32_w]; rfl
                          refine pure_ (i := 1) (N := some 116) (v := ?_) (a' := ?_) #[true,true,false,false,false,false,false,false,false,false,false,false,false,false,false] rfl rfl (any_of HT_.out (by kernel_rfl)) (fun _ _ _ h => h) (Or.inl ⟨by rfl,?_⟩) ?_ ?_; rotate_left
                          · intro w'; go_simp; with_reducible rfl
                          rotate_left
                          · simp only [Act.put,List.setIfInBounds_toArray,List.set_cons_zero,List.set_cons_succ,i64_w,i32_w]; rfl
                          refine pure_ (i := 2) (N := some 117) (v := ?_) (a' := ?_) #[true,true,true,false,false,false,false,false,false,false,false,false,false,false,false] rfl rfl (any_of HT_.out (by kernel_rfl)) (fun _ _ _ h => h) (Or.inl ⟨by rfl,?_⟩) ?_ ?_; rotate_left
                          · intro w'; go_simp; with_reducible rfl
                          rotate_left
                          · simp only [Act.put,List.setIfInBounds_toArray,List.set_cons_zero,List.set_cons_succ,i64_w,i32_w]; rfl
                          refine pure_ (i := 3) (N := some 118) (v := ?_) (a' := ?_) #[true,true,true,true,false,false,false,false,false,false,false,false,false,false,false] rfl rfl (any_of HT_.out (by kernel_rfl)) (fun _ _ _ h => h) (Or.inl ⟨by rfl,?_⟩) ?_ ?_; rotate_left
                          · intro w'; go_simp; with_reducible rfl
                          rotate_left
                          · simp only [Act.put,List.setIfInBounds_toArray,List.set_cons_zero,List.set_cons_succ,i64_w,i32_w]; rfl
                          refine pure_ (i := 4) (N := some 119) (v := undef) (a' := ?_) #[true,true,true,true,true,false,false,false,false,false,false,false,false,false,false] rfl rfl (any_of HT_.out (by kernel_rfl)) (fun _ _ _ h => h) (Or.inr ⟨by rfl,rfl⟩) ?_ ?_; rotate_left
                          · simp only [Act.put,List.setIfInBounds_toArray,List.set_cons_zero,List.set_cons_succ,i64_w,i32_w]; rfl
                          refine pure_ (i := 5) (N := some 120) (v := undef) (a' := ?_) #[true,true,true,true,true,true,false,false,false,false,false,false,false,false,false] rfl rfl (any_of HT_.out (by kernel_rfl)) (fun _ _ _ h => h) (Or.inr ⟨by rfl,rfl⟩) ?_ ?_; rotate_left
                          · simp only [Act.put,List.setIfInBounds_toArray,List.set_cons_zero,List.set_cons_succ,i64_w,i32_w]; rfl
                          refine pure_ (i := 6) (N := some 121) (v := undef) (a' := ?_) #[true,true,true,true,true,true,true,false,false,false,false,false,false,false,false] rfl rfl (any_of HT_.out (by kernel_rfl)) (fun _ _ _ h => h) (Or.inr ⟨by rfl,rfl⟩) ?_ ?_; rotate_left
                          · simp only [Act.put,List.setIfInBounds_toArray,List.set_cons_zero,List.set_cons_succ,i64_w,i32_w]; rfl
                          refine pure_ (i := 7) (N := some 122) (v := undef) (a' := ?_) #[true,true,true,true,true,true,true,true,false,false,false,false,false,false,false] rfl rfl (any_of HT_.out (by kernel_rfl)) (fun _ _ _ h => h) (Or.inr ⟨by rfl,rfl⟩) ?_ ?_; rotate_left
                          · simp only [Act.put,List.setIfInBounds_toArray,List.set_cons_zero,List.set_cons_succ,i64_w,i32_w]; rfl
                          refine pure_ (i := 8) (N := some 123) (v := undef) (a' := ?_) #[true,true,true,true,true,true,true,true,true,false,false,false,false,false,false] rfl rfl (any_of HT_.out (by kernel_rfl)) (fun _ _ _ h => h) (Or.inr ⟨by rfl,rfl⟩) ?_ ?_; rotate_left
                          · simp only [Act.put,List.setIfInBounds_toArray,List.set_cons_zero,List.set_cons_succ,i64_w,i32_w]; rfl
                          refine pure_ (i := 9) (N := some 124) (v := undef) (a' := ?_) #[true,true,true,true,true,true,true,true,true,true,false,false,false,false,false] rfl rfl (any_of HT_.out (by kernel_rfl)) (fun _ _ _ h => h) (Or.inr ⟨by rfl,rfl⟩) ?_ ?_; rotate_left
                          · simp only [Act.put,List.setIfInBounds_toArray,List.set_cons_zero,List.set_cons_succ,i64_w,i32_w]; rfl
                          refine pure_ (i := 10) (N := some 125) (v := undef) (a' := ?_) #[true,true,true,true,true,true,true,true,true,true,true,false,false,false,false] rfl rfl (any_of HT_.out (by kernel_rfl)) (fun _ _ _ h => h) (Or.inr ⟨by rfl,rfl⟩) ?_ ?_; rotate_left
                          · simp only [Act.put,List.setIfInBounds_toArray,List.set_cons_zero,List.set_cons_succ,i64_w,i32_w]; rfl
                          refine pure_ (i := 11) (N := some 126) (v := undef) (a' := ?_) #[true,true,true,true,true,true,true,true,true,true,true,true,false,false,false] rfl rfl (any_of HT_.out (by kernel_rfl)) (fun _ _ _ h => h) (Or.inr ⟨by rfl,rfl⟩) ?_ ?_; rotate_left
                          · simp only [Act.put,List.setIfInBounds_toArray,List.set_cons_zero,List.set_cons_succ,i64_w,i32_w]; rfl
                          refine pure_ (i := 12) (N := some 127) (v := undef) (a' := ?_) #[true,true,true,true,true,true,true,true,true,true,true,true,true,false,false] rfl rfl (any_of HT_.out (by kernel_rfl)) (fun _ _ _ h => h) (Or.inr ⟨by rfl,rfl⟩) ?_ ?_; rotate_left
                          · simp only [Act.put,List.setIfInBounds_toArray,List.set_cons_zero,List.set_cons_succ,i64_w,i32_w]; rfl
                          refine pure_ (i := 13) (N := some 128) (v := undef) (a' := ?_) #[true,true,true,true,true,true,true,true,true,true,true,true,true,true,false] rfl rfl (any_of HT_.out (by kernel_rfl)) (fun _ _ _ h => h) (Or.inr ⟨by rfl,rfl⟩) ?_ ?_; rotate_left
                          · simp only [Act.put,List.setIfInBounds_toArray,List.set_cons_zero,List.set_cons_succ,i64_w,i32_w]; rfl
                          refine pure_ (i := 14) (N := some 129) (v := ?_) (a' := ?_) #[true,true,true,true,true,true,true,true,true,true,true,true,true,true,true] rfl rfl (any_of HT_.out (by kernel_rfl)) (fun _ _ _ h => h) (Or.inl ⟨by rfl,?_⟩) ?_ ?_; rotate_left
                          · intro w'; go_simp; with_reducible rfl
                          rotate_left
                          · simp only [Act.put,List.setIfInBounds_toArray,List.set_cons_zero,List.set_cons_succ,i64_w,i32_w]; rfl
                          refine done_ (done_of HT_.out (by kernel_rfl)) ?_; try go_wp2
                          have n0_ := Aside0.mk (BR_drew HO_0.out); have n1_ := Aside0.mk (Kept.drew HK.out); have n2_ := Aside0.mk (below_drew1 HB.out); clear HO_0; clear HK; clear HB; have HO_0 := n0_; have HK := n1_; have HB := n2_; clear n0_ n1_ n2_; have p137 : 0 ≤ (x11_5 : Int) := of_decide_eq_true (by first | (with_reducible assumption) | assumption); have q137 : x11_5 < (x0_3.length : Int) := of_decide_eq_true (by first | (with_reducible assumption) | assumption); obtain ⟨ad137,e137,hx137_0⟩ := Kd.at_int (BR_reads' HO_0.out).2.2 x11_5 p137 q137; obtain rfl : (⟨go9,0,none⟩ : Addr) = ad137 := (by injection e137)
                          (first | simp only [add_plain] at hx137_0 | simp only [add_at] at hx137_0 | simp only [Addr.add,Nat.zero_add] at hx137_0 | skip)
                          replace p137 := eq_true p137; replace q137 := eq_true q137; have p138 : 0 ≤ (x10_55 : Int) := of_decide_eq_true (by first | (with_reducible assumption) | assumption); have q138 : x10_55 < (x0_3.length : Int) := of_decide_eq_true (by first | (with_reducible assumption) | assumption); obtain ⟨ad138,e138,hx138_0⟩ := Kd.at_int (BR_reads' HO_0.out).2.2 x10_55 p138 q138; obtain rfl : (⟨go9,0,none⟩ : Addr) = ad138 := (by injection e138)
                          (first | simp only [add_plain] at hx138_0 | simp only [add_at] at hx138_0 | simp only [Addr.add,Nat.zero_add] at hx138_0 | skip)
                          replace p138 := eq_true p138; replace q138 := eq_true q138; have p105 : 0 ≤ (x10_55 : Int) := of_decide_eq_true (by first | (with_reducible assumption) | assumption); have q105 : (x10_55 : Int) < ((x0_3.length : Int) : Int) := of_decide_eq_true (by first | (with_reducible assumption) | assumption); obtain ⟨hx105_0,hf105_0⟩ := BR_celln 0 HO_0.out (x10_55 : Int) p105 q105; replace p105 := eq_true p105; replace q105 := eq_true q105; have HP109 := BR_putn HO_0.out (x10_55 : Int) (rd x0_3 x11_5); rw [← Ny139.out] at HP109; have HQ109 := Aside0.mk HP109; clear HP109; have p106 : 0 ≤ (x11_5 : Int) := of_decide_eq_true (by first | (with_reducible assumption) | assumption); have q106 : (x11_5 : Int) < ((x0_3.length : Int) : Int) := of_decide_eq_true (by first | (with_reducible assumption) | assumption); obtain ⟨hx106_0,hf106_0⟩ := BR_celln 0 HQ109.out (x11_5 : Int) p106 q106; replace p106 := eq_true p106; replace q106 := eq_true q106; have HP110 := BR_putn HQ109.out (x11_5 : Int) (rd x0_3 x10_55); rw [← Ny140.out] at HP110; have HQ110 := Aside0.mk HP110; clear HP110; refine start_ (n := 16) (S := fun w' => w'.cell? ⟨go9,(x11_5).toNat,none⟩ = some (.int .u8 (rd x0_3 x11_5)) ∧ w'.cell? ⟨go9,(x10_55).toNat,none⟩ = some (.int .u8 (rd x0_3 x10_55))) (ds := [13,15]) #[false,false,false,false,false,false,false,false,false,false,false,false,false,false,false,false] (by kernel_rfl) rfl rfl ⟨hx137_0,hx138_0⟩ (fun hHeld => ?_); refine with_tabW slices_partitionOrdered_byte.tab18 slices_partitionOrdered_byte.bits18 (fun HT_ HW_ => ?_)
                          generalize w107.drew = w108 at HO_0 HK HB HQ109 HQ110 hf105_0 hf106_0 hx105_0 hx106_0 hx137_0 hx138_0 hHeld ⊢; refine pure_ (i := 0) (N := some 135) (v := ?_) (a' := ?_) #[true,false,false,false,false,false,false,false,false,false,false,false,false,false,false,false] rfl rfl (any_of HT_.out (by kernel_rfl)) (fun _ _ _ h => h) (Or.inl ⟨by rfl,?_⟩) ?_ ?_; rotate_left
                          · intro w'; go_simp; with_reducible rfl
                          rotate_left
                          · simp only [Act.put,List.setIfInBounds_toArray,List.set_cons_zero,List.set_cons_succ,i64_w,i32_w]; rfl
                          refine pure_ (i := 1) (N := some 136) (v := ?_) (a' := ?_) #[true,true,false,false,false,false,false,false,false,false,false,false,false,false,false,false] rfl rfl (any_of HT_.out (by kernel_rfl)) (fun _ _ _ h => h) (Or.inl ⟨by rfl,?_⟩) ?_ ?_; rotate_left
                          · intro w'; go_simp; with_reducible rfl
                          rotate_left
                          · simp only [Act.put,List.setIfInBounds_toArray,List.set_cons_zero,List.set_cons_succ,i64_w,i32_w]; rfl
                          refine pure_ (i := 2) (N := some 137) (v := ?_) (a' := ?_) #[true,true,true,false,false,false,false,false,false,false,false,false,false,false,false,false] rfl rfl (any_of HT_.out (by kernel_rfl)) (fun _ _ _ h => h) (Or.inl ⟨by rfl,?_⟩) ?_ ?_; rotate_left
                          · intro w'; go_simp; with_reducible rfl
                          rotate_left
                          · simp only [Act.put,List.setIfInBounds_toArray,List.set_cons_zero,List.set_cons_succ,i64_w,i32_w]; rfl
                          refine pure_ (i := 3) (N := some 138) (v := ?_) (a' := ?_) #[true,true,true,true,false,false,false,false,false,false,false,false,false,false,false,false] rfl rfl (any_of HT_.out (by kernel_rfl)) (fun _ _ _ h => h) (Or.inl ⟨by rfl,?_⟩) ?_ ?_; rotate_left
                          · intro w'; go_simp; with_reducible rfl
                          rotate_left
                          · simp only [Act.put,List.setIfInBounds_toArray,List.set_cons_zero,List.set_cons_succ,i64_w,i32_w]; rfl
                          refine pure_ (i := 4) (N := some 139) (v := ?_) (a' := ?_) #[true,true,true,true,true,false,false,false,false,false,false,false,false,false,false,false] rfl rfl (any_of HT_.out (by kernel_rfl)) (fun _ _ _ h => h) (Or.inl ⟨by rfl,?_⟩) ?_ ?_; rotate_left
                          · intro w'; go_simp; with_reducible rfl
                          rotate_left
                          · simp only [Act.put,List.setIfInBounds_toArray,List.set_cons_zero,List.set_cons_succ,i64_w,i32_w]; rfl
                          refine pure_ (i := 5) (N := some 140) (v := ?_) (a' := ?_) #[true,true,true,true,true,true,false,false,false,false,false,false,false,false,false,false] rfl rfl (any_of HT_.out (by kernel_rfl)) (fun _ _ _ h => h) (Or.inl ⟨by rfl,?_⟩) ?_ ?_; rotate_left
                          · intro w'; go_simp; with_reducible rfl
                          rotate_left
                          · simp only [Act.put,List.setIfInBounds_toArray,List.set_cons_zero,List.set_cons_succ,i64_w,i32_w]; rfl
                          refine pure_ (i := 6) (N := some 141) (v := ?_) (a' := ?_) #[true,true,true,true,true,true,true,false,false,false,false,false,false,false,false,false] rfl rfl (any_of HT_.out (by kernel_rfl)) (fun _ _ _ h => h) (Or.inl ⟨by rfl,?_⟩) ?_ ?_; rotate_left
                          · intro w'; go_simp; with_reducible rfl
                          rotate_left
                          · simp only [Act.put,List.setIfInBounds_toArray,List.set_cons_zero,List.set_cons_succ,i64_w,i32_w]; rfl
                          refine pure_ (i := 8) (N := some 143) (v := ?_) (a' := ?_) #[true,true,true,true,true,true,true,false,true,false,false,false,false,false,false,false] rfl rfl (any_of HT_.out (by kernel_rfl)) (fun _ _ _ h => h) (Or.inl ⟨by rfl,?_⟩) ?_ ?_; rotate_left
                          · intro w'; go_simp; with_reducible rfl
                          rotate_left
                          · simp only [Act.put,List.setIfInBounds_toArray,List.set_cons_zero,List.set_cons_succ,i64_w,i32_w]; rfl
                          refine pure_ (i := 9) (N := some 144) (v := ?_) (a' := ?_) #[true,true,true,true,true,true,true,false,true,true,false,false,false,false,false,false] rfl rfl (any_of HT_.out (by kernel_rfl)) (fun _ _ _ h => h) (Or.inl ⟨by rfl,?_⟩) ?_ ?_; rotate_left
                          · intro w'; go_simp; with_reducible rfl
                          rotate_left
                          · simp only [Act.put,List.setIfInBounds_toArray,List.set_cons_zero,List.set_cons_succ,i64_w,i32_w]; rfl
                          refine pure_ (i := 10) (N := some 145) (v := ?_) (a' := ?_) #[true,true,true,true,true,true,true,false,true,true,true,false,false,false,false,false] rfl rfl (any_of HT_.out (by kernel_rfl)) (fun _ _ _ h => h) (Or.inl ⟨by rfl,?_⟩) ?_ ?_; rotate_left
                          · intro w'; go_simp; with_reducible rfl
                          rotate_left
                          · simp only [Act.put,List.setIfInBounds_toArray,List.set_cons_zero,List.set_cons_succ,i64_w,i32_w]; rfl
                          refine take_ (i := 7) (N := some 142) (v := ?_) (a' := ?_) #[true,true,true,true,true,true,true,true,true,true,true,false,false,false,false,false] rfl rfl (take_ofW HT_.out HW_.out (by kernel_rfl)) (fun _ _ _ h => h) (Or.inl ⟨by rfl,?_⟩) hHeld ?_ ?_; rotate_left
                          · rintro w' ⟨s0,s1⟩; go_simp; with_reducible rfl
                          rotate_left
                          · simp only [Act.put,List.setIfInBounds_toArray,List.set_cons_zero,List.set_cons_succ,i64_w,i32_w]; rfl
                          refine take_ (i := 11) (N := some 146) (v := ?_) (a' := ?_) #[true,true,true,true,true,true,true,true,true,true,true,true,false,false,false,false] rfl rfl (take_ofW HT_.out HW_.out (by kernel_rfl)) (fun _ _ _ h => h) (Or.inl ⟨by rfl,?_⟩) hHeld ?_ ?_; rotate_left
                          · rintro w' ⟨s0,s1⟩; go_simp; with_reducible rfl
                          rotate_left
                          · simp only [Act.put,List.setIfInBounds_toArray,List.set_cons_zero,List.set_cons_succ,i64_w,i32_w]; rfl
                          refine pure_ (i := 12) (N := some 147) (v := ?_) (a' := ?_) #[true,true,true,true,true,true,true,true,true,true,true,true,true,false,false,false] rfl rfl (any_of HT_.out (by kernel_rfl)) (fun _ _ _ h => h) (Or.inl ⟨by rfl,?_⟩) ?_ ?_; rotate_left
                          · intro w'; go_simp; with_reducible rfl
                          rotate_left
                          · simp only [Act.put,List.setIfInBounds_toArray,List.set_cons_zero,List.set_cons_succ,i64_w,i32_w]; rfl
                          refine last_ (i := 13) (N := none) #[true,true,true,true,true,true,true,true,true,true,true,true,true,true,false,false] rfl rfl (one_of HT_.out (by kernel_rfl)) (by decide) (fun K hK => ?_); refine skip_ (w1 := ?_) (by rfl) rfl ?_ ?_; rotate_left
                          · go_simp; rfl
                          refine hK.out _ _ ?_; clear hK K; refine pure_ (i := 14) (N := some 148) (v := ?_) (a' := ?_) #[true,true,true,true,true,true,true,true,true,true,true,true,true,true,true,false] rfl rfl (any_of HT_.out (by kernel_rfl)) (fun _ _ _ h => h) (Or.inl ⟨by rfl,?_⟩) ?_ ?_; rotate_left
                          · intro w'; go_simp; with_reducible rfl
                          rotate_left
                          · simp only [Act.put,List.setIfInBounds_toArray,List.set_cons_zero,List.set_cons_succ,i64_w,i32_w]; rfl
                          refine last_ (i := 15) (N := none) #[true,true,true,true,true,true,true,true,true,true,true,true,true,true,true,true] rfl rfl (one_of HT_.out (by kernel_rfl)) (by decide) (fun K hK => ?_); refine skip_ (w1 := ?_) (by rfl) rfl ?_ ?_; rotate_left
                          · go_simp; rfl
                          refine hK.out _ _ ?_; clear hK K; refine done_ (done_of HT_.out (by kernel_rfl)) ?_; try go_wp2
                          (try simp only [← hl0_3])
                          go_roundg k5
                          case measure => have := HJ10.out; have := HJ25.out; have := HK3.out; have := HJ55.out; have := HK5.out; omega
                          case rel => exact ⟨(y140),(wrap64 (x10_55 + 1)),(wrap64 (x11_5 - 1)),(by first | rfl | (simp; done) | (simp [*]; done)),(by first | rfl | (simp; done) | (simp [*]; done)),H',⟨by have := HJ10.out; have := HJ25.out; have := HK3.out; have := HJ55.out; have := HK5.out; omega⟩,⟨by (try simp only [hl0_10]); (try simp only [hl0_3]); (with_reducible repeat (first | apply BR_alloc | apply BR_drewN | apply BR_drew)); exact HQ110.out⟩,⟨by repeat (first | (with_reducible first | exact HK.out | apply Kept.alloc | apply Kept.drewN | apply Kept.drew | refine Kept.setCell ?_ HMgo9.out _ | refine Kept.setCell ?_ HMgo9.out _) | exact HK.out)⟩,⟨by repeat (first | (with_reducible first | exact HB.out | apply below_alloc | apply pw_below_drewN | apply below_drew1 | refine below_set ?_ GB9.out | refine below_set ?_ GB9.out) | exact HB.out)⟩⟩
                         · rw [if_neg c104] at H; exact absurd H (by simp)
                        · rw [if_neg c103] at H; exact absurd H (by simp)
                       · rw [if_neg c102] at H; exact absurd H (by simp)
                      · rw [if_neg c101] at H; exact absurd H (by simp)
             · rw [if_neg c50] at H; exact absurd H (by simp)
            · rw [if_neg c49] at H; exact absurd H (by simp)
           · rw [if_neg c48] at H; exact absurd H (by simp)
          · rw [if_neg c47] at H; exact absurd H (by simp)
    · rw [if_neg c8] at H; exact absurd H (by simp)
   · rw [if_neg c7] at H; exact absurd H (by simp)
  · rw [if_neg c6] at H; exact absurd H (by simp)
 · rw [if_neg c5] at H; exact absurd H (by simp)

end Go.Proofs.YtcidlaabbkimdaaDoor.P

