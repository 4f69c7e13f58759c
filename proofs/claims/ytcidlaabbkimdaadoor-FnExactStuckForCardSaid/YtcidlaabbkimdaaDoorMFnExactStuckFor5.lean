/- Part 5 of 6 of the proof of: FnExactStuckForCardSaid: the law 'FnExactStuckFor' answers true for every input, and leaves its arguments as they were. The row and its tied card, over the walk of its calls and the pure statement. -/
import Derived.Test.YtcidlaabbkimdaaDoorMFnExactStuckFor1
import Derived.Test.YtcidlaabbkimdaaDoorMFnExactStuckFor2
import Derived.Test.YtcidlaabbkimdaaDoorMFnExactStuckFor3
import Derived.Test.YtcidlaabbkimdaaDoorMFnExactStuckFor4
import Derived.Ground.NamesProg
import Derived.Shelf.SlicesE.Compact
import Derived.Lib.ConvBytes
import Derived.Lib.OwnBridge
import Derived.Ground.SlgnProg
import Derived.Laws.IdiomStrings
import Derived.Shelf.Strings.Count
import Derived.Shelf.Strings.SlTrimAscii
import Derived.Shelf.Small.Strs
-- printed by xprint.py
namespace Go.Proofs.YtcidlaabbkimdaaDoor.P
open Go.RowKit Go.Proofs.YtcidlaabbkimdaaDoorW.PrintWords Go.Proofs.YtcidlaabbkimdaaDoorW.PrintLast Go.Proofs.YtcidlaabbkimdaaDoorW.PrintMore
attribute [local go_sem] max2_int min2_int max_two min_two max_three min_three max_four min_four   -- for this text's walks alone
set_option linter.unusedVariables false
set_option linter.unusedSimpArgs false

/-! ### slices_reverseRangeOrdered_byte: function 80 -/
def slices_reverseRangeOrdered_byte.l0 : Nat → List Int → Int → Int → Option (List Int)
 | 0,_,_,_ => none
 | k + 1,x0,x6,x7 => if x6 < x7 then (if 0 ≤ x7 then (if x7 < (x0.length : Int) then (if 0 ≤ x6 then (if x6 < (x0.length : Int) then (slices_reverseRangeOrdered_byte.l0 k ((x0.set (x6 : Int).toNat (rd x0 x7)).set (x7 : Int).toNat (rd x0 x6)) (wrap64 (x6 + 1)) (wrap64 (x7 - 1))) else (none)) else (none)) else (none)) else (none)) else (some x0)
def slices_reverseRangeOrdered_byte.f (k : Nat) (l0 : List Int) (a1 : Int) (a2 : Int) : Option (List Int) := slices_reverseRangeOrdered_byte.l0 k l0 a1 (wrap64 (a2 - 1))
theorem slices_reverseRangeOrdered_byte.mono_l : ∀ k,(∀ y0 y1 y2,LeO (slices_reverseRangeOrdered_byte.l0 k y0 y1 y2) (slices_reverseRangeOrdered_byte.l0 (k + 1) y0 y1 y2))
 | 0 => by intros; intro r h; simp [slices_reverseRangeOrdered_byte.l0] at h
 | k + 1 => by
  have ih0 := slices_reverseRangeOrdered_byte.mono_l k
  ·
   intro y0 y1 y2
   unfold slices_reverseRangeOrdered_byte.l0
   repeat' first
   | (with_reducible exact ih0 _ _ _)
   | (with_reducible exact LeO.refl _)
   | (with_reducible exact LeO.none _)
   | (with_reducible refine LeO.ite ?_ ?_)
   | (with_reducible refine LeO.bind ?_ (fun _ => ?_))
   | exact ih0 _ _ _
   | exact LeO.none _
   | refine LeO.ite ?_ ?_
   | refine LeO.bind ?_ (fun _ => ?_)
theorem slices_reverseRangeOrdered_byte.mono : ∀ y0 y1 y2 k,LeO (slices_reverseRangeOrdered_byte.f k y0 y1 y2) (slices_reverseRangeOrdered_byte.f (k + 1) y0 y1 y2) := by
 intro y0 y1 y2 k; have ih0 := slices_reverseRangeOrdered_byte.mono_l k
 unfold slices_reverseRangeOrdered_byte.f
 repeat' first
   | (with_reducible exact ih0 _ _ _)
   | (with_reducible exact LeO.refl _)
   | (with_reducible exact LeO.none _)
   | (with_reducible refine LeO.ite ?_ ?_)
   | (with_reducible refine LeO.bind ?_ (fun _ => ?_))
   | exact ih0 _ _ _
   | exact LeO.none _
   | refine LeO.ite ?_ ?_
   | refine LeO.bind ?_ (fun _ => ?_)
def slices_reverseRangeOrdered_byte.T3 : Bool × List (List Nat × List Nat) := (true,[([],[]),([],[]),([],[]),([],[]),([],[]),([],[]),([4,5],[4,5]),([6],[6]),([],[]),([],[]),([8,9],[8,9]),([10],[10]),([0,1,0,1,4,5,6,7,11],[0,1]),([12,7,0,1,4,5,6,7,11],[7,12]),([2,3,0,1,2,3,4,5,6,7,8,9,10,11,12,13],[2,3]),([14,11,13,0,1,2,3,4,5,6,7,8,9,10,11,12,13],[11,14])])
def slices_reverseRangeOrdered_byte.B3 : List Nat := [0,0,0,0,0,0,48,112,0,0,768,1792,4083,8179,16383,32767]
theorem slices_reverseRangeOrdered_byte.tab3 : rtab .any (opsOf Tryd.f80 3) = slices_reverseRangeOrdered_byte.T3 := by kernel_rfl
theorem slices_reverseRangeOrdered_byte.bits3 : waitsOk slices_reverseRangeOrdered_byte.T3.2 slices_reverseRangeOrdered_byte.B3 = true := by kernel_rfl
set_option maxHeartbeats 8000000 in
set_option maxRecDepth 100000 in
theorem slices_reverseRangeOrdered_byte.calls (k : Nat) (P0_ : Nat → Prop) (u9000_ : Value) (l0 : List Int) (a1 : Int) (a2 : Int) (r : List Int) (w0 w : World) (hB : Below w0.heap.size w0 w) (ho0 : BR w w0.heap.size P0_ u9000_ l0) (h : slices_reverseRangeOrdered_byte.f k l0 a1 a2 = some r) :
  Calls Tryd.prog 80 #[u9000_,.int .i64 a1,.int .i64 a2] w fun e w' => e = .returned (.tuple #[]) ∧ BR w' w0.heap.size (fun k_ => (P0_ k_ ∨ w.heap.size ≤ k_)) u9000_ r ∧ Below w0.heap.size w0 w' ∧ Kept w w' (fun k_ => P0_ k_) := by
 have HO0 := Aside0.mk (show BR w w0.heap.size (fun k_ => (P0_ k_ ∨ w.heap.size ≤ k_)) u9000_ l0 from BR_mono ho0 (fun k_ hk => (.inl hk))); have HK := Aside0.mk (Kept.refl w (fun k_ => P0_ k_)); have HW0 := Aside0.mk hB.size; have HB := Aside0.mk hB; clear hB; have H : (slices_reverseRangeOrdered_byte.l0 k l0 a1 (wrap64 (a2 - 1))) = some r := h; clear h; have H' := Aside0.mk H; clear H
 go_enter Tryd.func80,Tryd.ntmps80
 go_wp2
 go_loopg [6,7] k (fun kq v6 v7 w' => ∃ (x0_1 : List Int) (x6_1 : Int) (x7_1 : Int),v6 = .int .i64 x6_1 ∧ v7 = .int .i64 x7_1 ∧ Aside0 (slices_reverseRangeOrdered_byte.l0 kq x0_1 x6_1 x7_1 = some r) ∧ Aside0 (kq ≤ k) ∧ Aside0 (BR w' w0.heap.size (fun k_ => (P0_ k_ ∨ w.heap.size ≤ k_)) u9000_ x0_1) ∧ Aside0 (Kept w w' (fun k_ => P0_ k_)) ∧ Aside0 (Below w0.heap.size w0 w'))
 case atStart => exact ⟨(l0),(a1),(wrap64 (a2 - 1)),(by first | rfl | (simp; done) | (simp [*]; done)),(by first | rfl | (simp; done) | (simp [*]; done)),H',⟨Nat.le_refl _⟩,⟨by (with_reducible repeat (first | apply BR_alloc | apply BR_drewN | apply BR_drew)); exact HO0.out⟩,⟨by repeat (first | (with_reducible first | exact HK.out | apply Kept.alloc | apply Kept.drewN | apply Kept.drew) | exact HK.out)⟩,⟨by repeat (first | (with_reducible first | exact HB.out | apply below_alloc | apply pw_below_drewN | apply below_drew1) | exact HB.out)⟩⟩
 case round =>
  clear H'; try clear p2
  obtain ⟨x0_1,x6_1,x7_1,rfl,rfl,HA,HK1,HO_0,HK,HB⟩ := hrel
  cases gk with
  | zero => exact absurd HA.out (by simp [slices_reverseRangeOrdered_byte.l0])
  | succ k1 =>
   have H := HA.out; clear HA; simp only [slices_reverseRangeOrdered_byte.l0] at H
   by_cases c4 : x6_1 < x7_1
   ·
    rw [if_pos c4] at H; have c4b0 : decide (x6_1 < x7_1) = true := decide_eq_true c4; clear c4
    by_cases c5 : 0 ≤ x7_1
    ·
     rw [if_pos c5] at H; have c5b0 : decide (0 ≤ x7_1) = true := decide_eq_true c5; clear c5
     by_cases c6 : x7_1 < (x0_1.length : Int)
     ·
      rw [if_pos c6] at H; have c6b0 : decide (x7_1 < (x0_1.length : Int)) = true := decide_eq_true c6; clear c6
      by_cases c7 : 0 ≤ x6_1
      ·
       rw [if_pos c7] at H; have c7b0 : decide (0 ≤ x6_1) = true := decide_eq_true c7; clear c7
       by_cases c8 : x6_1 < (x0_1.length : Int)
       ·
        rw [if_pos c8] at H; have c8b0 : decide (x6_1 < (x0_1.length : Int)) = true := decide_eq_true c8; clear c8; obtain ⟨y103,hy103⟩ : ∃ y_ : List Int,y_ = (x0_1.set (x6_1 : Int).toNat (rd x0_1 x7_1)) := ⟨_,rfl⟩; replace H : (slices_reverseRangeOrdered_byte.l0 k1 (y103.set (x7_1 : Int).toNat (rd x0_1 x6_1)) (wrap64 (x6_1 + 1)) (wrap64 (x7_1 - 1))) = some r := by first | (rw [hy103]; with_reducible exact H) | (have H2_ := (Option.bind_some _ _).symm.trans H; rw [hy103]; with_reducible exact H2_) | (have H2_ := (Option.bind_some _ _).symm.trans H; with_reducible exact H2_) | with_reducible exact H | (rw [hy103]; exact H) | exact H
        have Ny103 := Aside0.mk hy103; clear hy103; obtain ⟨y104,hy104⟩ : ∃ y_ : List Int,y_ = (y103.set (x7_1 : Int).toNat (rd x0_1 x6_1)) := ⟨_,rfl⟩; replace H : (slices_reverseRangeOrdered_byte.l0 k1 y104 (wrap64 (x6_1 + 1)) (wrap64 (x7_1 - 1))) = some r := by first | (rw [hy104]; with_reducible exact H) | (have H2_ := (Option.bind_some _ _).symm.trans H; rw [hy104]; with_reducible exact H2_) | (have H2_ := (Option.bind_some _ _).symm.trans H; with_reducible exact H2_) | with_reducible exact H | (rw [hy104]; exact H) | exact H
        have Ny104 := Aside0.mk hy104; clear hy104; have H' := Aside0.mk H; clear H; try go_wp2
        have n0_ := Aside0.mk (BR_drew HO_0.out); have n1_ := Aside0.mk (Kept.drew HK.out); have n2_ := Aside0.mk (below_drew1 HB.out); clear HO_0; clear HK; clear HB; have HO_0 := n0_; have HK := n1_; have HB := n2_; clear n0_ n1_ n2_; obtain ⟨Ao12,co12,eo12⟩ := BR_slice HO_0.out
        (first | subst eo12 | (injection eo12 with f1_ f2_ f3_; have f4_ := f1_.symm; have f5_ := f3_.symm; clear f1_ f2_ f3_; subst f4_; subst f5_))
        have p101 : 0 ≤ (x7_1 : Int) := of_decide_eq_true (by first | (with_reducible assumption) | assumption); have q101 : x7_1 < (x0_1.length : Int) := of_decide_eq_true (by first | (with_reducible assumption) | assumption); obtain ⟨ad101,e101,hx101_0⟩ := Kd.at_int (BR_reads' HO_0.out).2.2 x7_1 p101 q101
        cases e101
        replace p101 := eq_true p101; replace q101 := eq_true q101; have p102 : 0 ≤ (x6_1 : Int) := of_decide_eq_true (by first | (with_reducible assumption) | assumption); have q102 : x6_1 < (x0_1.length : Int) := of_decide_eq_true (by first | (with_reducible assumption) | assumption); obtain ⟨ad102,e102,hx102_0⟩ := Kd.at_int (BR_reads' HO_0.out).2.2 x6_1 p102 q102; obtain rfl : ad101 = ad102 := (by injection e102); replace p102 := eq_true p102; replace q102 := eq_true q102; have p9 : 0 ≤ (x6_1 : Int) := of_decide_eq_true (by first | (with_reducible assumption) | assumption); have q9 : (x6_1 : Int) < ((x0_1.length : Int) : Int) := of_decide_eq_true (by first | (with_reducible assumption) | assumption); obtain ⟨go9,co9,eo9,gb9,gl9,cl9,HG9⟩ := BR_form HO_0.out (by omega)
        (first | cases eo9 | (injection eo9 with ea_ en_ ec_; (first | subst ea_ | (injection ea_ with ea_; subst ea_)); subst ec_; clear en_))
        have GB9 := Aside0.mk gb9; have GG9 := Aside0.mk HG9; clear gb9 gl9 HG9; have HMgo9 := Aside0.mk (show (P0_ go9 ∨ w.heap.size ≤ go9) from (HO_0.out.1 _ rfl))
        (first | simp only [add_plain] at hx101_0 | skip)
        (first | simp only [add_plain] at hx102_0 | skip)
        obtain ⟨hx9_0,hf9_0⟩ := BR_celln 0 HO_0.out (x6_1 : Int) p9 q9; replace p9 := eq_true p9; replace q9 := eq_true q9; have HP13 := BR_putn HO_0.out (x6_1 : Int) (rd x0_1 x7_1); rw [← Ny103.out] at HP13; have HQ13 := Aside0.mk HP13; clear HP13; have p10 : 0 ≤ (x7_1 : Int) := of_decide_eq_true (by first | (with_reducible assumption) | assumption); have q10 : (x7_1 : Int) < ((x0_1.length : Int) : Int) := of_decide_eq_true (by first | (with_reducible assumption) | assumption); obtain ⟨hx10_0,hf10_0⟩ := BR_celln 0 HQ13.out (x7_1 : Int) p10 q10; replace p10 := eq_true p10; replace q10 := eq_true q10; have HP14 := BR_putn HQ13.out (x7_1 : Int) (rd x0_1 x6_1); rw [← Ny104.out] at HP14; have HQ14 := Aside0.mk HP14; clear HP14; refine start_ (n := 16) (S := fun w' => w'.cell? ⟨go9,(x7_1).toNat,none⟩ = some (.int .u8 (rd x0_1 x7_1)) ∧ w'.cell? ⟨go9,(x6_1).toNat,none⟩ = some (.int .u8 (rd x0_1 x6_1))) (ds := [13,15]) #[false,false,false,false,false,false,false,false,false,false,false,false,false,false,false,false] (by kernel_rfl) rfl rfl ⟨hx101_0,hx102_0⟩ (fun hHeld => ?_); refine with_tabW slices_reverseRangeOrdered_byte.tab3 slices_reverseRangeOrdered_byte.bits3 (fun HT_ HW_ => ?_)
        generalize wr.drew = w11 at HO_0 HK HB GG9 HQ13 HQ14 hf10_0 hf9_0 hx101_0 hx102_0 hx10_0 hx9_0 hHeld ⊢; refine pure_ (i := 0) (N := some 14) (v := ?_) (a' := ?_) #[true,false,false,false,false,false,false,false,false,false,false,false,false,false,false,false] rfl rfl (any_of HT_.out (by kernel_rfl)) (fun _ _ _ h => h) (Or.inl ⟨by rfl,?_⟩) ?_ ?_; rotate_left
        · intro w'; go_simp; with_reducible rfl
        rotate_left
        · simp only [Act.put,List.setIfInBounds_toArray,List.set_cons_zero,List.set_cons_succ,i64_w,i32_w]; rfl
        refine pure_ (i := 1) (N := some 15) (v := ?_) (a' := ?_) #[true,true,false,false,false,false,false,false,false,false,false,false,false,false,false,false] rfl rfl (any_of HT_.out (by kernel_rfl)) (fun _ _ _ h => h) (Or.inl ⟨by rfl,?_⟩) ?_ ?_; rotate_left
        · intro w'; go_simp; with_reducible rfl
        rotate_left
        · simp only [Act.put,List.setIfInBounds_toArray,List.set_cons_zero,List.set_cons_succ,i64_w,i32_w]; rfl
        refine pure_ (i := 2) (N := some 16) (v := ?_) (a' := ?_) #[true,true,true,false,false,false,false,false,false,false,false,false,false,false,false,false] rfl rfl (any_of HT_.out (by kernel_rfl)) (fun _ _ _ h => h) (Or.inl ⟨by rfl,?_⟩) ?_ ?_; rotate_left
        · intro w'; go_simp; with_reducible rfl
        rotate_left
        · simp only [Act.put,List.setIfInBounds_toArray,List.set_cons_zero,List.set_cons_succ,i64_w,i32_w]; rfl
        refine pure_ (i := 3) (N := some 17) (v := ?_) (a' := ?_) #[true,true,true,true,false,false,false,false,false,false,false,false,false,false,false,false] rfl rfl (any_of HT_.out (by kernel_rfl)) (fun _ _ _ h => h) (Or.inl ⟨by rfl,?_⟩) ?_ ?_; rotate_left
        · intro w'; go_simp; with_reducible rfl
        rotate_left
        · simp only [Act.put,List.setIfInBounds_toArray,List.set_cons_zero,List.set_cons_succ,i64_w,i32_w]; rfl
        refine pure_ (i := 4) (N := some 18) (v := ?_) (a' := ?_) #[true,true,true,true,true,false,false,false,false,false,false,false,false,false,false,false] rfl rfl (any_of HT_.out (by kernel_rfl)) (fun _ _ _ h => h) (Or.inl ⟨by rfl,?_⟩) ?_ ?_; rotate_left
        · intro w'; go_simp; with_reducible rfl
        rotate_left
        · simp only [Act.put,List.setIfInBounds_toArray,List.set_cons_zero,List.set_cons_succ,i64_w,i32_w]; rfl
        refine pure_ (i := 5) (N := some 19) (v := ?_) (a' := ?_) #[true,true,true,true,true,true,false,false,false,false,false,false,false,false,false,false] rfl rfl (any_of HT_.out (by kernel_rfl)) (fun _ _ _ h => h) (Or.inl ⟨by rfl,?_⟩) ?_ ?_; rotate_left
        · intro w'; go_simp; with_reducible rfl
        rotate_left
        · simp only [Act.put,List.setIfInBounds_toArray,List.set_cons_zero,List.set_cons_succ,i64_w,i32_w]; rfl
        refine pure_ (i := 6) (N := some 20) (v := ?_) (a' := ?_) #[true,true,true,true,true,true,true,false,false,false,false,false,false,false,false,false] rfl rfl (any_of HT_.out (by kernel_rfl)) (fun _ _ _ h => h) (Or.inl ⟨by rfl,?_⟩) ?_ ?_; rotate_left
        · intro w'; go_simp; with_reducible rfl
        rotate_left
        · simp only [Act.put,List.setIfInBounds_toArray,List.set_cons_zero,List.set_cons_succ,i64_w,i32_w]; rfl
        refine pure_ (i := 8) (N := some 22) (v := ?_) (a' := ?_) #[true,true,true,true,true,true,true,false,true,false,false,false,false,false,false,false] rfl rfl (any_of HT_.out (by kernel_rfl)) (fun _ _ _ h => h) (Or.inl ⟨by rfl,?_⟩) ?_ ?_; rotate_left
        · intro w'; go_simp; with_reducible rfl
        rotate_left
        · simp only [Act.put,List.setIfInBounds_toArray,List.set_cons_zero,List.set_cons_succ,i64_w,i32_w]; rfl
        refine pure_ (i := 9) (N := some 23) (v := ?_) (a' := ?_) #[true,true,true,true,true,true,true,false,true,true,false,false,false,false,false,false] rfl rfl (any_of HT_.out (by kernel_rfl)) (fun _ _ _ h => h) (Or.inl ⟨by rfl,?_⟩) ?_ ?_; rotate_left
        · intro w'; go_simp; with_reducible rfl
        rotate_left
        · simp only [Act.put,List.setIfInBounds_toArray,List.set_cons_zero,List.set_cons_succ,i64_w,i32_w]; rfl
        refine pure_ (i := 10) (N := some 24) (v := ?_) (a' := ?_) #[true,true,true,true,true,true,true,false,true,true,true,false,false,false,false,false] rfl rfl (any_of HT_.out (by kernel_rfl)) (fun _ _ _ h => h) (Or.inl ⟨by rfl,?_⟩) ?_ ?_; rotate_left
        · intro w'; go_simp; with_reducible rfl
        rotate_left
        · simp only [Act.put,List.setIfInBounds_toArray,List.set_cons_zero,List.set_cons_succ,i64_w,i32_w]; rfl
        refine take_ (i := 7) (N := some 21) (v := ?_) (a' := ?_) #[true,true,true,true,true,true,true,true,true,true,true,false,false,false,false,false] rfl rfl (take_ofW HT_.out HW_.out (by kernel_rfl)) (fun _ _ _ h => h) (Or.inl ⟨by rfl,?_⟩) hHeld ?_ ?_; rotate_left
        · rintro w' ⟨s0,s1⟩; go_simp; with_reducible rfl
        rotate_left
        · simp only [Act.put,List.setIfInBounds_toArray,List.set_cons_zero,List.set_cons_succ,i64_w,i32_w]; rfl
        refine take_ (i := 11) (N := some 25) (v := ?_) (a' := ?_) #[true,true,true,true,true,true,true,true,true,true,true,true,false,false,false,false] rfl rfl (take_ofW HT_.out HW_.out (by kernel_rfl)) (fun _ _ _ h => h) (Or.inl ⟨by rfl,?_⟩) hHeld ?_ ?_; rotate_left
        · rintro w' ⟨s0,s1⟩; go_simp; with_reducible rfl
        rotate_left
        · simp only [Act.put,List.setIfInBounds_toArray,List.set_cons_zero,List.set_cons_succ,i64_w,i32_w]; rfl
        refine pure_ (i := 12) (N := some 26) (v := ?_) (a' := ?_) #[true,true,true,true,true,true,true,true,true,true,true,true,true,false,false,false] rfl rfl (any_of HT_.out (by kernel_rfl)) (fun _ _ _ h => h) (Or.inl ⟨by rfl,?_⟩) ?_ ?_; rotate_left
        · intro w'; go_simp; with_reducible rfl
        rotate_left
        · simp only [Act.put,List.setIfInBounds_toArray,List.set_cons_zero,List.set_cons_succ,i64_w,i32_w]; rfl
        refine last_ (i := 13) (N := none) #[true,true,true,true,true,true,true,true,true,true,true,true,true,true,false,false] rfl rfl (one_of HT_.out (by kernel_rfl)) (by decide) (fun K hK => ?_); refine skip_ (w1 := ?_) (by rfl) rfl ?_ ?_; rotate_left
        · go_simp; rfl
        refine hK.out _ _ ?_; clear hK K; refine pure_ (i := 14) (N := some 27) (v := ?_) (a' := ?_) #[true,true,true,true,true,true,true,true,true,true,true,true,true,true,true,false] rfl rfl (any_of HT_.out (by kernel_rfl)) (fun _ _ _ h => h) (Or.inl ⟨by rfl,?_⟩) ?_ ?_; rotate_left
        · intro w'; go_simp; with_reducible rfl
        rotate_left
        · simp only [Act.put,List.setIfInBounds_toArray,List.set_cons_zero,List.set_cons_succ,i64_w,i32_w]; rfl
        refine last_ (i := 15) (N := none) #[true,true,true,true,true,true,true,true,true,true,true,true,true,true,true,true] rfl rfl (one_of HT_.out (by kernel_rfl)) (by decide) (fun K hK => ?_); refine skip_ (w1 := ?_) (by rfl) rfl ?_ ?_; rotate_left
        · go_simp; rfl
        refine hK.out _ _ ?_; clear hK K; refine done_ (done_of HT_.out (by kernel_rfl)) ?_; try go_wp2
        go_roundg k1
        case measure => have := HK1.out; omega
        case rel => exact ⟨(y104),(wrap64 (x6_1 + 1)),(wrap64 (x7_1 - 1)),(by first | rfl | (simp; done) | (simp [*]; done)),(by first | rfl | (simp; done) | (simp [*]; done)),H',⟨by have := HK1.out; omega⟩,⟨by (with_reducible repeat (first | apply BR_alloc | apply BR_drewN | apply BR_drew)); exact HQ14.out⟩,⟨by repeat (first | (with_reducible first | exact HK.out | apply Kept.alloc | apply Kept.drewN | apply Kept.drew | refine Kept.setCell ?_ HMgo9.out _ | refine Kept.setCell ?_ HMgo9.out _) | exact HK.out)⟩,⟨by repeat (first | (with_reducible first | exact HB.out | apply below_alloc | apply pw_below_drewN | apply below_drew1 | refine below_set ?_ GB9.out | refine below_set ?_ GB9.out) | exact HB.out)⟩⟩
       · rw [if_neg c8] at H; exact absurd H (by simp)
      · rw [if_neg c7] at H; exact absurd H (by simp)
     · rw [if_neg c6] at H; exact absurd H (by simp)
    · rw [if_neg c5] at H; exact absurd H (by simp)
   ·
    rw [if_neg c4] at H; have c4b0 : decide (x6_1 < x7_1) = false := decide_eq_false c4; clear c4; obtain rfl := Option.some.inj H; go_wp2
    first | go_end0 | ((try simp only [Exit.inBlock,Exit.then]); refine bodyPost_ret (results_none rfl _ _ _) rfl ?_)
    exact ⟨by first | rfl | (simp [errW_none,errW_some] <;> rfl) | (simp [*,errW_none,errW_some] <;> rfl),by (with_reducible repeat (first | apply BR_alloc | apply BR_drewN | apply BR_drew)); exact HO_0.out,by repeat (first | (with_reducible first | exact HB.out | apply below_alloc | apply pw_below_drewN | apply below_drew1) | exact HB.out),by repeat (first | (with_reducible first | exact HK.out | apply Kept.alloc | apply Kept.drewN | apply Kept.drew) | exact HK.out)⟩

end Go.Proofs.YtcidlaabbkimdaaDoor.P

-- printed by xprint.py
namespace Go.Proofs.YtcidlaabbkimdaaDoor.P
open Go.RowKit Go.Proofs.YtcidlaabbkimdaaDoorW.PrintWords Go.Proofs.YtcidlaabbkimdaaDoorW.PrintLast Go.Proofs.YtcidlaabbkimdaaDoorW.PrintMore
attribute [local go_sem] max2_int min2_int max_two min_two max_three min_three max_four min_four   -- for this text's walks alone
set_option linter.unusedVariables false
set_option linter.unusedSimpArgs false

/-! ### slices_pdqsortOrdered_byte: function 61 -/
mutual
def slices_pdqsortOrdered_byte.l0 : Nat → List Int → Int → Int → Int → Bool → Bool → Option (List Int)
 | 0,_,_,_,_,_,_ => none
 | k + 1,x0,x1,x2,x3,x8,x9 => if (wrap64 (x2 - x1)) ≤ 12 then ((slices_insertionSortOrdered_byte.f k x0 x1 x2).bind fun t101 => (some t101)) else (if x3 = 0 then ((slices_heapSortOrdered_byte.f k x0 x1 x2).bind fun t102 => (some t102)) else (if x8 = true then (slices_pdqsortOrdered_byte.j1 k x0 x1 x2 x3 x8 x9 (wrap64 (x2 - x1))) else ((slices_breakPatternsOrdered_byte.f x0 x1 x2).bind fun t103 => (slices_pdqsortOrdered_byte.j1 k t103 x1 x2 (wrap64 (x3 - 1)) x8 x9 (wrap64 (x2 - x1))))))
def slices_pdqsortOrdered_byte.j1 : Nat → List Int → Int → Int → Int → Bool → Bool → Int → Option (List Int)
 | 0,_,_,_,_,_,_,_ => none
 | k + 1,x0,x1,x2,x3,x8,x9,x10 => (slices_choosePivotOrdered_byte.f x0 x1 x2).bind fun bt104 => (if bt104.2 = 2 then ((slices_reverseRangeOrdered_byte.f k x0 x1 x2).bind fun t106 => (slices_pdqsortOrdered_byte.j2 k t106 x1 x2 x3 x8 x9 x10 (wrap64 ((wrap64 (x2 - 1)) - (wrap64 (bt104.1 - x1)))) 1)) else (slices_pdqsortOrdered_byte.j2 k x0 x1 x2 x3 x8 x9 x10 bt104.1 bt104.2))
def slices_pdqsortOrdered_byte.j2 : Nat → List Int → Int → Int → Int → Bool → Bool → Int → Int → Int → Option (List Int)
 | 0,_,_,_,_,_,_,_,_,_ => none
 | k + 1,x0,x1,x2,x3,x8,x9,x10,x11,x12 => if x8 = true then (if x9 = true then (slices_pdqsortOrdered_byte.j3 k x0 x1 x2 x3 x8 x9 x10 x11 (x12 == 1)) else (slices_pdqsortOrdered_byte.j3 k x0 x1 x2 x3 x8 x9 x10 x11 false)) else (slices_pdqsortOrdered_byte.j3 k x0 x1 x2 x3 x8 x9 x10 x11 false)
def slices_pdqsortOrdered_byte.j3 : Nat → List Int → Int → Int → Int → Bool → Bool → Int → Int → Bool → Option (List Int)
 | 0,_,_,_,_,_,_,_,_,_ => none
 | k + 1,x0,x1,x2,x3,x8,x9,x10,x11,x68 => if x68 = true then ((slices_partialInsertionSortOrdered_byte.f k x0 x1 x2).bind fun bt107 => (if bt107.1 = true then (some bt107.2) else (slices_pdqsortOrdered_byte.j4 k bt107.2 x1 x2 x3 x8 x9 x10 x11))) else (slices_pdqsortOrdered_byte.j4 k x0 x1 x2 x3 x8 x9 x10 x11)
def slices_pdqsortOrdered_byte.j4 : Nat → List Int → Int → Int → Int → Bool → Bool → Int → Int → Option (List Int)
 | 0,_,_,_,_,_,_,_,_ => none
 | k + 1,x0,x1,x2,x3,x8,x9,x10,x11 => if x1 > 0 then (if 0 ≤ (wrap64 (x1 - 1)) then (if (wrap64 (x1 - 1)) < (x0.length : Int) then (if 0 ≤ x11 then (if x11 < (x0.length : Int) then ((cmp_Less_byte.f (rd x0 (wrap64 (x1 - 1))) (rd x0 x11)).bind fun t111 => (slices_pdqsortOrdered_byte.j5 k x0 x1 x2 x3 x8 x9 x10 x11 (!t111))) else (none)) else (none)) else (none)) else (none)) else (slices_pdqsortOrdered_byte.j5 k x0 x1 x2 x3 x8 x9 x10 x11 false)
def slices_pdqsortOrdered_byte.j5 : Nat → List Int → Int → Int → Int → Bool → Bool → Int → Int → Bool → Option (List Int)
 | 0,_,_,_,_,_,_,_,_,_ => none
 | k + 1,x0,x1,x2,x3,x8,x9,x10,x11,x87 => if x87 = true then ((slices_partitionEqualOrdered_byte.f k x0 x1 x2 x11).bind fun bt112 => (slices_pdqsortOrdered_byte.l0 k bt112.2 bt112.1 x2 x3 x8 x9)) else ((slices_partitionOrdered_byte.f k x0 x1 x2 x11).bind fun bt114 => (if (wrap64 (bt114.1 - x1)) < (wrap64 (x2 - bt114.1)) then ((slices_pdqsortOrdered_byte.f k bt114.2.2 x1 bt114.1 x3).bind fun t117 => (slices_pdqsortOrdered_byte.l0 k t117 (wrap64 (bt114.1 + 1)) x2 x3 (decide ((wrap64 (bt114.1 - x1)) ≥ (wrap64 (Int.tdiv x10 8)))) bt114.2.1)) else ((slices_pdqsortOrdered_byte.f k bt114.2.2 (wrap64 (bt114.1 + 1)) x2 x3).bind fun t118 => (slices_pdqsortOrdered_byte.l0 k t118 x1 bt114.1 x3 (decide ((wrap64 (x2 - bt114.1)) ≥ (wrap64 (Int.tdiv x10 8)))) bt114.2.1))))
def slices_pdqsortOrdered_byte.f : Nat → List Int → Int → Int → Int → Option (List Int)
 | 0,_,_,_,_ => none
 | k + 1,l0,a1,a2,a3 => slices_pdqsortOrdered_byte.l0 k l0 a1 a2 a3 true true
end
theorem slices_pdqsortOrdered_byte.mono_l : ∀ k,(∀ y0 y1 y2 y3,LeO (slices_pdqsortOrdered_byte.f k y0 y1 y2 y3) (slices_pdqsortOrdered_byte.f (k + 1) y0 y1 y2 y3)) ∧ (∀ y0 y1 y2 y3 y4 y5,LeO (slices_pdqsortOrdered_byte.l0 k y0 y1 y2 y3 y4 y5) (slices_pdqsortOrdered_byte.l0 (k + 1) y0 y1 y2 y3 y4 y5)) ∧ (∀ y0 y1 y2 y3 y4 y5 y6,LeO (slices_pdqsortOrdered_byte.j1 k y0 y1 y2 y3 y4 y5 y6) (slices_pdqsortOrdered_byte.j1 (k + 1) y0 y1 y2 y3 y4 y5 y6)) ∧ (∀ y0 y1 y2 y3 y4 y5 y6 y7 y8,LeO (slices_pdqsortOrdered_byte.j2 k y0 y1 y2 y3 y4 y5 y6 y7 y8) (slices_pdqsortOrdered_byte.j2 (k + 1) y0 y1 y2 y3 y4 y5 y6 y7 y8)) ∧ (∀ y0 y1 y2 y3 y4 y5 y6 y7 y8,LeO (slices_pdqsortOrdered_byte.j3 k y0 y1 y2 y3 y4 y5 y6 y7 y8) (slices_pdqsortOrdered_byte.j3 (k + 1) y0 y1 y2 y3 y4 y5 y6 y7 y8)) ∧ (∀ y0 y1 y2 y3 y4 y5 y6 y7,LeO (slices_pdqsortOrdered_byte.j4 k y0 y1 y2 y3 y4 y5 y6 y7) (slices_pdqsortOrdered_byte.j4 (k + 1) y0 y1 y2 y3 y4 y5 y6 y7)) ∧ (∀ y0 y1 y2 y3 y4 y5 y6 y7 y8,LeO (slices_pdqsortOrdered_byte.j5 k y0 y1 y2 y3 y4 y5 y6 y7 y8) (slices_pdqsortOrdered_byte.j5 (k + 1) y0 y1 y2 y3 y4 y5 y6 y7 y8))
 | 0 => ⟨by intros; intro r h; simp [slices_pdqsortOrdered_byte.f] at h,by intros; intro r h; simp [slices_pdqsortOrdered_byte.l0] at h,by intros; intro r h; simp [slices_pdqsortOrdered_byte.j1] at h,by intros; intro r h; simp [slices_pdqsortOrdered_byte.j2] at h,by intros; intro r h; simp [slices_pdqsortOrdered_byte.j3] at h,by intros; intro r h; simp [slices_pdqsortOrdered_byte.j4] at h,by intros; intro r h; simp [slices_pdqsortOrdered_byte.j5] at h⟩
 | k + 1 => by
  obtain ⟨ih0,ih1,ih2,ih3,ih4,ih5,ih6⟩ := slices_pdqsortOrdered_byte.mono_l k; refine ⟨?_,?_,?_,?_,?_,?_,?_⟩
  ·
   intro y0 y1 y2 y3
   unfold slices_pdqsortOrdered_byte.f
   repeat' first
   | (with_reducible exact ih0 _ _ _ _)
   | (with_reducible exact ih1 _ _ _ _ _ _)
   | (with_reducible exact ih2 _ _ _ _ _ _ _)
   | (with_reducible exact ih3 _ _ _ _ _ _ _ _ _)
   | (with_reducible exact ih4 _ _ _ _ _ _ _ _ _)
   | (with_reducible exact ih5 _ _ _ _ _ _ _ _)
   | (with_reducible exact ih6 _ _ _ _ _ _ _ _ _)
   | (with_reducible exact slices_heapSortOrdered_byte.mono _ _ _ _)
   | (with_reducible exact slices_insertionSortOrdered_byte.mono _ _ _ _)
   | (with_reducible exact slices_partialInsertionSortOrdered_byte.mono _ _ _ _)
   | (with_reducible exact slices_partitionEqualOrdered_byte.mono _ _ _ _ _)
   | (with_reducible exact slices_partitionOrdered_byte.mono _ _ _ _ _)
   | (with_reducible exact slices_reverseRangeOrdered_byte.mono _ _ _ _)
   | (with_reducible exact LeO.refl _)
   | (with_reducible exact LeO.none _)
   | (with_reducible refine LeO.ite ?_ ?_)
   | (with_reducible refine LeO.bind ?_ (fun _ => ?_))
   | exact ih0 _ _ _ _
   | exact ih1 _ _ _ _ _ _
   | exact ih2 _ _ _ _ _ _ _
   | exact ih3 _ _ _ _ _ _ _ _ _
   | exact ih4 _ _ _ _ _ _ _ _ _
   | exact ih5 _ _ _ _ _ _ _ _
   | exact ih6 _ _ _ _ _ _ _ _ _
   | exact slices_heapSortOrdered_byte.mono _ _ _ _
   | exact slices_insertionSortOrdered_byte.mono _ _ _ _
   | exact slices_partialInsertionSortOrdered_byte.mono _ _ _ _
   | exact slices_partitionEqualOrdered_byte.mono _ _ _ _ _
   | exact slices_partitionOrdered_byte.mono _ _ _ _ _
   | exact slices_reverseRangeOrdered_byte.mono _ _ _ _
   | exact LeO.none _
   | refine LeO.ite ?_ ?_
   | refine LeO.bind ?_ (fun _ => ?_)
  ·
   intro y0 y1 y2 y3 y4 y5
   unfold slices_pdqsortOrdered_byte.l0
   repeat' first
   | (with_reducible exact ih0 _ _ _ _)
   | (with_reducible exact ih1 _ _ _ _ _ _)
   | (with_reducible exact ih2 _ _ _ _ _ _ _)
   | (with_reducible exact ih3 _ _ _ _ _ _ _ _ _)
   | (with_reducible exact ih4 _ _ _ _ _ _ _ _ _)
   | (with_reducible exact ih5 _ _ _ _ _ _ _ _)
   | (with_reducible exact ih6 _ _ _ _ _ _ _ _ _)
   | (with_reducible exact slices_heapSortOrdered_byte.mono _ _ _ _)
   | (with_reducible exact slices_insertionSortOrdered_byte.mono _ _ _ _)
   | (with_reducible exact slices_partialInsertionSortOrdered_byte.mono _ _ _ _)
   | (with_reducible exact slices_partitionEqualOrdered_byte.mono _ _ _ _ _)
   | (with_reducible exact slices_partitionOrdered_byte.mono _ _ _ _ _)
   | (with_reducible exact slices_reverseRangeOrdered_byte.mono _ _ _ _)
   | (with_reducible exact LeO.refl _)
   | (with_reducible exact LeO.none _)
   | (with_reducible refine LeO.ite ?_ ?_)
   | (with_reducible refine LeO.bind ?_ (fun _ => ?_))
   | exact ih0 _ _ _ _
   | exact ih1 _ _ _ _ _ _
   | exact ih2 _ _ _ _ _ _ _
   | exact ih3 _ _ _ _ _ _ _ _ _
   | exact ih4 _ _ _ _ _ _ _ _ _
   | exact ih5 _ _ _ _ _ _ _ _
   | exact ih6 _ _ _ _ _ _ _ _ _
   | exact slices_heapSortOrdered_byte.mono _ _ _ _
   | exact slices_insertionSortOrdered_byte.mono _ _ _ _
   | exact slices_partialInsertionSortOrdered_byte.mono _ _ _ _
   | exact slices_partitionEqualOrdered_byte.mono _ _ _ _ _
   | exact slices_partitionOrdered_byte.mono _ _ _ _ _
   | exact slices_reverseRangeOrdered_byte.mono _ _ _ _
   | exact LeO.none _
   | refine LeO.ite ?_ ?_
   | refine LeO.bind ?_ (fun _ => ?_)
  ·
   intro y0 y1 y2 y3 y4 y5 y6
   unfold slices_pdqsortOrdered_byte.j1
   repeat' first
   | (with_reducible exact ih0 _ _ _ _)
   | (with_reducible exact ih1 _ _ _ _ _ _)
   | (with_reducible exact ih2 _ _ _ _ _ _ _)
   | (with_reducible exact ih3 _ _ _ _ _ _ _ _ _)
   | (with_reducible exact ih4 _ _ _ _ _ _ _ _ _)
   | (with_reducible exact ih5 _ _ _ _ _ _ _ _)
   | (with_reducible exact ih6 _ _ _ _ _ _ _ _ _)
   | (with_reducible exact slices_heapSortOrdered_byte.mono _ _ _ _)
   | (with_reducible exact slices_insertionSortOrdered_byte.mono _ _ _ _)
   | (with_reducible exact slices_partialInsertionSortOrdered_byte.mono _ _ _ _)
   | (with_reducible exact slices_partitionEqualOrdered_byte.mono _ _ _ _ _)
   | (with_reducible exact slices_partitionOrdered_byte.mono _ _ _ _ _)
   | (with_reducible exact slices_reverseRangeOrdered_byte.mono _ _ _ _)
   | (with_reducible exact LeO.refl _)
   | (with_reducible exact LeO.none _)
   | (with_reducible refine LeO.ite ?_ ?_)
   | (with_reducible refine LeO.bind ?_ (fun _ => ?_))
   | exact ih0 _ _ _ _
   | exact ih1 _ _ _ _ _ _
   | exact ih2 _ _ _ _ _ _ _
   | exact ih3 _ _ _ _ _ _ _ _ _
   | exact ih4 _ _ _ _ _ _ _ _ _
   | exact ih5 _ _ _ _ _ _ _ _
   | exact ih6 _ _ _ _ _ _ _ _ _
   | exact slices_heapSortOrdered_byte.mono _ _ _ _
   | exact slices_insertionSortOrdered_byte.mono _ _ _ _
   | exact slices_partialInsertionSortOrdered_byte.mono _ _ _ _
   | exact slices_partitionEqualOrdered_byte.mono _ _ _ _ _
   | exact slices_partitionOrdered_byte.mono _ _ _ _ _
   | exact slices_reverseRangeOrdered_byte.mono _ _ _ _
   | exact LeO.none _
   | refine LeO.ite ?_ ?_
   | refine LeO.bind ?_ (fun _ => ?_)
  ·
   intro y0 y1 y2 y3 y4 y5 y6 y7 y8
   unfold slices_pdqsortOrdered_byte.j2
   repeat' first
   | (with_reducible exact ih0 _ _ _ _)
   | (with_reducible exact ih1 _ _ _ _ _ _)
   | (with_reducible exact ih2 _ _ _ _ _ _ _)
   | (with_reducible exact ih3 _ _ _ _ _ _ _ _ _)
   | (with_reducible exact ih4 _ _ _ _ _ _ _ _ _)
   | (with_reducible exact ih5 _ _ _ _ _ _ _ _)
   | (with_reducible exact ih6 _ _ _ _ _ _ _ _ _)
   | (with_reducible exact slices_heapSortOrdered_byte.mono _ _ _ _)
   | (with_reducible exact slices_insertionSortOrdered_byte.mono _ _ _ _)
   | (with_reducible exact slices_partialInsertionSortOrdered_byte.mono _ _ _ _)
   | (with_reducible exact slices_partitionEqualOrdered_byte.mono _ _ _ _ _)
   | (with_reducible exact slices_partitionOrdered_byte.mono _ _ _ _ _)
   | (with_reducible exact slices_reverseRangeOrdered_byte.mono _ _ _ _)
   | (with_reducible exact LeO.refl _)
   | (with_reducible exact LeO.none _)
   | (with_reducible refine LeO.ite ?_ ?_)
   | (with_reducible refine LeO.bind ?_ (fun _ => ?_))
   | exact ih0 _ _ _ _
   | exact ih1 _ _ _ _ _ _
   | exact ih2 _ _ _ _ _ _ _
   | exact ih3 _ _ _ _ _ _ _ _ _
   | exact ih4 _ _ _ _ _ _ _ _ _
   | exact ih5 _ _ _ _ _ _ _ _
   | exact ih6 _ _ _ _ _ _ _ _ _
   | exact slices_heapSortOrdered_byte.mono _ _ _ _
   | exact slices_insertionSortOrdered_byte.mono _ _ _ _
   | exact slices_partialInsertionSortOrdered_byte.mono _ _ _ _
   | exact slices_partitionEqualOrdered_byte.mono _ _ _ _ _
   | exact slices_partitionOrdered_byte.mono _ _ _ _ _
   | exact slices_reverseRangeOrdered_byte.mono _ _ _ _
   | exact LeO.none _
   | refine LeO.ite ?_ ?_
   | refine LeO.bind ?_ (fun _ => ?_)
  ·
   intro y0 y1 y2 y3 y4 y5 y6 y7 y8
   unfold slices_pdqsortOrdered_byte.j3
   repeat' first
   | (with_reducible exact ih0 _ _ _ _)
   | (with_reducible exact ih1 _ _ _ _ _ _)
   | (with_reducible exact ih2 _ _ _ _ _ _ _)
   | (with_reducible exact ih3 _ _ _ _ _ _ _ _ _)
   | (with_reducible exact ih4 _ _ _ _ _ _ _ _ _)
   | (with_reducible exact ih5 _ _ _ _ _ _ _ _)
   | (with_reducible exact ih6 _ _ _ _ _ _ _ _ _)
   | (with_reducible exact slices_heapSortOrdered_byte.mono _ _ _ _)
   | (with_reducible exact slices_insertionSortOrdered_byte.mono _ _ _ _)
   | (with_reducible exact slices_partialInsertionSortOrdered_byte.mono _ _ _ _)
   | (with_reducible exact slices_partitionEqualOrdered_byte.mono _ _ _ _ _)
   | (with_reducible exact slices_partitionOrdered_byte.mono _ _ _ _ _)
   | (with_reducible exact slices_reverseRangeOrdered_byte.mono _ _ _ _)
   | (with_reducible exact LeO.refl _)
   | (with_reducible exact LeO.none _)
   | (with_reducible refine LeO.ite ?_ ?_)
   | (with_reducible refine LeO.bind ?_ (fun _ => ?_))
   | exact ih0 _ _ _ _
   | exact ih1 _ _ _ _ _ _
   | exact ih2 _ _ _ _ _ _ _
   | exact ih3 _ _ _ _ _ _ _ _ _
   | exact ih4 _ _ _ _ _ _ _ _ _
   | exact ih5 _ _ _ _ _ _ _ _
   | exact ih6 _ _ _ _ _ _ _ _ _
   | exact slices_heapSortOrdered_byte.mono _ _ _ _
   | exact slices_insertionSortOrdered_byte.mono _ _ _ _
   | exact slices_partialInsertionSortOrdered_byte.mono _ _ _ _
   | exact slices_partitionEqualOrdered_byte.mono _ _ _ _ _
   | exact slices_partitionOrdered_byte.mono _ _ _ _ _
   | exact slices_reverseRangeOrdered_byte.mono _ _ _ _
   | exact LeO.none _
   | refine LeO.ite ?_ ?_
   | refine LeO.bind ?_ (fun _ => ?_)
  ·
   intro y0 y1 y2 y3 y4 y5 y6 y7
   unfold slices_pdqsortOrdered_byte.j4
   repeat' first
   | (with_reducible exact ih0 _ _ _ _)
   | (with_reducible exact ih1 _ _ _ _ _ _)
   | (with_reducible exact ih2 _ _ _ _ _ _ _)
   | (with_reducible exact ih3 _ _ _ _ _ _ _ _ _)
   | (with_reducible exact ih4 _ _ _ _ _ _ _ _ _)
   | (with_reducible exact ih5 _ _ _ _ _ _ _ _)
   | (with_reducible exact ih6 _ _ _ _ _ _ _ _ _)
   | (with_reducible exact slices_heapSortOrdered_byte.mono _ _ _ _)
   | (with_reducible exact slices_insertionSortOrdered_byte.mono _ _ _ _)
   | (with_reducible exact slices_partialInsertionSortOrdered_byte.mono _ _ _ _)
   | (with_reducible exact slices_partitionEqualOrdered_byte.mono _ _ _ _ _)
   | (with_reducible exact slices_partitionOrdered_byte.mono _ _ _ _ _)
   | (with_reducible exact slices_reverseRangeOrdered_byte.mono _ _ _ _)
   | (with_reducible exact LeO.refl _)
   | (with_reducible exact LeO.none _)
   | (with_reducible refine LeO.ite ?_ ?_)
   | (with_reducible refine LeO.bind ?_ (fun _ => ?_))
   | exact ih0 _ _ _ _
   | exact ih1 _ _ _ _ _ _
   | exact ih2 _ _ _ _ _ _ _
   | exact ih3 _ _ _ _ _ _ _ _ _
   | exact ih4 _ _ _ _ _ _ _ _ _
   | exact ih5 _ _ _ _ _ _ _ _
   | exact ih6 _ _ _ _ _ _ _ _ _
   | exact slices_heapSortOrdered_byte.mono _ _ _ _
   | exact slices_insertionSortOrdered_byte.mono _ _ _ _
   | exact slices_partialInsertionSortOrdered_byte.mono _ _ _ _
   | exact slices_partitionEqualOrdered_byte.mono _ _ _ _ _
   | exact slices_partitionOrdered_byte.mono _ _ _ _ _
   | exact slices_reverseRangeOrdered_byte.mono _ _ _ _
   | exact LeO.none _
   | refine LeO.ite ?_ ?_
   | refine LeO.bind ?_ (fun _ => ?_)
  ·
   intro y0 y1 y2 y3 y4 y5 y6 y7 y8
   unfold slices_pdqsortOrdered_byte.j5
   repeat' first
   | (with_reducible exact ih0 _ _ _ _)
   | (with_reducible exact ih1 _ _ _ _ _ _)
   | (with_reducible exact ih2 _ _ _ _ _ _ _)
   | (with_reducible exact ih3 _ _ _ _ _ _ _ _ _)
   | (with_reducible exact ih4 _ _ _ _ _ _ _ _ _)
   | (with_reducible exact ih5 _ _ _ _ _ _ _ _)
   | (with_reducible exact ih6 _ _ _ _ _ _ _ _ _)
   | (with_reducible exact slices_heapSortOrdered_byte.mono _ _ _ _)
   | (with_reducible exact slices_insertionSortOrdered_byte.mono _ _ _ _)
   | (with_reducible exact slices_partialInsertionSortOrdered_byte.mono _ _ _ _)
   | (with_reducible exact slices_partitionEqualOrdered_byte.mono _ _ _ _ _)
   | (with_reducible exact slices_partitionOrdered_byte.mono _ _ _ _ _)
   | (with_reducible exact slices_reverseRangeOrdered_byte.mono _ _ _ _)
   | (with_reducible exact LeO.refl _)
   | (with_reducible exact LeO.none _)
   | (with_reducible refine LeO.ite ?_ ?_)
   | (with_reducible refine LeO.bind ?_ (fun _ => ?_))
   | exact ih0 _ _ _ _
   | exact ih1 _ _ _ _ _ _
   | exact ih2 _ _ _ _ _ _ _
   | exact ih3 _ _ _ _ _ _ _ _ _
   | exact ih4 _ _ _ _ _ _ _ _ _
   | exact ih5 _ _ _ _ _ _ _ _
   | exact ih6 _ _ _ _ _ _ _ _ _
   | exact slices_heapSortOrdered_byte.mono _ _ _ _
   | exact slices_insertionSortOrdered_byte.mono _ _ _ _
   | exact slices_partialInsertionSortOrdered_byte.mono _ _ _ _
   | exact slices_partitionEqualOrdered_byte.mono _ _ _ _ _
   | exact slices_partitionOrdered_byte.mono _ _ _ _ _
   | exact slices_reverseRangeOrdered_byte.mono _ _ _ _
   | exact LeO.none _
   | refine LeO.ite ?_ ?_
   | refine LeO.bind ?_ (fun _ => ?_)
theorem slices_pdqsortOrdered_byte.mono : ∀ y0 y1 y2 y3 k,LeO (slices_pdqsortOrdered_byte.f k y0 y1 y2 y3) (slices_pdqsortOrdered_byte.f (k + 1) y0 y1 y2 y3) := by
 intro y0 y1 y2 y3 k; obtain ⟨ih0,ih1,ih2,ih3,ih4,ih5,ih6⟩ := slices_pdqsortOrdered_byte.mono_l k; exact ih0 y0 y1 y2 y3
set_option maxHeartbeats 8000000 in
set_option maxRecDepth 100000 in
theorem slices_pdqsortOrdered_byte.calls (k : Nat) : ∀ (P0_ : Nat → Prop) (u9000_ : Value) (l0 : List Int) (a1 : Int) (a2 : Int) (a3 : Int) (r : List Int) (w0 w : World) (hB : Below w0.heap.size w0 w) (ho0 : BR w w0.heap.size P0_ u9000_ l0) (h : slices_pdqsortOrdered_byte.f k l0 a1 a2 a3 = some r),
  Calls Tryd.prog 61 #[u9000_,.int .i64 a1,.int .i64 a2,.int .i64 a3] w fun e w' => e = .returned (.tuple #[]) ∧ BR w' w0.heap.size (fun k_ => (P0_ k_ ∨ w.heap.size ≤ k_)) u9000_ r ∧ Below w0.heap.size w0 w' ∧ Kept w w' (fun k_ => P0_ k_) := by
 induction k using Nat.strongRecOn with
 | _ k ih =>
 intro P0_ u9000_ l0 a1 a2 a3 r w0 w hB ho0 h
 cases k with
 | zero => exact absurd h (by simp [slices_pdqsortOrdered_byte.f])
 | succ k =>
 simp only [slices_pdqsortOrdered_byte.f] at h; have HO0 := Aside0.mk (show BR w w0.heap.size (fun k_ => (P0_ k_ ∨ w.heap.size ≤ k_)) u9000_ l0 from BR_mono ho0 (fun k_ hk => (.inl hk))); have HK := Aside0.mk (Kept.refl w (fun k_ => P0_ k_)); have HW0 := Aside0.mk hB.size; have HB := Aside0.mk hB; clear hB; have H : (slices_pdqsortOrdered_byte.l0 k l0 a1 a2 a3 true true) = some r := h; clear h; have H' := Aside0.mk H; clear H
 go_enter Tryd.func61,Tryd.ntmps61
 go_wp2
 repeat (go_quiet (fail); try go_wp2)
 go_loopg [1,2,3,8,9] k (fun kq v1 v2 v3 v8 v9 w' => ∃ (x0_1 : List Int) (x1_1 : Int) (x2_1 : Int) (x3_1 : Int) (x8_1 : Bool) (x9_1 : Bool),v1 = .int .i64 x1_1 ∧ v2 = .int .i64 x2_1 ∧ v3 = .int .i64 x3_1 ∧ v8 = .bool x8_1 ∧ v9 = .bool x9_1 ∧ Aside0 (slices_pdqsortOrdered_byte.l0 kq x0_1 x1_1 x2_1 x3_1 x8_1 x9_1 = some r) ∧ Aside0 (kq ≤ k) ∧ Aside0 (BR w' w0.heap.size (fun k_ => (P0_ k_ ∨ w.heap.size ≤ k_)) u9000_ x0_1) ∧ Aside0 (Kept w w' (fun k_ => P0_ k_)) ∧ Aside0 (Below w0.heap.size w0 w'))
 case atStart => exact ⟨(l0),(a1),(a2),(a3),(true),(true),(by first | rfl | (simp; done) | (simp [*]; done)),(by first | rfl | (simp; done) | (simp [*]; done)),(by first | rfl | (simp; done) | (simp [*]; done)),(by first | rfl | (simp; done) | (simp [*]; done)),(by first | rfl | (simp; done) | (simp [*]; done)),H',⟨Nat.le_refl _⟩,⟨by (with_reducible repeat (first | apply BR_alloc | apply BR_drewN | apply BR_drew)); exact HO0.out⟩,⟨by repeat (first | (with_reducible first | exact HK.out | apply Kept.alloc | apply Kept.drewN | apply Kept.drew) | exact HK.out)⟩,⟨by repeat (first | (with_reducible first | exact HB.out | apply below_alloc | apply pw_below_drewN | apply below_drew1) | exact HB.out)⟩⟩
 case round =>
  clear H'; try clear p2
  obtain ⟨x0_1,x1_1,x2_1,x3_1,x8_1,x9_1,rfl,rfl,rfl,rfl,rfl,HA,HK1,HO_0,HK,HB⟩ := hrel
  cases gk with
  | zero => exact absurd HA.out (by simp [slices_pdqsortOrdered_byte.l0])
  | succ k1 =>
   have H := HA.out; clear HA; simp only [slices_pdqsortOrdered_byte.l0] at H
   by_cases c5 : (wrap64 (x2_1 - x1_1)) ≤ 12
   ·
    rw [if_pos c5] at H; have c5b0 : decide ((wrap64 (x2_1 - x1_1)) ≤ 12) = true := decide_eq_true c5; clear c5; replace H := Option.bind_eq_some_iff.mp H; obtain ⟨t101,A60,H⟩ := H; replace H : (some t101) = some r := H; have A6 := Aside0.mk A60; clear A60; obtain rfl := Option.some.inj H; obtain ⟨Ao7,co7,eo7⟩ := BR_slice HO_0.out; subst eo7; go_wp2_with (first | (go_at_call 76; (with_reducible refine (slices_insertionSortOrdered_byte.calls k1 (fun k_ => some k_ = (.slice Ao7 x0_1.length co7 : Value).ownBlock) (.slice Ao7 x0_1.length co7) x0_1 x1_1 x2_1 t101 w0 _ ?side1 ?side2 A6.out).mono ?_); (case side1 => repeat (first | (with_reducible first | exact HB.out | apply below_alloc | apply pw_below_drewN | apply below_drew1) | exact HB.out)); (case side2 => exact BR_tight rfl HO_0.out); rintro e w8 ⟨rfl,hy0,hb,hkp⟩; have n0_ := Aside0.mk (BR_reok rfl hy0 (fun k_ e_ => HO_0.out.1 k_ e_)); have n1_ := Aside0.mk (Kept.then_ (S := (fun k_ => P0_ k_)) (by repeat (first | (with_reducible first | exact HK.out | apply Kept.alloc | apply Kept.drewN | apply Kept.drew) | exact HK.out)) hkp (fun k_ hs_ => (fun e_ => (HO_0.out.1 k_ e_.symm)) hs_)); have n2_ := Aside0.mk (hb); clear HO_0; clear HK; clear HB; have HO_0 := n0_; have HK := n1_; have HB := n2_; clear n0_ n1_ n2_; (try clear hb); (try clear hkp); (try clear hy0)))
    repeat (go_quiet (first | (go_at_call 76; (with_reducible refine (slices_insertionSortOrdered_byte.calls k1 (fun k_ => some k_ = (.slice Ao7 x0_1.length co7 : Value).ownBlock) (.slice Ao7 x0_1.length co7) x0_1 x1_1 x2_1 t101 w0 _ ?side1 ?side2 A6.out).mono ?_); (case side1 => repeat (first | (with_reducible first | exact HB.out | apply below_alloc | apply pw_below_drewN | apply below_drew1) | exact HB.out)); (case side2 => exact BR_tight rfl HO_0.out); rintro e w8 ⟨rfl,hy0,hb,hkp⟩; have n0_ := Aside0.mk (BR_reok rfl hy0 (fun k_ e_ => HO_0.out.1 k_ e_)); have n1_ := Aside0.mk (Kept.then_ (S := (fun k_ => P0_ k_)) (by repeat (first | (with_reducible first | exact HK.out | apply Kept.alloc | apply Kept.drewN | apply Kept.drew) | exact HK.out)) hkp (fun k_ hs_ => (fun e_ => (HO_0.out.1 k_ e_.symm)) hs_)); have n2_ := Aside0.mk (hb); clear HO_0; clear HK; clear HB; have HO_0 := n0_; have HK := n1_; have HB := n2_; clear n0_ n1_ n2_; (try clear hb); (try clear hkp); (try clear hy0))); try go_wp2_with (first | (go_at_call 76; (with_reducible refine (slices_insertionSortOrdered_byte.calls k1 (fun k_ => some k_ = (.slice Ao7 x0_1.length co7 : Value).ownBlock) (.slice Ao7 x0_1.length co7) x0_1 x1_1 x2_1 t101 w0 _ ?side1 ?side2 A6.out).mono ?_); (case side1 => repeat (first | (with_reducible first | exact HB.out | apply below_alloc | apply pw_below_drewN | apply below_drew1) | exact HB.out)); (case side2 => exact BR_tight rfl HO_0.out); rintro e w8 ⟨rfl,hy0,hb,hkp⟩; have n0_ := Aside0.mk (BR_reok rfl hy0 (fun k_ e_ => HO_0.out.1 k_ e_)); have n1_ := Aside0.mk (Kept.then_ (S := (fun k_ => P0_ k_)) (by repeat (first | (with_reducible first | exact HK.out | apply Kept.alloc | apply Kept.drewN | apply Kept.drew) | exact HK.out)) hkp (fun k_ hs_ => (fun e_ => (HO_0.out.1 k_ e_.symm)) hs_)); have n2_ := Aside0.mk (hb); clear HO_0; clear HK; clear HB; have HO_0 := n0_; have HK := n1_; have HB := n2_; clear n0_ n1_ n2_; (try clear hb); (try clear hkp); (try clear hy0))))
    first | go_end0 | ((try simp only [Exit.inBlock,Exit.then]); refine bodyPost_ret (results_none rfl _ _ _) rfl ?_)
    exact ⟨by first | rfl | (simp [errW_none,errW_some] <;> rfl) | (simp [*,errW_none,errW_some] <;> rfl),by (with_reducible repeat (first | apply BR_alloc | apply BR_drewN | apply BR_drew)); exact HO_0.out,by repeat (first | (with_reducible first | exact HB.out | apply below_alloc | apply pw_below_drewN | apply below_drew1) | exact HB.out),by repeat (first | (with_reducible first | exact HK.out | apply Kept.alloc | apply Kept.drewN | apply Kept.drew) | exact HK.out)⟩
   ·
    rw [if_neg c5] at H; have c5b0 : decide ((wrap64 (x2_1 - x1_1)) ≤ 12) = false := decide_eq_false c5; clear c5
    by_cases c9 : x3_1 = 0
    ·
     rw [if_pos c9] at H; have c9b0 : (x3_1 == 0) = true := beq_iff_eq.mpr c9; have c9b1 : (x3_1 != 0) = false := bne_eq_false_iff_eq.mpr c9; clear c9; replace H := Option.bind_eq_some_iff.mp H; obtain ⟨t102,A100,H⟩ := H; replace H : (some t102) = some r := H; have A10 := Aside0.mk A100; clear A100; obtain rfl := Option.some.inj H; obtain ⟨Ao11,co11,eo11⟩ := BR_slice HO_0.out; subst eo11; go_wp2_with (first | (go_at_call 77; (with_reducible refine (slices_heapSortOrdered_byte.calls k1 (fun k_ => some k_ = (.slice Ao11 x0_1.length co11 : Value).ownBlock) (.slice Ao11 x0_1.length co11) x0_1 x1_1 x2_1 t102 w0 _ ?side1 ?side2 A10.out).mono ?_); (case side1 => repeat (first | (with_reducible first | exact HB.out | apply below_alloc | apply pw_below_drewN | apply below_drew1) | exact HB.out)); (case side2 => exact BR_tight rfl HO_0.out); rintro e w12 ⟨rfl,hy0,hb,hkp⟩; have n0_ := Aside0.mk (BR_reok rfl hy0 (fun k_ e_ => HO_0.out.1 k_ e_)); have n1_ := Aside0.mk (Kept.then_ (S := (fun k_ => P0_ k_)) (by repeat (first | (with_reducible first | exact HK.out | apply Kept.alloc | apply Kept.drewN | apply Kept.drew) | exact HK.out)) hkp (fun k_ hs_ => (fun e_ => (HO_0.out.1 k_ e_.symm)) hs_)); have n2_ := Aside0.mk (hb); clear HO_0; clear HK; clear HB; have HO_0 := n0_; have HK := n1_; have HB := n2_; clear n0_ n1_ n2_; (try clear hb); (try clear hkp); (try clear hy0)))
     repeat (go_quiet (first | (go_at_call 77; (with_reducible refine (slices_heapSortOrdered_byte.calls k1 (fun k_ => some k_ = (.slice Ao11 x0_1.length co11 : Value).ownBlock) (.slice Ao11 x0_1.length co11) x0_1 x1_1 x2_1 t102 w0 _ ?side1 ?side2 A10.out).mono ?_); (case side1 => repeat (first | (with_reducible first | exact HB.out | apply below_alloc | apply pw_below_drewN | apply below_drew1) | exact HB.out)); (case side2 => exact BR_tight rfl HO_0.out); rintro e w12 ⟨rfl,hy0,hb,hkp⟩; have n0_ := Aside0.mk (BR_reok rfl hy0 (fun k_ e_ => HO_0.out.1 k_ e_)); have n1_ := Aside0.mk (Kept.then_ (S := (fun k_ => P0_ k_)) (by repeat (first | (with_reducible first | exact HK.out | apply Kept.alloc | apply Kept.drewN | apply Kept.drew) | exact HK.out)) hkp (fun k_ hs_ => (fun e_ => (HO_0.out.1 k_ e_.symm)) hs_)); have n2_ := Aside0.mk (hb); clear HO_0; clear HK; clear HB; have HO_0 := n0_; have HK := n1_; have HB := n2_; clear n0_ n1_ n2_; (try clear hb); (try clear hkp); (try clear hy0))); try go_wp2_with (first | (go_at_call 77; (with_reducible refine (slices_heapSortOrdered_byte.calls k1 (fun k_ => some k_ = (.slice Ao11 x0_1.length co11 : Value).ownBlock) (.slice Ao11 x0_1.length co11) x0_1 x1_1 x2_1 t102 w0 _ ?side1 ?side2 A10.out).mono ?_); (case side1 => repeat (first | (with_reducible first | exact HB.out | apply below_alloc | apply pw_below_drewN | apply below_drew1) | exact HB.out)); (case side2 => exact BR_tight rfl HO_0.out); rintro e w12 ⟨rfl,hy0,hb,hkp⟩; have n0_ := Aside0.mk (BR_reok rfl hy0 (fun k_ e_ => HO_0.out.1 k_ e_)); have n1_ := Aside0.mk (Kept.then_ (S := (fun k_ => P0_ k_)) (by repeat (first | (with_reducible first | exact HK.out | apply Kept.alloc | apply Kept.drewN | apply Kept.drew) | exact HK.out)) hkp (fun k_ hs_ => (fun e_ => (HO_0.out.1 k_ e_.symm)) hs_)); have n2_ := Aside0.mk (hb); clear HO_0; clear HK; clear HB; have HO_0 := n0_; have HK := n1_; have HB := n2_; clear n0_ n1_ n2_; (try clear hb); (try clear hkp); (try clear hy0))))
     first | go_end0 | ((try simp only [Exit.inBlock,Exit.then]); refine bodyPost_ret (results_none rfl _ _ _) rfl ?_)
     exact ⟨by first | rfl | (simp [errW_none,errW_some] <;> rfl) | (simp [*,errW_none,errW_some] <;> rfl),by (with_reducible repeat (first | apply BR_alloc | apply BR_drewN | apply BR_drew)); exact HO_0.out,by repeat (first | (with_reducible first | exact HB.out | apply below_alloc | apply pw_below_drewN | apply below_drew1) | exact HB.out),by repeat (first | (with_reducible first | exact HK.out | apply Kept.alloc | apply Kept.drewN | apply Kept.drew) | exact HK.out)⟩
    ·
     rw [if_neg c9] at H; have c9b0 : (x3_1 == 0) = false := beq_eq_false_iff_ne.mpr c9; have c9b1 : (x3_1 != 0) = true := bne_iff_ne.mpr c9; have HC13 := Aside0.mk H; clear H
     go_upto_if 35 with (fail)
     repeat (go_quiet (fail); go_upto_if 35 with (fail))
     go_cut [3] (fun v3 wc => ∃ (kq : Nat) (x0_12 : List Int) (x3_12 : Int),v3 = .int .i64 x3_12 ∧ Aside0 (slices_pdqsortOrdered_byte.j1 kq x0_12 x1_1 x2_1 x3_12 x8_1 x9_1 (wrap64 (x2_1 - x1_1)) = some r) ∧ Aside0 (kq ≤ k1) ∧ Aside0 (BR wc w0.heap.size (fun k_ => (P0_ k_ ∨ w.heap.size ≤ k_)) u9000_ x0_12) ∧ Aside0 (Kept w wc (fun k_ => P0_ k_)) ∧ Aside0 (Below w0.heap.size w0 wc))
     case first =>
      have H := HC13.out; clear HC13
      by_cases c14 : x8_1 = true
      ·
       subst c14; have H1 : (slices_pdqsortOrdered_byte.j1 k1 x0_1 x1_1 x2_1 x3_1 true x9_1 (wrap64 (x2_1 - x1_1))) = some r := by rw [if_pos rfl] at H; exact H
       clear H; have H := H1; clear H1; have H' := Aside0.mk H; clear H; go_wp2
       repeat (go_quiet (fail); try go_wp2)
       go_meet
       case rel => exact ⟨_,(x0_1),(x3_1),(by first | rfl | (simp; done) | (simp [*]; done)),H',⟨by have := HK1.out; first | omega | exact Nat.le_refl _⟩,⟨by (with_reducible repeat (first | apply BR_alloc | apply BR_drewN | apply BR_drew)); exact HO_0.out⟩,⟨by repeat (first | (with_reducible first | exact HK.out | apply Kept.alloc | apply Kept.drewN | apply Kept.drew) | exact HK.out)⟩,⟨by repeat (first | (with_reducible first | exact HB.out | apply below_alloc | apply pw_below_drewN | apply below_drew1) | exact HB.out)⟩⟩
      ·
       replace c14 := Bool.eq_false_iff.mpr c14; subst c14; have H1 : ((slices_breakPatternsOrdered_byte.f x0_1 x1_1 x2_1).bind fun t103 => (slices_pdqsortOrdered_byte.j1 k1 t103 x1_1 x2_1 (wrap64 (x3_1 - 1)) false x9_1 (wrap64 (x2_1 - x1_1)))) = some r := by rw [if_neg (show ¬ (false = true) by decide)] at H; exact H
       clear H; have H := H1; clear H1; replace H := Option.bind_eq_some_iff.mp H; obtain ⟨t103,A150,H⟩ := H; replace H : (slices_pdqsortOrdered_byte.j1 k1 t103 x1_1 x2_1 (wrap64 (x3_1 - 1)) false x9_1 (wrap64 (x2_1 - x1_1))) = some r := H; have A15 := Aside0.mk A150; clear A150; have H' := Aside0.mk H; clear H; obtain ⟨Ao16,co16,eo16⟩ := BR_slice HO_0.out; subst eo16; go_wp2_with (first | (go_at_call 78; (with_reducible refine (slices_breakPatternsOrdered_byte.calls (fun k_ => some k_ = (.slice Ao16 x0_1.length co16 : Value).ownBlock) (.slice Ao16 x0_1.length co16) x0_1 x1_1 x2_1 t103 w0 _ ?side1 ?side2 A15.out).mono ?_); (case side1 => repeat (first | (with_reducible first | exact HB.out | apply below_alloc | apply pw_below_drewN | apply below_drew1) | exact HB.out)); (case side2 => exact BR_tight rfl HO_0.out); rintro e w17 ⟨rfl,hy0,hb,hkp⟩; have n0_ := Aside0.mk (BR_reok rfl hy0 (fun k_ e_ => HO_0.out.1 k_ e_)); have n1_ := Aside0.mk (Kept.then_ (S := (fun k_ => P0_ k_)) (by repeat (first | (with_reducible first | exact HK.out | apply Kept.alloc | apply Kept.drewN | apply Kept.drew) | exact HK.out)) hkp (fun k_ hs_ => (fun e_ => (HO_0.out.1 k_ e_.symm)) hs_)); have n2_ := Aside0.mk (hb); clear HO_0; clear HK; clear HB; have HO_0 := n0_; have HK := n1_; have HB := n2_; clear n0_ n1_ n2_; (try clear hb); (try clear hkp); (try clear hy0)))
       repeat (go_quiet (first | (go_at_call 78; (with_reducible refine (slices_breakPatternsOrdered_byte.calls (fun k_ => some k_ = (.slice Ao16 x0_1.length co16 : Value).ownBlock) (.slice Ao16 x0_1.length co16) x0_1 x1_1 x2_1 t103 w0 _ ?side1 ?side2 A15.out).mono ?_); (case side1 => repeat (first | (with_reducible first | exact HB.out | apply below_alloc | apply pw_below_drewN | apply below_drew1) | exact HB.out)); (case side2 => exact BR_tight rfl HO_0.out); rintro e w17 ⟨rfl,hy0,hb,hkp⟩; have n0_ := Aside0.mk (BR_reok rfl hy0 (fun k_ e_ => HO_0.out.1 k_ e_)); have n1_ := Aside0.mk (Kept.then_ (S := (fun k_ => P0_ k_)) (by repeat (first | (with_reducible first | exact HK.out | apply Kept.alloc | apply Kept.drewN | apply Kept.drew) | exact HK.out)) hkp (fun k_ hs_ => (fun e_ => (HO_0.out.1 k_ e_.symm)) hs_)); have n2_ := Aside0.mk (hb); clear HO_0; clear HK; clear HB; have HO_0 := n0_; have HK := n1_; have HB := n2_; clear n0_ n1_ n2_; (try clear hb); (try clear hkp); (try clear hy0))); try go_wp2_with (first | (go_at_call 78; (with_reducible refine (slices_breakPatternsOrdered_byte.calls (fun k_ => some k_ = (.slice Ao16 x0_1.length co16 : Value).ownBlock) (.slice Ao16 x0_1.length co16) x0_1 x1_1 x2_1 t103 w0 _ ?side1 ?side2 A15.out).mono ?_); (case side1 => repeat (first | (with_reducible first | exact HB.out | apply below_alloc | apply pw_below_drewN | apply below_drew1) | exact HB.out)); (case side2 => exact BR_tight rfl HO_0.out); rintro e w17 ⟨rfl,hy0,hb,hkp⟩; have n0_ := Aside0.mk (BR_reok rfl hy0 (fun k_ e_ => HO_0.out.1 k_ e_)); have n1_ := Aside0.mk (Kept.then_ (S := (fun k_ => P0_ k_)) (by repeat (first | (with_reducible first | exact HK.out | apply Kept.alloc | apply Kept.drewN | apply Kept.drew) | exact HK.out)) hkp (fun k_ hs_ => (fun e_ => (HO_0.out.1 k_ e_.symm)) hs_)); have n2_ := Aside0.mk (hb); clear HO_0; clear HK; clear HB; have HO_0 := n0_; have HK := n1_; have HB := n2_; clear n0_ n1_ n2_; (try clear hb); (try clear hkp); (try clear hy0))))
       go_meet
       case rel => exact ⟨_,(t103),(wrap64 (x3_1 - 1)),(by first | rfl | (simp; done) | (simp [*]; done)),H',⟨by have := HK1.out; first | omega | exact Nat.le_refl _⟩,⟨by (with_reducible repeat (first | apply BR_alloc | apply BR_drewN | apply BR_drew)); exact HO_0.out⟩,⟨by repeat (first | (with_reducible first | exact HK.out | apply Kept.alloc | apply Kept.drewN | apply Kept.drew) | exact HK.out)⟩,⟨by repeat (first | (with_reducible first | exact HB.out | apply below_alloc | apply pw_below_drewN | apply below_drew1) | exact HB.out)⟩⟩
     case rest =>
      clear HC13; try clear c1
      try clear p2
      try clear c5
      try clear c5b0
      try clear c6
      try clear p6
      try clear c9
      try clear c9b0
      try clear c9b1
      try clear c14
      try clear p2
      obtain ⟨kq,x0_12,x3_12,rfl,HA,HJ12,HO_0,HK,HB⟩ := hcut
      cases kq with
      | zero => exact absurd HA.out (by simp [slices_pdqsortOrdered_byte.j1])
      | succ kj12 =>
       have H := HA.out; clear HA; simp only [slices_pdqsortOrdered_byte.j1] at H; replace H := Option.bind_eq_some_iff.mp H; obtain ⟨⟨t104,t105⟩,A180,H⟩ := H; replace H : (if t105 = 2 then ((slices_reverseRangeOrdered_byte.f kj12 x0_12 x1_1 x2_1).bind fun t106 => (slices_pdqsortOrdered_byte.j2 kj12 t106 x1_1 x2_1 x3_12 x8_1 x9_1 (wrap64 (x2_1 - x1_1)) (wrap64 ((wrap64 (x2_1 - 1)) - (wrap64 (t104 - x1_1)))) 1)) else (slices_pdqsortOrdered_byte.j2 kj12 x0_12 x1_1 x2_1 x3_12 x8_1 x9_1 (wrap64 (x2_1 - x1_1)) t104 t105)) = some r := H; have A18 := Aside0.mk A180; clear A180; have HC19 := Aside0.mk H; clear H; obtain ⟨Ao20,co20,eo20⟩ := BR_slice HO_0.out; subst eo20
       go_upto_if 50 with (first | (go_at_call 79; (with_reducible refine (slices_choosePivotOrdered_byte.calls _ _ x0_12 x1_1 x2_1 t104 t105 _ ?side1 ?side2 A18.out).mono ?_); (case side1 => repeat (first | exact (BR_reads' HO_0.out).2.2 | (with_reducible refine Kd.C_alloc ?_ _) | (with_reducible refine Kd.C_drewN ?_ _) | (with_reducible refine Kd.C_drew ?_))); (case side2 => exact (BR_reads' HO_0.out).2.1); rintro e w21 ⟨rfl,hb⟩; have n0_ := Aside0.mk (BR_below (by (with_reducible repeat (first | apply BR_alloc | apply BR_drewN | apply BR_drew)); exact HO_0.out) hb); have n1_ := Aside0.mk (Kept.below (S := (fun k_ => P0_ k_)) (by repeat (first | (with_reducible first | exact HK.out | apply Kept.alloc | apply Kept.drewN | apply Kept.drew) | exact HK.out)) hb); have n2_ := Aside0.mk (below_step (by repeat (first | (with_reducible first | exact HB.out | apply below_alloc | apply pw_below_drewN | apply below_drew1) | exact HB.out)) hb); clear HO_0; clear HK; clear HB; have HO_0 := n0_; have HK := n1_; have HB := n2_; clear n0_ n1_ n2_; (try clear hb); (try clear hb2); (try clear hk); (try clear hi)))
       repeat (go_quiet (first | (go_at_call 79; (with_reducible refine (slices_choosePivotOrdered_byte.calls _ _ x0_12 x1_1 x2_1 t104 t105 _ ?side1 ?side2 A18.out).mono ?_); (case side1 => repeat (first | exact (BR_reads' HO_0.out).2.2 | (with_reducible refine Kd.C_alloc ?_ _) | (with_reducible refine Kd.C_drewN ?_ _) | (with_reducible refine Kd.C_drew ?_))); (case side2 => exact (BR_reads' HO_0.out).2.1); rintro e w21 ⟨rfl,hb⟩; have n0_ := Aside0.mk (BR_below (by (with_reducible repeat (first | apply BR_alloc | apply BR_drewN | apply BR_drew)); exact HO_0.out) hb); have n1_ := Aside0.mk (Kept.below (S := (fun k_ => P0_ k_)) (by repeat (first | (with_reducible first | exact HK.out | apply Kept.alloc | apply Kept.drewN | apply Kept.drew) | exact HK.out)) hb); have n2_ := Aside0.mk (below_step (by repeat (first | (with_reducible first | exact HB.out | apply below_alloc | apply pw_below_drewN | apply below_drew1) | exact HB.out)) hb); clear HO_0; clear HK; clear HB; have HO_0 := n0_; have HK := n1_; have HB := n2_; clear n0_ n1_ n2_; (try clear hb); (try clear hb2); (try clear hk); (try clear hi))); go_upto_if 50 with (first | (go_at_call 79; (with_reducible refine (slices_choosePivotOrdered_byte.calls _ _ x0_12 x1_1 x2_1 t104 t105 _ ?side1 ?side2 A18.out).mono ?_); (case side1 => repeat (first | exact (BR_reads' HO_0.out).2.2 | (with_reducible refine Kd.C_alloc ?_ _) | (with_reducible refine Kd.C_drewN ?_ _) | (with_reducible refine Kd.C_drew ?_))); (case side2 => exact (BR_reads' HO_0.out).2.1); rintro e w21 ⟨rfl,hb⟩; have n0_ := Aside0.mk (BR_below (by (with_reducible repeat (first | apply BR_alloc | apply BR_drewN | apply BR_drew)); exact HO_0.out) hb); have n1_ := Aside0.mk (Kept.below (S := (fun k_ => P0_ k_)) (by repeat (first | (with_reducible first | exact HK.out | apply Kept.alloc | apply Kept.drewN | apply Kept.drew) | exact HK.out)) hb); have n2_ := Aside0.mk (below_step (by repeat (first | (with_reducible first | exact HB.out | apply below_alloc | apply pw_below_drewN | apply below_drew1) | exact HB.out)) hb); clear HO_0; clear HK; clear HB; have HO_0 := n0_; have HK := n1_; have HB := n2_; clear n0_ n1_ n2_; (try clear hb); (try clear hb2); (try clear hk); (try clear hi))))
       (try simp only [Act.put,List.setIfInBounds_toArray,List.set_cons_zero,List.set_cons_succ])
       go_cut [11,12] (fun v11 v12 wc => ∃ (kq : Nat) (x0_18 : List Int) (x11_18 : Int) (x12_18 : Int),v11 = .int .i64 x11_18 ∧ v12 = .int .i64 x12_18 ∧ Aside0 (slices_pdqsortOrdered_byte.j2 kq x0_18 x1_1 x2_1 x3_12 x8_1 x9_1 (wrap64 (x2_1 - x1_1)) x11_18 x12_18 = some r) ∧ Aside0 (kq ≤ kj12) ∧ Aside0 (BR wc w0.heap.size (fun k_ => (P0_ k_ ∨ w.heap.size ≤ k_)) (.slice Ao20 x0_12.length co20) x0_18) ∧ Aside0 (Kept w wc (fun k_ => P0_ k_)) ∧ Aside0 (Below w0.heap.size w0 wc))
       case first =>
        have H := HC19.out; clear HC19
        by_cases c22 : t105 = 2
        ·
         rw [if_pos c22] at H; have c22b0 : (t105 == 2) = true := beq_iff_eq.mpr c22; have c22b1 : (t105 != 2) = false := bne_eq_false_iff_eq.mpr c22; clear c22
         (first | rw [c22b0] | (simp only [i64_w,i32_w]; rw [c22b0]) | skip)
         replace H := Option.bind_eq_some_iff.mp H; obtain ⟨t106,A230,H⟩ := H; replace H : (slices_pdqsortOrdered_byte.j2 kj12 t106 x1_1 x2_1 x3_12 x8_1 x9_1 (wrap64 (x2_1 - x1_1)) (wrap64 ((wrap64 (x2_1 - 1)) - (wrap64 (t104 - x1_1)))) 1) = some r := H; have A23 := Aside0.mk A230; clear A230; have H' := Aside0.mk H; clear H; go_wp2_with (first | (go_at_call 80; (with_reducible refine (slices_reverseRangeOrdered_byte.calls kj12 (fun k_ => some k_ = (.slice Ao20 x0_12.length co20 : Value).ownBlock) (.slice Ao20 x0_12.length co20) x0_12 x1_1 x2_1 t106 w0 _ ?side1 ?side2 A23.out).mono ?_); (case side1 => repeat (first | (with_reducible first | exact HB.out | apply below_alloc | apply pw_below_drewN | apply below_drew1) | exact HB.out)); (case side2 => exact BR_tight rfl HO_0.out); rintro e w24 ⟨rfl,hy0,hb,hkp⟩; have n0_ := Aside0.mk (BR_reok rfl hy0 (fun k_ e_ => HO_0.out.1 k_ e_)); have n1_ := Aside0.mk (Kept.then_ (S := (fun k_ => P0_ k_)) (by repeat (first | (with_reducible first | exact HK.out | apply Kept.alloc | apply Kept.drewN | apply Kept.drew) | exact HK.out)) hkp (fun k_ hs_ => (fun e_ => (HO_0.out.1 k_ e_.symm)) hs_)); have n2_ := Aside0.mk (hb); clear HO_0; clear HK; clear HB; have HO_0 := n0_; have HK := n1_; have HB := n2_; clear n0_ n1_ n2_; (try clear hb); (try clear hkp); (try clear hy0)))
         repeat (go_quiet (first | (go_at_call 80; (with_reducible refine (slices_reverseRangeOrdered_byte.calls kj12 (fun k_ => some k_ = (.slice Ao20 x0_12.length co20 : Value).ownBlock) (.slice Ao20 x0_12.length co20) x0_12 x1_1 x2_1 t106 w0 _ ?side1 ?side2 A23.out).mono ?_); (case side1 => repeat (first | (with_reducible first | exact HB.out | apply below_alloc | apply pw_below_drewN | apply below_drew1) | exact HB.out)); (case side2 => exact BR_tight rfl HO_0.out); rintro e w24 ⟨rfl,hy0,hb,hkp⟩; have n0_ := Aside0.mk (BR_reok rfl hy0 (fun k_ e_ => HO_0.out.1 k_ e_)); have n1_ := Aside0.mk (Kept.then_ (S := (fun k_ => P0_ k_)) (by repeat (first | (with_reducible first | exact HK.out | apply Kept.alloc | apply Kept.drewN | apply Kept.drew) | exact HK.out)) hkp (fun k_ hs_ => (fun e_ => (HO_0.out.1 k_ e_.symm)) hs_)); have n2_ := Aside0.mk (hb); clear HO_0; clear HK; clear HB; have HO_0 := n0_; have HK := n1_; have HB := n2_; clear n0_ n1_ n2_; (try clear hb); (try clear hkp); (try clear hy0))); try go_wp2_with (first | (go_at_call 80; (with_reducible refine (slices_reverseRangeOrdered_byte.calls kj12 (fun k_ => some k_ = (.slice Ao20 x0_12.length co20 : Value).ownBlock) (.slice Ao20 x0_12.length co20) x0_12 x1_1 x2_1 t106 w0 _ ?side1 ?side2 A23.out).mono ?_); (case side1 => repeat (first | (with_reducible first | exact HB.out | apply below_alloc | apply pw_below_drewN | apply below_drew1) | exact HB.out)); (case side2 => exact BR_tight rfl HO_0.out); rintro e w24 ⟨rfl,hy0,hb,hkp⟩; have n0_ := Aside0.mk (BR_reok rfl hy0 (fun k_ e_ => HO_0.out.1 k_ e_)); have n1_ := Aside0.mk (Kept.then_ (S := (fun k_ => P0_ k_)) (by repeat (first | (with_reducible first | exact HK.out | apply Kept.alloc | apply Kept.drewN | apply Kept.drew) | exact HK.out)) hkp (fun k_ hs_ => (fun e_ => (HO_0.out.1 k_ e_.symm)) hs_)); have n2_ := Aside0.mk (hb); clear HO_0; clear HK; clear HB; have HO_0 := n0_; have HK := n1_; have HB := n2_; clear n0_ n1_ n2_; (try clear hb); (try clear hkp); (try clear hy0))))
         go_meet
         case rel => exact ⟨_,(t106),(wrap64 ((wrap64 (x2_1 - 1)) - (wrap64 (t104 - x1_1)))),(1),(by first | rfl | (simp; done) | (simp [*]; done)),(by first | rfl | (simp; done) | (simp [*]; done)),H',⟨by have := HK1.out; have := HJ12.out; first | omega | exact Nat.le_refl _⟩,⟨by (with_reducible repeat (first | apply BR_alloc | apply BR_drewN | apply BR_drew)); exact HO_0.out⟩,⟨by repeat (first | (with_reducible first | exact HK.out | apply Kept.alloc | apply Kept.drewN | apply Kept.drew) | exact HK.out)⟩,⟨by repeat (first | (with_reducible first | exact HB.out | apply below_alloc | apply pw_below_drewN | apply below_drew1) | exact HB.out)⟩⟩
        ·
         rw [if_neg c22] at H; have c22b0 : (t105 == 2) = false := beq_eq_false_iff_ne.mpr c22; have c22b1 : (t105 != 2) = true := bne_iff_ne.mpr c22
         (first | rw [c22b0] | (simp only [i64_w,i32_w]; rw [c22b0]) | skip)
         have H' := Aside0.mk H; clear H; go_wp2
         repeat (go_quiet (fail); try go_wp2)
         go_meet
         case rel => exact ⟨_,(x0_12),(t104),(t105),(by first | rfl | (simp; done) | (simp [*]; done)),(by first | rfl | (simp; done) | (simp [*]; done)),H',⟨by have := HK1.out; have := HJ12.out; first | omega | exact Nat.le_refl _⟩,⟨by (with_reducible repeat (first | apply BR_alloc | apply BR_drewN | apply BR_drew)); exact HO_0.out⟩,⟨by repeat (first | (with_reducible first | exact HK.out | apply Kept.alloc | apply Kept.drewN | apply Kept.drew) | exact HK.out)⟩,⟨by repeat (first | (with_reducible first | exact HB.out | apply below_alloc | apply pw_below_drewN | apply below_drew1) | exact HB.out)⟩⟩
       case rest =>
        clear HC19; try clear c1
        try clear c2
        try clear p2
        try clear c5
        try clear c5b0
        try clear c6
        try clear p6
        try clear c9
        try clear c9b0
        try clear c9b1
        try clear c14
        try clear c22
        try clear c22b0
        try clear c22b1
        try clear p2
        try clear p6
        obtain ⟨kq,x0_18,x11_18,x12_18,rfl,rfl,HA,HJ18,HO_0,HK,HB⟩ := hcut; have hl0_18 := (BR_reads' HO_0.out).1; rw [hl0_18] at HO_0
        (try simp only [hl0_18])
        cases kq with
        | zero => exact absurd HA.out (by simp [slices_pdqsortOrdered_byte.j2])
        | succ kj18 =>
         have H := HA.out; clear HA; simp only [slices_pdqsortOrdered_byte.j2] at H; have HC25 := Aside0.mk H; clear H
         go_upto_region 15 with (fail)
         repeat (go_quiet (fail); go_upto_region 15 with (fail))
         go_cut [68] (fun v68 wc => ∃ (kq : Nat) (x68_24 : Bool),v68 = .bool x68_24 ∧ Aside0 (slices_pdqsortOrdered_byte.j3 kq x0_18 x1_1 x2_1 x3_12 x8_1 x9_1 (wrap64 (x2_1 - x1_1)) x11_18 x68_24 = some r) ∧ Aside0 (kq ≤ kj18) ∧ Aside0 (BR wc w0.heap.size (fun k_ => (P0_ k_ ∨ w.heap.size ≤ k_)) (.slice Ao20 x0_18.length co20) x0_18) ∧ Aside0 (Kept w wc (fun k_ => P0_ k_)) ∧ Aside0 (Below w0.heap.size w0 wc))
         case first =>
          have H := HC25.out; clear HC25
          by_cases c26 : x8_1 = true
          ·
           subst c26; have H1 : (if x9_1 = true then (slices_pdqsortOrdered_byte.j3 kj18 x0_18 x1_1 x2_1 x3_12 true x9_1 (wrap64 (x2_1 - x1_1)) x11_18 (x12_18 == 1)) else (slices_pdqsortOrdered_byte.j3 kj18 x0_18 x1_1 x2_1 x3_12 true x9_1 (wrap64 (x2_1 - x1_1)) x11_18 false)) = some r := by rw [if_pos rfl] at H; exact H
           clear H; have H := H1; clear H1
           by_cases c27 : x9_1 = true
           ·
            subst c27; have H1 : (slices_pdqsortOrdered_byte.j3 kj18 x0_18 x1_1 x2_1 x3_12 true true (wrap64 (x2_1 - x1_1)) x11_18 (x12_18 == 1)) = some r := by rw [if_pos rfl] at H; exact H
            clear H; have H := H1; clear H1; have H' := Aside0.mk H; clear H; go_wp2
            repeat (go_quiet (fail); try go_wp2)
            go_meet
            case rel => exact ⟨_,((x12_18 == 1)),(by first | rfl | (simp; done) | (simp [*]; done)),H',⟨by have := HK1.out; have := HJ12.out; have := HJ18.out; first | omega | exact Nat.le_refl _⟩,⟨by (try simp only [hl0_18]); (with_reducible repeat (first | apply BR_alloc | apply BR_drewN | apply BR_drew)); exact HO_0.out⟩,⟨by repeat (first | (with_reducible first | exact HK.out | apply Kept.alloc | apply Kept.drewN | apply Kept.drew) | exact HK.out)⟩,⟨by repeat (first | (with_reducible first | exact HB.out | apply below_alloc | apply pw_below_drewN | apply below_drew1) | exact HB.out)⟩⟩
           ·
            replace c27 := Bool.eq_false_iff.mpr c27; subst c27; have H1 : (slices_pdqsortOrdered_byte.j3 kj18 x0_18 x1_1 x2_1 x3_12 true false (wrap64 (x2_1 - x1_1)) x11_18 false) = some r := by rw [if_neg (show ¬ (false = true) by decide)] at H; exact H
            clear H; have H := H1; clear H1; have H' := Aside0.mk H; clear H; go_wp2
            repeat (go_quiet (fail); try go_wp2)
            go_meet
            case rel => exact ⟨_,(false),(by first | rfl | (simp; done) | (simp [*]; done)),H',⟨by have := HK1.out; have := HJ12.out; have := HJ18.out; first | omega | exact Nat.le_refl _⟩,⟨by (try simp only [hl0_18]); (with_reducible repeat (first | apply BR_alloc | apply BR_drewN | apply BR_drew)); exact HO_0.out⟩,⟨by repeat (first | (with_reducible first | exact HK.out | apply Kept.alloc | apply Kept.drewN | apply Kept.drew) | exact HK.out)⟩,⟨by repeat (first | (with_reducible first | exact HB.out | apply below_alloc | apply pw_below_drewN | apply below_drew1) | exact HB.out)⟩⟩
          ·
           replace c26 := Bool.eq_false_iff.mpr c26; subst c26; have H1 : (slices_pdqsortOrdered_byte.j3 kj18 x0_18 x1_1 x2_1 x3_12 false x9_1 (wrap64 (x2_1 - x1_1)) x11_18 false) = some r := by rw [if_neg (show ¬ (false = true) by decide)] at H; exact H
           clear H; have H := H1; clear H1; have H' := Aside0.mk H; clear H; go_wp2
           repeat (go_quiet (fail); try go_wp2)
           go_meet
           case rel => exact ⟨_,(false),(by first | rfl | (simp; done) | (simp [*]; done)),H',⟨by have := HK1.out; have := HJ12.out; have := HJ18.out; first | omega | exact Nat.le_refl _⟩,⟨by (try simp only [hl0_18]); (with_reducible repeat (first | apply BR_alloc | apply BR_drewN | apply BR_drew)); exact HO_0.out⟩,⟨by repeat (first | (with_reducible first | exact HK.out | apply Kept.alloc | apply Kept.drewN | apply Kept.drew) | exact HK.out)⟩,⟨by repeat (first | (with_reducible first | exact HB.out | apply below_alloc | apply pw_below_drewN | apply below_drew1) | exact HB.out)⟩⟩
         case rest =>
          clear HC25; try clear c1
          try clear c2
          try clear p2
          try clear c5
          try clear c5b0
          try clear c6
          try clear p6
          try clear c9
          try clear c9b0
          try clear c9b1
          try clear c14
          try clear c22
          try clear c22b0
          try clear c22b1
          try clear c26
          try clear c27
          try clear p2
          try clear p6
          obtain ⟨kq,x68_24,rfl,HA,HJ24,HO_0,HK,HB⟩ := hcut
          cases kq with
          | zero => exact absurd HA.out (by simp [slices_pdqsortOrdered_byte.j3])
          | succ kj24 =>
           have H := HA.out; clear HA; simp only [slices_pdqsortOrdered_byte.j3] at H; have HC28 := Aside0.mk H; clear H
           go_upto_if 68 with (fail)
           repeat (go_quiet (fail); go_upto_if 68 with (fail))
           go_cut [] (fun wc => ∃ (kq : Nat) (x0_27 : List Int),Aside0 (slices_pdqsortOrdered_byte.j4 kq x0_27 x1_1 x2_1 x3_12 x8_1 x9_1 (wrap64 (x2_1 - x1_1)) x11_18 = some r) ∧ Aside0 (kq ≤ kj24) ∧ Aside0 (BR wc w0.heap.size (fun k_ => (P0_ k_ ∨ w.heap.size ≤ k_)) (.slice Ao20 x0_18.length co20) x0_27) ∧ Aside0 (Kept w wc (fun k_ => P0_ k_)) ∧ Aside0 (Below w0.heap.size w0 wc))
           case first =>
            have H := HC28.out; clear HC28
            by_cases c29 : x68_24 = true
            ·
             subst c29; have H1 : ((slices_partialInsertionSortOrdered_byte.f kj24 x0_18 x1_1 x2_1).bind fun bt107 => (if bt107.1 = true then (some bt107.2) else (slices_pdqsortOrdered_byte.j4 kj24 bt107.2 x1_1 x2_1 x3_12 x8_1 x9_1 (wrap64 (x2_1 - x1_1)) x11_18))) = some r := by rw [if_pos rfl] at H; exact H
             clear H; have H := H1; clear H1; replace H := Option.bind_eq_some_iff.mp H; obtain ⟨⟨t107,t108⟩,A300,H⟩ := H; replace H : (if t107 = true then (some t108) else (slices_pdqsortOrdered_byte.j4 kj24 t108 x1_1 x2_1 x3_12 x8_1 x9_1 (wrap64 (x2_1 - x1_1)) x11_18)) = some r := H; have A30 := Aside0.mk A300; clear A300
             by_cases c31 : t107 = true
             ·
              subst c31; have H1 : (some t108) = some r := by rw [if_pos rfl] at H; exact H
              clear H; have H := H1; clear H1; obtain rfl := Option.some.inj H; go_wp2_with (first | (go_at_call 81; (with_reducible refine (slices_partialInsertionSortOrdered_byte.calls kj24 (fun k_ => some k_ = (.slice Ao20 x0_18.length co20 : Value).ownBlock) (.slice Ao20 x0_18.length co20) x0_18 x1_1 x2_1 true t108 w0 _ ?side1 ?side2 A30.out).mono ?_); (case side1 => repeat (first | (with_reducible first | exact HB.out | apply below_alloc | apply pw_below_drewN | apply below_drew1) | exact HB.out)); (case side2 => exact BR_tight rfl HO_0.out); rintro e w32 ⟨rfl,hy0,hb,hkp⟩; have n0_ := Aside0.mk (BR_reok rfl hy0 (fun k_ e_ => HO_0.out.1 k_ e_)); have n1_ := Aside0.mk (Kept.then_ (S := (fun k_ => P0_ k_)) (by repeat (first | (with_reducible first | exact HK.out | apply Kept.alloc | apply Kept.drewN | apply Kept.drew) | exact HK.out)) hkp (fun k_ hs_ => (fun e_ => (HO_0.out.1 k_ e_.symm)) hs_)); have n2_ := Aside0.mk (hb); clear HO_0; clear HK; clear HB; have HO_0 := n0_; have HK := n1_; have HB := n2_; clear n0_ n1_ n2_; (try clear hb); (try clear hkp); (try clear hy0)))
              repeat (go_quiet (first | (go_at_call 81; (with_reducible refine (slices_partialInsertionSortOrdered_byte.calls kj24 (fun k_ => some k_ = (.slice Ao20 x0_18.length co20 : Value).ownBlock) (.slice Ao20 x0_18.length co20) x0_18 x1_1 x2_1 true t108 w0 _ ?side1 ?side2 A30.out).mono ?_); (case side1 => repeat (first | (with_reducible first | exact HB.out | apply below_alloc | apply pw_below_drewN | apply below_drew1) | exact HB.out)); (case side2 => exact BR_tight rfl HO_0.out); rintro e w32 ⟨rfl,hy0,hb,hkp⟩; have n0_ := Aside0.mk (BR_reok rfl hy0 (fun k_ e_ => HO_0.out.1 k_ e_)); have n1_ := Aside0.mk (Kept.then_ (S := (fun k_ => P0_ k_)) (by repeat (first | (with_reducible first | exact HK.out | apply Kept.alloc | apply Kept.drewN | apply Kept.drew) | exact HK.out)) hkp (fun k_ hs_ => (fun e_ => (HO_0.out.1 k_ e_.symm)) hs_)); have n2_ := Aside0.mk (hb); clear HO_0; clear HK; clear HB; have HO_0 := n0_; have HK := n1_; have HB := n2_; clear n0_ n1_ n2_; (try clear hb); (try clear hkp); (try clear hy0))); try go_wp2_with (first | (go_at_call 81; (with_reducible refine (slices_partialInsertionSortOrdered_byte.calls kj24 (fun k_ => some k_ = (.slice Ao20 x0_18.length co20 : Value).ownBlock) (.slice Ao20 x0_18.length co20) x0_18 x1_1 x2_1 true t108 w0 _ ?side1 ?side2 A30.out).mono ?_); (case side1 => repeat (first | (with_reducible first | exact HB.out | apply below_alloc | apply pw_below_drewN | apply below_drew1) | exact HB.out)); (case side2 => exact BR_tight rfl HO_0.out); rintro e w32 ⟨rfl,hy0,hb,hkp⟩; have n0_ := Aside0.mk (BR_reok rfl hy0 (fun k_ e_ => HO_0.out.1 k_ e_)); have n1_ := Aside0.mk (Kept.then_ (S := (fun k_ => P0_ k_)) (by repeat (first | (with_reducible first | exact HK.out | apply Kept.alloc | apply Kept.drewN | apply Kept.drew) | exact HK.out)) hkp (fun k_ hs_ => (fun e_ => (HO_0.out.1 k_ e_.symm)) hs_)); have n2_ := Aside0.mk (hb); clear HO_0; clear HK; clear HB; have HO_0 := n0_; have HK := n1_; have HB := n2_; clear n0_ n1_ n2_; (try clear hb); (try clear hkp); (try clear hy0))))
              first | go_end0 | ((try simp only [Exit.inBlock,Exit.then]); refine bodyPost_ret (results_none rfl _ _ _) rfl ?_)
              exact ⟨by first | rfl | (simp [errW_none,errW_some] <;> rfl) | (simp [*,errW_none,errW_some] <;> rfl),(by first | exact (by (with_reducible repeat (first | apply BR_alloc | apply BR_drewN | apply BR_drew)); exact HO_0.out) | (simp only [hl0_18]; exact (by (with_reducible repeat (first | apply BR_alloc | apply BR_drewN | apply BR_drew)); exact HO_0.out))),by repeat (first | (with_reducible first | exact HB.out | apply below_alloc | apply pw_below_drewN | apply below_drew1) | exact HB.out),by repeat (first | (with_reducible first | exact HK.out | apply Kept.alloc | apply Kept.drewN | apply Kept.drew) | exact HK.out)⟩
             ·
              replace c31 := Bool.eq_false_iff.mpr c31; subst c31; have H1 : (slices_pdqsortOrdered_byte.j4 kj24 t108 x1_1 x2_1 x3_12 x8_1 x9_1 (wrap64 (x2_1 - x1_1)) x11_18) = some r := by rw [if_neg (show ¬ (false = true) by decide)] at H; exact H
              clear H; have H := H1; clear H1; have H' := Aside0.mk H; clear H; go_wp2_with (first | (go_at_call 81; (with_reducible refine (slices_partialInsertionSortOrdered_byte.calls kj24 (fun k_ => some k_ = (.slice Ao20 x0_18.length co20 : Value).ownBlock) (.slice Ao20 x0_18.length co20) x0_18 x1_1 x2_1 false t108 w0 _ ?side1 ?side2 A30.out).mono ?_); (case side1 => repeat (first | (with_reducible first | exact HB.out | apply below_alloc | apply pw_below_drewN | apply below_drew1) | exact HB.out)); (case side2 => exact BR_tight rfl HO_0.out); rintro e w33 ⟨rfl,hy0,hb,hkp⟩; have n0_ := Aside0.mk (BR_reok rfl hy0 (fun k_ e_ => HO_0.out.1 k_ e_)); have n1_ := Aside0.mk (Kept.then_ (S := (fun k_ => P0_ k_)) (by repeat (first | (with_reducible first | exact HK.out | apply Kept.alloc | apply Kept.drewN | apply Kept.drew) | exact HK.out)) hkp (fun k_ hs_ => (fun e_ => (HO_0.out.1 k_ e_.symm)) hs_)); have n2_ := Aside0.mk (hb); clear HO_0; clear HK; clear HB; have HO_0 := n0_; have HK := n1_; have HB := n2_; clear n0_ n1_ n2_; (try clear hb); (try clear hkp); (try clear hy0)))
              repeat (go_quiet (first | (go_at_call 81; (with_reducible refine (slices_partialInsertionSortOrdered_byte.calls kj24 (fun k_ => some k_ = (.slice Ao20 x0_18.length co20 : Value).ownBlock) (.slice Ao20 x0_18.length co20) x0_18 x1_1 x2_1 false t108 w0 _ ?side1 ?side2 A30.out).mono ?_); (case side1 => repeat (first | (with_reducible first | exact HB.out | apply below_alloc | apply pw_below_drewN | apply below_drew1) | exact HB.out)); (case side2 => exact BR_tight rfl HO_0.out); rintro e w33 ⟨rfl,hy0,hb,hkp⟩; have n0_ := Aside0.mk (BR_reok rfl hy0 (fun k_ e_ => HO_0.out.1 k_ e_)); have n1_ := Aside0.mk (Kept.then_ (S := (fun k_ => P0_ k_)) (by repeat (first | (with_reducible first | exact HK.out | apply Kept.alloc | apply Kept.drewN | apply Kept.drew) | exact HK.out)) hkp (fun k_ hs_ => (fun e_ => (HO_0.out.1 k_ e_.symm)) hs_)); have n2_ := Aside0.mk (hb); clear HO_0; clear HK; clear HB; have HO_0 := n0_; have HK := n1_; have HB := n2_; clear n0_ n1_ n2_; (try clear hb); (try clear hkp); (try clear hy0))); try go_wp2_with (first | (go_at_call 81; (with_reducible refine (slices_partialInsertionSortOrdered_byte.calls kj24 (fun k_ => some k_ = (.slice Ao20 x0_18.length co20 : Value).ownBlock) (.slice Ao20 x0_18.length co20) x0_18 x1_1 x2_1 false t108 w0 _ ?side1 ?side2 A30.out).mono ?_); (case side1 => repeat (first | (with_reducible first | exact HB.out | apply below_alloc | apply pw_below_drewN | apply below_drew1) | exact HB.out)); (case side2 => exact BR_tight rfl HO_0.out); rintro e w33 ⟨rfl,hy0,hb,hkp⟩; have n0_ := Aside0.mk (BR_reok rfl hy0 (fun k_ e_ => HO_0.out.1 k_ e_)); have n1_ := Aside0.mk (Kept.then_ (S := (fun k_ => P0_ k_)) (by repeat (first | (with_reducible first | exact HK.out | apply Kept.alloc | apply Kept.drewN | apply Kept.drew) | exact HK.out)) hkp (fun k_ hs_ => (fun e_ => (HO_0.out.1 k_ e_.symm)) hs_)); have n2_ := Aside0.mk (hb); clear HO_0; clear HK; clear HB; have HO_0 := n0_; have HK := n1_; have HB := n2_; clear n0_ n1_ n2_; (try clear hb); (try clear hkp); (try clear hy0))))
              go_meet
              case rel => exact ⟨_,(t108),H',⟨by have := HK1.out; have := HJ12.out; have := HJ18.out; have := HJ24.out; first | omega | exact Nat.le_refl _⟩,⟨by (try simp only [hl0_18]); (with_reducible repeat (first | apply BR_alloc | apply BR_drewN | apply BR_drew)); exact HO_0.out⟩,⟨by repeat (first | (with_reducible first | exact HK.out | apply Kept.alloc | apply Kept.drewN | apply Kept.drew) | exact HK.out)⟩,⟨by repeat (first | (with_reducible first | exact HB.out | apply below_alloc | apply pw_below_drewN | apply below_drew1) | exact HB.out)⟩⟩
            ·
             replace c29 := Bool.eq_false_iff.mpr c29; subst c29; have H1 : (slices_pdqsortOrdered_byte.j4 kj24 x0_18 x1_1 x2_1 x3_12 x8_1 x9_1 (wrap64 (x2_1 - x1_1)) x11_18) = some r := by rw [if_neg (show ¬ (false = true) by decide)] at H; exact H
             clear H; have H := H1; clear H1; have H' := Aside0.mk H; clear H; go_wp2
             repeat (go_quiet (fail); try go_wp2)
             go_meet
             case rel => exact ⟨_,(x0_18),H',⟨by have := HK1.out; have := HJ12.out; have := HJ18.out; have := HJ24.out; first | omega | exact Nat.le_refl _⟩,⟨by (try simp only [hl0_18]); (with_reducible repeat (first | apply BR_alloc | apply BR_drewN | apply BR_drew)); exact HO_0.out⟩,⟨by repeat (first | (with_reducible first | exact HK.out | apply Kept.alloc | apply Kept.drewN | apply Kept.drew) | exact HK.out)⟩,⟨by repeat (first | (with_reducible first | exact HB.out | apply below_alloc | apply pw_below_drewN | apply below_drew1) | exact HB.out)⟩⟩
           case rest =>
            clear HC28; try clear c1
            try clear c2
            try clear p2
            try clear c3
            try clear c5
            try clear c5b0
            try clear c6
            try clear p6
            try clear c9
            try clear c9b0
            try clear c9b1
            try clear c14
            try clear c22
            try clear c22b0
            try clear c22b1
            try clear c26
            try clear c27
            try clear c29
            try clear c31
            try clear p2
            try clear p6
            obtain ⟨kq,x0_27,HA,HJ27,HO_0,HK,HB⟩ := hcut; have hl0_27 := (BR_reads' HO_0.out).1; rw [hl0_27] at HO_0
            (try simp only [hl0_27])
            cases kq with
            | zero => exact absurd HA.out (by simp [slices_pdqsortOrdered_byte.j4])
            | succ kj27 =>
             have H := HA.out; clear HA; simp only [slices_pdqsortOrdered_byte.j4] at H; have HC34 := Aside0.mk H; clear H
             go_upto_region 17 with (fail)
             repeat (go_quiet (fail); go_upto_region 17 with (fail))
             go_cut [87] (fun v87 wc => ∃ (kq : Nat) (x87_33 : Bool),v87 = .bool x87_33 ∧ Aside0 (slices_pdqsortOrdered_byte.j5 kq x0_27 x1_1 x2_1 x3_12 x8_1 x9_1 (wrap64 (x2_1 - x1_1)) x11_18 x87_33 = some r) ∧ Aside0 (kq ≤ kj27) ∧ Aside0 (BR wc w0.heap.size (fun k_ => (P0_ k_ ∨ w.heap.size ≤ k_)) (.slice Ao20 x0_27.length co20) x0_27) ∧ Aside0 (Kept w wc (fun k_ => P0_ k_)) ∧ Aside0 (Below w0.heap.size w0 wc))
             case first =>
              have H := HC34.out; clear HC34
              by_cases c35 : x1_1 > 0
              ·
               rw [if_pos c35] at H; have c35b0 : decide (0 < x1_1) = true := decide_eq_true c35; clear c35
               (first | rw [c35b0] | (simp only [i64_w,i32_w]; rw [c35b0]) | skip)
               obtain ⟨ji36,hji36⟩ : ∃ j_ : Int,(wrap64 (x1_1 - 1)) = j_ := ⟨_,rfl⟩; replace H : (if 0 ≤ (ji36) then (if (ji36) < (x0_27.length : Int) then (if 0 ≤ x11_18 then (if x11_18 < (x0_27.length : Int) then ((cmp_Less_byte.f (rd x0_27 (ji36)) (rd x0_27 x11_18)).bind fun t111 => (slices_pdqsortOrdered_byte.j5 kj27 x0_27 x1_1 x2_1 x3_12 x8_1 x9_1 (wrap64 (x2_1 - x1_1)) x11_18 (!t111))) else (none)) else (none)) else (none)) else (none)) = some r := by first | (rw [hji36] at H; exact H) | (simp only [hji36] at H ⊢; exact H)
               have hji36w : (IntKind.i64.wrap (x1_1 - 1)) = ji36 := (i64_w _).trans hji36
               by_cases c37 : 0 ≤ (ji36)
               ·
                rw [if_pos c37] at H; have c37b0 : decide (0 ≤ (ji36)) = true := decide_eq_true c37; clear c37
                by_cases c38 : (ji36) < (x0_27.length : Int)
                ·
                 rw [if_pos c38] at H; have c38b0 : decide ((ji36) < (x0_27.length : Int)) = true := decide_eq_true c38
                 (try (have c38b0_ := c38b0; rw [hl0_18] at c38b0_))
                 (try (have c38b0_ := c38b0; rw [hl0_27] at c38b0_))
                 clear c38
                 by_cases c39 : 0 ≤ x11_18
                 ·
                  rw [if_pos c39] at H; have c39b0 : decide (0 ≤ x11_18) = true := decide_eq_true c39; clear c39
                  by_cases c40 : x11_18 < (x0_27.length : Int)
                  ·
                   rw [if_pos c40] at H; have c40b0 : decide (x11_18 < (x0_27.length : Int)) = true := decide_eq_true c40
                   (try (have c40b0_ := c40b0; rw [hl0_18] at c40b0_))
                   (try (have c40b0_ := c40b0; rw [hl0_27] at c40b0_))
                   clear c40; replace H := Option.bind_eq_some_iff.mp H; obtain ⟨t111,A410,H⟩ := H; replace H : (slices_pdqsortOrdered_byte.j5 kj27 x0_27 x1_1 x2_1 x3_12 x8_1 x9_1 (wrap64 (x2_1 - x1_1)) x11_18 (!t111)) = some r := H; have A41 := Aside0.mk A410; clear A410; have H' := Aside0.mk H; clear H; have p109 : 0 ≤ ((ji36) : Int) := of_decide_eq_true (by first | (with_reducible assumption) | assumption); have q109 : (ji36) < (x0_27.length : Int) := of_decide_eq_true (by first | (with_reducible assumption) | assumption); obtain ⟨ad109,e109,hx109_0⟩ := Kd.at_int (BR_reads' HO_0.out).2.2 (ji36) p109 q109
                   cases e109
                   replace p109 := eq_true p109; replace q109 := eq_true q109; have p110 : 0 ≤ (x11_18 : Int) := of_decide_eq_true (by first | (with_reducible assumption) | assumption); have q110 : x11_18 < (x0_27.length : Int) := of_decide_eq_true (by first | (with_reducible assumption) | assumption); obtain ⟨ad110,e110,hx110_0⟩ := Kd.at_int (BR_reads' HO_0.out).2.2 x11_18 p110 q110; obtain rfl : ad109 = ad110 := (by injection e110); replace p110 := eq_true p110; replace q110 := eq_true q110; go_wp2_with (first | (go_at_call 82; (with_reducible refine (cmp_Less_byte.calls (rd x0_27 (ji36)) (rd x0_27 x11_18) t111 _ A41.out).mono ?_); rintro e w' ⟨rfl,⟨nd,rfl⟩⟩; (try first | exact ⟨rfl,_,World.drewN_drewN _ _ _⟩ | exact ⟨rfl,_,Eq.trans (World.drewN_drewN _ _ _) (congrArg (World.drewN _) (Nat.add_assoc _ _ _))⟩)))
                   repeat (go_quiet (first | (go_at_call 82; (with_reducible refine (cmp_Less_byte.calls (rd x0_27 (ji36)) (rd x0_27 x11_18) t111 _ A41.out).mono ?_); rintro e w' ⟨rfl,⟨nd,rfl⟩⟩; (try first | exact ⟨rfl,_,World.drewN_drewN _ _ _⟩ | exact ⟨rfl,_,Eq.trans (World.drewN_drewN _ _ _) (congrArg (World.drewN _) (Nat.add_assoc _ _ _))⟩))); try go_wp2_with (first | (go_at_call 82; (with_reducible refine (cmp_Less_byte.calls (rd x0_27 (ji36)) (rd x0_27 x11_18) t111 _ A41.out).mono ?_); rintro e w' ⟨rfl,⟨nd,rfl⟩⟩; (try first | exact ⟨rfl,_,World.drewN_drewN _ _ _⟩ | exact ⟨rfl,_,Eq.trans (World.drewN_drewN _ _ _) (congrArg (World.drewN _) (Nat.add_assoc _ _ _))⟩))))
                   go_meet
                   case rel => exact ⟨_,(!t111),(by first | rfl | (simp; done) | (simp [*]; done)),H',⟨by have := HK1.out; have := HJ12.out; have := HJ18.out; have := HJ24.out; have := HJ27.out; first | omega | exact Nat.le_refl _⟩,⟨by (try simp only [hl0_18]); (try simp only [hl0_27]); (with_reducible repeat (first | apply BR_alloc | apply BR_drewN | apply BR_drew)); exact HO_0.out⟩,⟨by repeat (first | (with_reducible first | exact HK.out | apply Kept.alloc | apply Kept.drewN | apply Kept.drew) | exact HK.out)⟩,⟨by repeat (first | (with_reducible first | exact HB.out | apply below_alloc | apply pw_below_drewN | apply below_drew1) | exact HB.out)⟩⟩
                  · rw [if_neg c40] at H; exact absurd H (by simp)
                 · rw [if_neg c39] at H; exact absurd H (by simp)
                · rw [if_neg c38] at H; exact absurd H (by simp)
               · rw [if_neg c37] at H; exact absurd H (by simp)
              ·
               rw [if_neg c35] at H; have c35b0 : decide (0 < x1_1) = false := decide_eq_false c35; clear c35
               (first | rw [c35b0] | (simp only [i64_w,i32_w]; rw [c35b0]) | skip)
               have H' := Aside0.mk H; clear H; go_wp2
               repeat (go_quiet (fail); try go_wp2)
               go_meet
               case rel => exact ⟨_,(false),(by first | rfl | (simp; done) | (simp [*]; done)),H',⟨by have := HK1.out; have := HJ12.out; have := HJ18.out; have := HJ24.out; have := HJ27.out; first | omega | exact Nat.le_refl _⟩,⟨by (try simp only [hl0_18]); (try simp only [hl0_27]); (with_reducible repeat (first | apply BR_alloc | apply BR_drewN | apply BR_drew)); exact HO_0.out⟩,⟨by repeat (first | (with_reducible first | exact HK.out | apply Kept.alloc | apply Kept.drewN | apply Kept.drew) | exact HK.out)⟩,⟨by repeat (first | (with_reducible first | exact HB.out | apply below_alloc | apply pw_below_drewN | apply below_drew1) | exact HB.out)⟩⟩
             case rest =>
              clear HC34; try clear c1
              try clear p1
              try clear q1
              try clear hx1
              try clear c2
              try clear p2
              try clear c3
              try clear c4
              try clear c5
              try clear c5b0
              try clear c6
              try clear p6
              try clear c9
              try clear c9b0
              try clear c9b1
              try clear p10
              try clear q10
              try clear hx10
              try clear p11
              try clear q11
              try clear hx11
              try clear c14
              try clear c22
              try clear c22b0
              try clear c22b1
              try clear c26
              try clear c27
              try clear c29
              try clear c31
              try clear c35
              try clear c35b0
              try clear c37
              try clear c37b0
              try clear c38
              try clear c38b0
              try clear c39
              try clear c39b0
              try clear c40
              try clear c40b0
              try clear hx109_0
              try clear hx110_0
              try clear p109
              try clear p110
              try clear p2
              try clear p6
              try clear q109
              try clear q110
              obtain ⟨kq,x87_33,rfl,HA,HJ33,HO_0,HK,HB⟩ := hcut
              cases kq with
              | zero => exact absurd HA.out (by simp [slices_pdqsortOrdered_byte.j5])
              | succ kj33 =>
               have H := HA.out; clear HA; simp only [slices_pdqsortOrdered_byte.j5] at H
               by_cases c42 : x87_33 = true
               ·
                subst c42; have H1 : ((slices_partitionEqualOrdered_byte.f kj33 x0_27 x1_1 x2_1 x11_18).bind fun bt112 => (slices_pdqsortOrdered_byte.l0 kj33 bt112.2 bt112.1 x2_1 x3_12 x8_1 x9_1)) = some r := by rw [if_pos rfl] at H; exact H
                clear H; have H := H1; clear H1; replace H := Option.bind_eq_some_iff.mp H; obtain ⟨⟨t112,t113⟩,A430,H⟩ := H; replace H : (slices_pdqsortOrdered_byte.l0 kj33 t113 t112 x2_1 x3_12 x8_1 x9_1) = some r := H; have A43 := Aside0.mk A430; clear A430; have H' := Aside0.mk H; clear H; go_wp2_with (first | (go_at_call 83; (with_reducible refine (slices_partitionEqualOrdered_byte.calls kj33 (fun k_ => some k_ = (.slice Ao20 x0_27.length co20 : Value).ownBlock) (.slice Ao20 x0_27.length co20) x0_27 x1_1 x2_1 x11_18 t112 t113 w0 _ ?side1 ?side2 A43.out).mono ?_); (case side1 => repeat (first | (with_reducible first | exact HB.out | apply below_alloc | apply pw_below_drewN | apply below_drew1) | exact HB.out)); (case side2 => exact BR_tight rfl HO_0.out); rintro e w44 ⟨rfl,hy0,hb,hkp⟩; have n0_ := Aside0.mk (BR_reok rfl hy0 (fun k_ e_ => HO_0.out.1 k_ e_)); have n1_ := Aside0.mk (Kept.then_ (S := (fun k_ => P0_ k_)) (by repeat (first | (with_reducible first | exact HK.out | apply Kept.alloc | apply Kept.drewN | apply Kept.drew) | exact HK.out)) hkp (fun k_ hs_ => (fun e_ => (HO_0.out.1 k_ e_.symm)) hs_)); have n2_ := Aside0.mk (hb); clear HO_0; clear HK; clear HB; have HO_0 := n0_; have HK := n1_; have HB := n2_; clear n0_ n1_ n2_; (try clear hb); (try clear hkp); (try clear hy0)))
                repeat (go_quiet (first | (go_at_call 83; (with_reducible refine (slices_partitionEqualOrdered_byte.calls kj33 (fun k_ => some k_ = (.slice Ao20 x0_27.length co20 : Value).ownBlock) (.slice Ao20 x0_27.length co20) x0_27 x1_1 x2_1 x11_18 t112 t113 w0 _ ?side1 ?side2 A43.out).mono ?_); (case side1 => repeat (first | (with_reducible first | exact HB.out | apply below_alloc | apply pw_below_drewN | apply below_drew1) | exact HB.out)); (case side2 => exact BR_tight rfl HO_0.out); rintro e w44 ⟨rfl,hy0,hb,hkp⟩; have n0_ := Aside0.mk (BR_reok rfl hy0 (fun k_ e_ => HO_0.out.1 k_ e_)); have n1_ := Aside0.mk (Kept.then_ (S := (fun k_ => P0_ k_)) (by repeat (first | (with_reducible first | exact HK.out | apply Kept.alloc | apply Kept.drewN | apply Kept.drew) | exact HK.out)) hkp (fun k_ hs_ => (fun e_ => (HO_0.out.1 k_ e_.symm)) hs_)); have n2_ := Aside0.mk (hb); clear HO_0; clear HK; clear HB; have HO_0 := n0_; have HK := n1_; have HB := n2_; clear n0_ n1_ n2_; (try clear hb); (try clear hkp); (try clear hy0))); try go_wp2_with (first | (go_at_call 83; (with_reducible refine (slices_partitionEqualOrdered_byte.calls kj33 (fun k_ => some k_ = (.slice Ao20 x0_27.length co20 : Value).ownBlock) (.slice Ao20 x0_27.length co20) x0_27 x1_1 x2_1 x11_18 t112 t113 w0 _ ?side1 ?side2 A43.out).mono ?_); (case side1 => repeat (first | (with_reducible first | exact HB.out | apply below_alloc | apply pw_below_drewN | apply below_drew1) | exact HB.out)); (case side2 => exact BR_tight rfl HO_0.out); rintro e w44 ⟨rfl,hy0,hb,hkp⟩; have n0_ := Aside0.mk (BR_reok rfl hy0 (fun k_ e_ => HO_0.out.1 k_ e_)); have n1_ := Aside0.mk (Kept.then_ (S := (fun k_ => P0_ k_)) (by repeat (first | (with_reducible first | exact HK.out | apply Kept.alloc | apply Kept.drewN | apply Kept.drew) | exact HK.out)) hkp (fun k_ hs_ => (fun e_ => (HO_0.out.1 k_ e_.symm)) hs_)); have n2_ := Aside0.mk (hb); clear HO_0; clear HK; clear HB; have HO_0 := n0_; have HK := n1_; have HB := n2_; clear n0_ n1_ n2_; (try clear hb); (try clear hkp); (try clear hy0))))
                (try simp only [← hl0_18,← hl0_27])
                go_roundg kj33
                case measure => have := HK1.out; have := HJ12.out; have := HJ18.out; have := HJ24.out; have := HJ27.out; have := HJ33.out; omega
                case rel => exact ⟨(t113),(t112),(x2_1),(x3_12),(x8_1),(x9_1),(by first | rfl | (simp; done) | (simp [*]; done)),(by first | rfl | (simp; done) | (simp [*]; done)),(by first | rfl | (simp; done) | (simp [*]; done)),(by first | rfl | (simp; done) | (simp [*]; done)),(by first | rfl | (simp; done) | (simp [*]; done)),H',⟨by have := HK1.out; have := HJ12.out; have := HJ18.out; have := HJ24.out; have := HJ27.out; have := HJ33.out; omega⟩,⟨by (try simp only [hl0_18]); (try simp only [hl0_27]); (with_reducible repeat (first | apply BR_alloc | apply BR_drewN | apply BR_drew)); exact HO_0.out⟩,⟨by repeat (first | (with_reducible first | exact HK.out | apply Kept.alloc | apply Kept.drewN | apply Kept.drew) | exact HK.out)⟩,⟨by repeat (first | (with_reducible first | exact HB.out | apply below_alloc | apply pw_below_drewN | apply below_drew1) | exact HB.out)⟩⟩
               ·
                replace c42 := Bool.eq_false_iff.mpr c42; subst c42; have H1 : ((slices_partitionOrdered_byte.f kj33 x0_27 x1_1 x2_1 x11_18).bind fun bt114 => (if (wrap64 (bt114.1 - x1_1)) < (wrap64 (x2_1 - bt114.1)) then ((slices_pdqsortOrdered_byte.f kj33 bt114.2.2 x1_1 bt114.1 x3_12).bind fun t117 => (slices_pdqsortOrdered_byte.l0 kj33 t117 (wrap64 (bt114.1 + 1)) x2_1 x3_12 (decide ((wrap64 (bt114.1 - x1_1)) ≥ (wrap64 (Int.tdiv (wrap64 (x2_1 - x1_1)) 8)))) bt114.2.1)) else ((slices_pdqsortOrdered_byte.f kj33 bt114.2.2 (wrap64 (bt114.1 + 1)) x2_1 x3_12).bind fun t118 => (slices_pdqsortOrdered_byte.l0 kj33 t118 x1_1 bt114.1 x3_12 (decide ((wrap64 (x2_1 - bt114.1)) ≥ (wrap64 (Int.tdiv (wrap64 (x2_1 - x1_1)) 8)))) bt114.2.1)))) = some r := by rw [if_neg (show ¬ (false = true) by decide)] at H; exact H
                clear H; have H := H1; clear H1; replace H := Option.bind_eq_some_iff.mp H; obtain ⟨⟨t114,t115,t116⟩,A450,H⟩ := H; replace H : (if (wrap64 (t114 - x1_1)) < (wrap64 (x2_1 - t114)) then ((slices_pdqsortOrdered_byte.f kj33 t116 x1_1 t114 x3_12).bind fun t117 => (slices_pdqsortOrdered_byte.l0 kj33 t117 (wrap64 (t114 + 1)) x2_1 x3_12 (decide ((wrap64 (t114 - x1_1)) ≥ (wrap64 (Int.tdiv (wrap64 (x2_1 - x1_1)) 8)))) t115)) else ((slices_pdqsortOrdered_byte.f kj33 t116 (wrap64 (t114 + 1)) x2_1 x3_12).bind fun t118 => (slices_pdqsortOrdered_byte.l0 kj33 t118 x1_1 t114 x3_12 (decide ((wrap64 (x2_1 - t114)) ≥ (wrap64 (Int.tdiv (wrap64 (x2_1 - x1_1)) 8)))) t115))) = some r := H; have A45 := Aside0.mk A450; clear A450
                by_cases c46 : (wrap64 (t114 - x1_1)) < (wrap64 (x2_1 - t114))
                ·
                 rw [if_pos c46] at H; have c46b0 : decide ((wrap64 (t114 - x1_1)) < (wrap64 (x2_1 - t114))) = true := decide_eq_true c46; clear c46; replace H := Option.bind_eq_some_iff.mp H; obtain ⟨t117,A470,H⟩ := H; replace H : (slices_pdqsortOrdered_byte.l0 kj33 t117 (wrap64 (t114 + 1)) x2_1 x3_12 (decide ((wrap64 (t114 - x1_1)) ≥ (wrap64 (Int.tdiv (wrap64 (x2_1 - x1_1)) 8)))) t115) = some r := H; have A47 := Aside0.mk A470; clear A470; have H' := Aside0.mk H; clear H; go_wp2_with (first | (go_at_call 84; (with_reducible refine (slices_partitionOrdered_byte.calls kj33 (fun k_ => some k_ = (.slice Ao20 x0_27.length co20 : Value).ownBlock) (.slice Ao20 x0_27.length co20) x0_27 x1_1 x2_1 x11_18 t114 t115 t116 w0 _ ?side1 ?side2 A45.out).mono ?_); (case side1 => repeat (first | (with_reducible first | exact HB.out | apply below_alloc | apply pw_below_drewN | apply below_drew1) | exact HB.out)); (case side2 => exact BR_tight rfl HO_0.out); rintro e w48 ⟨rfl,hy0,hb,hkp⟩; have n0_ := Aside0.mk (BR_reok rfl hy0 (fun k_ e_ => HO_0.out.1 k_ e_)); have n1_ := Aside0.mk (Kept.then_ (S := (fun k_ => P0_ k_)) (by repeat (first | (with_reducible first | exact HK.out | apply Kept.alloc | apply Kept.drewN | apply Kept.drew) | exact HK.out)) hkp (fun k_ hs_ => (fun e_ => (HO_0.out.1 k_ e_.symm)) hs_)); have n2_ := Aside0.mk (hb); clear HO_0; clear HK; clear HB; have HO_0 := n0_; have HK := n1_; have HB := n2_; clear n0_ n1_ n2_; (try clear hb); (try clear hkp); (try clear hy0)) | (go_at_call 61; (with_reducible refine (ih kj33 (by have := HK1.out; have := HJ12.out; have := HJ18.out; have := HJ24.out; have := HJ27.out; have := HJ33.out; omega) (fun k_ => some k_ = (.slice Ao20 x0_27.length co20 : Value).ownBlock) (.slice Ao20 x0_27.length co20) t116 x1_1 t114 x3_12 t117 w0 _ ?side1 ?side2 A47.out).mono ?_); (case side1 => repeat (first | (with_reducible first | exact HB.out | apply below_alloc | apply pw_below_drewN | apply below_drew1) | exact HB.out)); (case side2 => exact BR_tight rfl HO_0.out); rintro e w49 ⟨rfl,hy0,hb,hkp⟩; have n0_ := Aside0.mk (BR_reok rfl hy0 (fun k_ e_ => HO_0.out.1 k_ e_)); have n1_ := Aside0.mk (Kept.then_ (S := (fun k_ => P0_ k_)) (by repeat (first | (with_reducible first | exact HK.out | apply Kept.alloc | apply Kept.drewN | apply Kept.drew) | exact HK.out)) hkp (fun k_ hs_ => (fun e_ => (HO_0.out.1 k_ e_.symm)) hs_)); have n2_ := Aside0.mk (hb); clear HO_0; clear HK; clear HB; have HO_0 := n0_; have HK := n1_; have HB := n2_; clear n0_ n1_ n2_; (try clear hb); (try clear hkp); (try clear hy0)))
                 repeat (go_quiet (first | (go_at_call 84; (with_reducible refine (slices_partitionOrdered_byte.calls kj33 (fun k_ => some k_ = (.slice Ao20 x0_27.length co20 : Value).ownBlock) (.slice Ao20 x0_27.length co20) x0_27 x1_1 x2_1 x11_18 t114 t115 t116 w0 _ ?side1 ?side2 A45.out).mono ?_); (case side1 => repeat (first | (with_reducible first | exact HB.out | apply below_alloc | apply pw_below_drewN | apply below_drew1) | exact HB.out)); (case side2 => exact BR_tight rfl HO_0.out); rintro e w48 ⟨rfl,hy0,hb,hkp⟩; have n0_ := Aside0.mk (BR_reok rfl hy0 (fun k_ e_ => HO_0.out.1 k_ e_)); have n1_ := Aside0.mk (Kept.then_ (S := (fun k_ => P0_ k_)) (by repeat (first | (with_reducible first | exact HK.out | apply Kept.alloc | apply Kept.drewN | apply Kept.drew) | exact HK.out)) hkp (fun k_ hs_ => (fun e_ => (HO_0.out.1 k_ e_.symm)) hs_)); have n2_ := Aside0.mk (hb); clear HO_0; clear HK; clear HB; have HO_0 := n0_; have HK := n1_; have HB := n2_; clear n0_ n1_ n2_; (try clear hb); (try clear hkp); (try clear hy0)) | (go_at_call 61; (with_reducible refine (ih kj33 (by have := HK1.out; have := HJ12.out; have := HJ18.out; have := HJ24.out; have := HJ27.out; have := HJ33.out; omega) (fun k_ => some k_ = (.slice Ao20 x0_27.length co20 : Value).ownBlock) (.slice Ao20 x0_27.length co20) t116 x1_1 t114 x3_12 t117 w0 _ ?side1 ?side2 A47.out).mono ?_); (case side1 => repeat (first | (with_reducible first | exact HB.out | apply below_alloc | apply pw_below_drewN | apply below_drew1) | exact HB.out)); (case side2 => exact BR_tight rfl HO_0.out); rintro e w49 ⟨rfl,hy0,hb,hkp⟩; have n0_ := Aside0.mk (BR_reok rfl hy0 (fun k_ e_ => HO_0.out.1 k_ e_)); have n1_ := Aside0.mk (Kept.then_ (S := (fun k_ => P0_ k_)) (by repeat (first | (with_reducible first | exact HK.out | apply Kept.alloc | apply Kept.drewN | apply Kept.drew) | exact HK.out)) hkp (fun k_ hs_ => (fun e_ => (HO_0.out.1 k_ e_.symm)) hs_)); have n2_ := Aside0.mk (hb); clear HO_0; clear HK; clear HB; have HO_0 := n0_; have HK := n1_; have HB := n2_; clear n0_ n1_ n2_; (try clear hb); (try clear hkp); (try clear hy0))); try go_wp2_with (first | (go_at_call 84; (with_reducible refine (slices_partitionOrdered_byte.calls kj33 (fun k_ => some k_ = (.slice Ao20 x0_27.length co20 : Value).ownBlock) (.slice Ao20 x0_27.length co20) x0_27 x1_1 x2_1 x11_18 t114 t115 t116 w0 _ ?side1 ?side2 A45.out).mono ?_); (case side1 => repeat (first | (with_reducible first | exact HB.out | apply below_alloc | apply pw_below_drewN | apply below_drew1) | exact HB.out)); (case side2 => exact BR_tight rfl HO_0.out); rintro e w48 ⟨rfl,hy0,hb,hkp⟩; have n0_ := Aside0.mk (BR_reok rfl hy0 (fun k_ e_ => HO_0.out.1 k_ e_)); have n1_ := Aside0.mk (Kept.then_ (S := (fun k_ => P0_ k_)) (by repeat (first | (with_reducible first | exact HK.out | apply Kept.alloc | apply Kept.drewN | apply Kept.drew) | exact HK.out)) hkp (fun k_ hs_ => (fun e_ => (HO_0.out.1 k_ e_.symm)) hs_)); have n2_ := Aside0.mk (hb); clear HO_0; clear HK; clear HB; have HO_0 := n0_; have HK := n1_; have HB := n2_; clear n0_ n1_ n2_; (try clear hb); (try clear hkp); (try clear hy0)) | (go_at_call 61; (with_reducible refine (ih kj33 (by have := HK1.out; have := HJ12.out; have := HJ18.out; have := HJ24.out; have := HJ27.out; have := HJ33.out; omega) (fun k_ => some k_ = (.slice Ao20 x0_27.length co20 : Value).ownBlock) (.slice Ao20 x0_27.length co20) t116 x1_1 t114 x3_12 t117 w0 _ ?side1 ?side2 A47.out).mono ?_); (case side1 => repeat (first | (with_reducible first | exact HB.out | apply below_alloc | apply pw_below_drewN | apply below_drew1) | exact HB.out)); (case side2 => exact BR_tight rfl HO_0.out); rintro e w49 ⟨rfl,hy0,hb,hkp⟩; have n0_ := Aside0.mk (BR_reok rfl hy0 (fun k_ e_ => HO_0.out.1 k_ e_)); have n1_ := Aside0.mk (Kept.then_ (S := (fun k_ => P0_ k_)) (by repeat (first | (with_reducible first | exact HK.out | apply Kept.alloc | apply Kept.drewN | apply Kept.drew) | exact HK.out)) hkp (fun k_ hs_ => (fun e_ => (HO_0.out.1 k_ e_.symm)) hs_)); have n2_ := Aside0.mk (hb); clear HO_0; clear HK; clear HB; have HO_0 := n0_; have HK := n1_; have HB := n2_; clear n0_ n1_ n2_; (try clear hb); (try clear hkp); (try clear hy0))))
                 (try simp only [← hl0_18,← hl0_27])
                 go_roundg kj33
                 case measure => have := HK1.out; have := HJ12.out; have := HJ18.out; have := HJ24.out; have := HJ27.out; have := HJ33.out; omega
                 case rel => exact ⟨(t117),(wrap64 (t114 + 1)),(x2_1),(x3_12),(decide ((wrap64 (t114 - x1_1)) ≥ (wrap64 (Int.tdiv (wrap64 (x2_1 - x1_1)) 8)))),(t115),(by first | rfl | (simp; done) | (simp [*]; done)),(by first | rfl | (simp; done) | (simp [*]; done)),(by first | rfl | (simp; done) | (simp [*]; done)),(by first | rfl | (simp; done) | (simp [*]; done)),(by first | rfl | (simp; done) | (simp [*]; done)),H',⟨by have := HK1.out; have := HJ12.out; have := HJ18.out; have := HJ24.out; have := HJ27.out; have := HJ33.out; omega⟩,⟨by (try simp only [hl0_18]); (try simp only [hl0_27]); (with_reducible repeat (first | apply BR_alloc | apply BR_drewN | apply BR_drew)); exact HO_0.out⟩,⟨by repeat (first | (with_reducible first | exact HK.out | apply Kept.alloc | apply Kept.drewN | apply Kept.drew) | exact HK.out)⟩,⟨by repeat (first | (with_reducible first | exact HB.out | apply below_alloc | apply pw_below_drewN | apply below_drew1) | exact HB.out)⟩⟩
                ·
                 rw [if_neg c46] at H; have c46b0 : decide ((wrap64 (t114 - x1_1)) < (wrap64 (x2_1 - t114))) = false := decide_eq_false c46; clear c46; replace H := Option.bind_eq_some_iff.mp H; obtain ⟨t118,A500,H⟩ := H; replace H : (slices_pdqsortOrdered_byte.l0 kj33 t118 x1_1 t114 x3_12 (decide ((wrap64 (x2_1 - t114)) ≥ (wrap64 (Int.tdiv (wrap64 (x2_1 - x1_1)) 8)))) t115) = some r := H; have A50 := Aside0.mk A500; clear A500; have H' := Aside0.mk H; clear H; go_wp2_with (first | (go_at_call 84; (with_reducible refine (slices_partitionOrdered_byte.calls kj33 (fun k_ => some k_ = (.slice Ao20 x0_27.length co20 : Value).ownBlock) (.slice Ao20 x0_27.length co20) x0_27 x1_1 x2_1 x11_18 t114 t115 t116 w0 _ ?side1 ?side2 A45.out).mono ?_); (case side1 => repeat (first | (with_reducible first | exact HB.out | apply below_alloc | apply pw_below_drewN | apply below_drew1) | exact HB.out)); (case side2 => exact BR_tight rfl HO_0.out); rintro e w51 ⟨rfl,hy0,hb,hkp⟩; have n0_ := Aside0.mk (BR_reok rfl hy0 (fun k_ e_ => HO_0.out.1 k_ e_)); have n1_ := Aside0.mk (Kept.then_ (S := (fun k_ => P0_ k_)) (by repeat (first | (with_reducible first | exact HK.out | apply Kept.alloc | apply Kept.drewN | apply Kept.drew) | exact HK.out)) hkp (fun k_ hs_ => (fun e_ => (HO_0.out.1 k_ e_.symm)) hs_)); have n2_ := Aside0.mk (hb); clear HO_0; clear HK; clear HB; have HO_0 := n0_; have HK := n1_; have HB := n2_; clear n0_ n1_ n2_; (try clear hb); (try clear hkp); (try clear hy0)) | (go_at_call 61; (with_reducible refine (ih kj33 (by have := HK1.out; have := HJ12.out; have := HJ18.out; have := HJ24.out; have := HJ27.out; have := HJ33.out; omega) (fun k_ => some k_ = (.slice Ao20 x0_27.length co20 : Value).ownBlock) (.slice Ao20 x0_27.length co20) t116 (wrap64 (t114 + 1)) x2_1 x3_12 t118 w0 _ ?side1 ?side2 A50.out).mono ?_); (case side1 => repeat (first | (with_reducible first | exact HB.out | apply below_alloc | apply pw_below_drewN | apply below_drew1) | exact HB.out)); (case side2 => exact BR_tight rfl HO_0.out); rintro e w52 ⟨rfl,hy0,hb,hkp⟩; have n0_ := Aside0.mk (BR_reok rfl hy0 (fun k_ e_ => HO_0.out.1 k_ e_)); have n1_ := Aside0.mk (Kept.then_ (S := (fun k_ => P0_ k_)) (by repeat (first | (with_reducible first | exact HK.out | apply Kept.alloc | apply Kept.drewN | apply Kept.drew) | exact HK.out)) hkp (fun k_ hs_ => (fun e_ => (HO_0.out.1 k_ e_.symm)) hs_)); have n2_ := Aside0.mk (hb); clear HO_0; clear HK; clear HB; have HO_0 := n0_; have HK := n1_; have HB := n2_; clear n0_ n1_ n2_; (try clear hb); (try clear hkp); (try clear hy0)))
                 repeat (go_quiet (first | (go_at_call 84; (with_reducible refine (slices_partitionOrdered_byte.calls kj33 (fun k_ => some k_ = (.slice Ao20 x0_27.length co20 : Value).ownBlock) (.slice Ao20 x0_27.length co20) x0_27 x1_1 x2_1 x11_18 t114 t115 t116 w0 _ ?side1 ?side2 A45.out).mono ?_); (case side1 => repeat (first | (with_reducible first | exact HB.out | apply below_alloc | apply pw_below_drewN | apply below_drew1) | exact HB.out)); (case side2 => exact BR_tight rfl HO_0.out); rintro e w51 ⟨rfl,hy0,hb,hkp⟩; have n0_ := Aside0.mk (BR_reok rfl hy0 (fun k_ e_ => HO_0.out.1 k_ e_)); have n1_ := Aside0.mk (Kept.then_ (S := (fun k_ => P0_ k_)) (by repeat (first | (with_reducible first | exact HK.out | apply Kept.alloc | apply Kept.drewN | apply Kept.drew) | exact HK.out)) hkp (fun k_ hs_ => (fun e_ => (HO_0.out.1 k_ e_.symm)) hs_)); have n2_ := Aside0.mk (hb); clear HO_0; clear HK; clear HB; have HO_0 := n0_; have HK := n1_; have HB := n2_; clear n0_ n1_ n2_; (try clear hb); (try clear hkp); (try clear hy0)) | (go_at_call 61; (with_reducible refine (ih kj33 (by have := HK1.out; have := HJ12.out; have := HJ18.out; have := HJ24.out; have := HJ27.out; have := HJ33.out; omega) (fun k_ => some k_ = (.slice Ao20 x0_27.length co20 : Value).ownBlock) (.slice Ao20 x0_27.length co20) t116 (wrap64 (t114 + 1)) x2_1 x3_12 t118 w0 _ ?side1 ?side2 A50.out).mono ?_); (case side1 => repeat (first | (with_reducible first | exact HB.out | apply below_alloc | apply pw_below_drewN | apply below_drew1) | exact HB.out)); (case side2 => exact BR_tight rfl HO_0.out); rintro e w52 ⟨rfl,hy0,hb,hkp⟩; have n0_ := Aside0.mk (BR_reok rfl hy0 (fun k_ e_ => HO_0.out.1 k_ e_)); have n1_ := Aside0.mk (Kept.then_ (S := (fun k_ => P0_ k_)) (by repeat (first | (with_reducible first | exact HK.out | apply Kept.alloc | apply Kept.drewN | apply Kept.drew) | exact HK.out)) hkp (fun k_ hs_ => (fun e_ => (HO_0.out.1 k_ e_.symm)) hs_)); have n2_ := Aside0.mk (hb); clear HO_0; clear HK; clear HB; have HO_0 := n0_; have HK := n1_; have HB := n2_; clear n0_ n1_ n2_; (try clear hb); (try clear hkp); (try clear hy0))); try go_wp2_with (first | (go_at_call 84; (with_reducible refine (slices_partitionOrdered_byte.calls kj33 (fun k_ => some k_ = (.slice Ao20 x0_27.length co20 : Value).ownBlock) (.slice Ao20 x0_27.length co20) x0_27 x1_1 x2_1 x11_18 t114 t115 t116 w0 _ ?side1 ?side2 A45.out).mono ?_); (case side1 => repeat (first | (with_reducible first | exact HB.out | apply below_alloc | apply pw_below_drewN | apply below_drew1) | exact HB.out)); (case side2 => exact BR_tight rfl HO_0.out); rintro e w51 ⟨rfl,hy0,hb,hkp⟩; have n0_ := Aside0.mk (BR_reok rfl hy0 (fun k_ e_ => HO_0.out.1 k_ e_)); have n1_ := Aside0.mk (Kept.then_ (S := (fun k_ => P0_ k_)) (by repeat (first | (with_reducible first | exact HK.out | apply Kept.alloc | apply Kept.drewN | apply Kept.drew) | exact HK.out)) hkp (fun k_ hs_ => (fun e_ => (HO_0.out.1 k_ e_.symm)) hs_)); have n2_ := Aside0.mk (hb); clear HO_0; clear HK; clear HB; have HO_0 := n0_; have HK := n1_; have HB := n2_; clear n0_ n1_ n2_; (try clear hb); (try clear hkp); (try clear hy0)) | (go_at_call 61; (with_reducible refine (ih kj33 (by have := HK1.out; have := HJ12.out; have := HJ18.out; have := HJ24.out; have := HJ27.out; have := HJ33.out; omega) (fun k_ => some k_ = (.slice Ao20 x0_27.length co20 : Value).ownBlock) (.slice Ao20 x0_27.length co20) t116 (wrap64 (t114 + 1)) x2_1 x3_12 t118 w0 _ ?side1 ?side2 A50.out).mono ?_); (case side1 => repeat (first | (with_reducible first | exact HB.out | apply below_alloc | apply pw_below_drewN | apply below_drew1) | exact HB.out)); (case side2 => exact BR_tight rfl HO_0.out); rintro e w52 ⟨rfl,hy0,hb,hkp⟩; have n0_ := Aside0.mk (BR_reok rfl hy0 (fun k_ e_ => HO_0.out.1 k_ e_)); have n1_ := Aside0.mk (Kept.then_ (S := (fun k_ => P0_ k_)) (by repeat (first | (with_reducible first | exact HK.out | apply Kept.alloc | apply Kept.drewN | apply Kept.drew) | exact HK.out)) hkp (fun k_ hs_ => (fun e_ => (HO_0.out.1 k_ e_.symm)) hs_)); have n2_ := Aside0.mk (hb); clear HO_0; clear HK; clear HB; have HO_0 := n0_; have HK := n1_; have HB := n2_; clear n0_ n1_ n2_; (try clear hb); (try clear hkp); (try clear hy0))))
                 (try simp only [← hl0_18,← hl0_27])
                 go_roundg kj33
                 case measure => have := HK1.out; have := HJ12.out; have := HJ18.out; have := HJ24.out; have := HJ27.out; have := HJ33.out; omega
                 case rel => exact ⟨(t118),(x1_1),(t114),(x3_12),(decide ((wrap64 (x2_1 - t114)) ≥ (wrap64 (Int.tdiv (wrap64 (x2_1 - x1_1)) 8)))),(t115),(by first | rfl | (simp; done) | (simp [*]; done)),(by first | rfl | (simp; done) | (simp [*]; done)),(by first | rfl | (simp; done) | (simp [*]; done)),(by first | rfl | (simp; done) | (simp [*]; done)),(by first | rfl | (simp; done) | (simp [*]; done)),H',⟨by have := HK1.out; have := HJ12.out; have := HJ18.out; have := HJ24.out; have := HJ27.out; have := HJ33.out; omega⟩,⟨by (try simp only [hl0_18]); (try simp only [hl0_27]); (with_reducible repeat (first | apply BR_alloc | apply BR_drewN | apply BR_drew)); exact HO_0.out⟩,⟨by repeat (first | (with_reducible first | exact HK.out | apply Kept.alloc | apply Kept.drewN | apply Kept.drew) | exact HK.out)⟩,⟨by repeat (first | (with_reducible first | exact HB.out | apply below_alloc | apply pw_below_drewN | apply below_drew1) | exact HB.out)⟩⟩

end Go.Proofs.YtcidlaabbkimdaaDoor.P

-- printed by xprint.py
namespace Go.Proofs.YtcidlaabbkimdaaDoor.P
open Go.RowKit Go.Proofs.YtcidlaabbkimdaaDoorW.PrintWords Go.Proofs.YtcidlaabbkimdaaDoorW.PrintLast Go.Proofs.YtcidlaabbkimdaaDoorW.PrintMore
attribute [local go_sem] max2_int min2_int max_two min_two max_three min_three max_four min_four   -- for this text's walks alone
set_option linter.unusedVariables false
set_option linter.unusedSimpArgs false

/-! ### slices_Sort_byte_byte: function 48 -/
def slices_Sort_byte_byte.f (k : Nat) (l0 : List Int) : Option (List Int) := (bits_Len.f (IntKind.u64.wrap ((l0.length : Int)))).bind fun t101 => ((slices_pdqsortOrdered_byte.f k l0 0 (l0.length : Int) t101).bind fun t102 => (some t102))
theorem slices_Sort_byte_byte.mono : ∀ y0 k,LeO (slices_Sort_byte_byte.f k y0) (slices_Sort_byte_byte.f (k + 1) y0) := by
 intro y0 k
 unfold slices_Sort_byte_byte.f
 repeat' first
   | (with_reducible exact slices_pdqsortOrdered_byte.mono _ _ _ _ _)
   | (with_reducible exact LeO.refl _)
   | (with_reducible exact LeO.none _)
   | (with_reducible refine LeO.ite ?_ ?_)
   | (with_reducible refine LeO.bind ?_ (fun _ => ?_))
   | exact slices_pdqsortOrdered_byte.mono _ _ _ _ _
   | exact LeO.none _
   | refine LeO.ite ?_ ?_
   | refine LeO.bind ?_ (fun _ => ?_)
set_option maxHeartbeats 8000000 in
set_option maxRecDepth 100000 in
theorem slices_Sort_byte_byte.calls (k : Nat) (P0_ : Nat → Prop) (u9000_ : Value) (l0 : List Int) (r : List Int) (w0 w : World) (hB : Below w0.heap.size w0 w) (ho0 : BR w w0.heap.size P0_ u9000_ l0) (h : slices_Sort_byte_byte.f k l0 = some r) :
  Calls Tryd.prog 48 #[u9000_] w fun e w' => e = .returned (.tuple #[]) ∧ BR w' w0.heap.size (fun k_ => (P0_ k_ ∨ w.heap.size ≤ k_)) u9000_ r ∧ Below w0.heap.size w0 w' ∧ Kept w w' (fun k_ => P0_ k_) := by
 have HO0 := Aside0.mk (show BR w w0.heap.size (fun k_ => (P0_ k_ ∨ w.heap.size ≤ k_)) u9000_ l0 from BR_mono ho0 (fun k_ hk => (.inl hk))); have HK := Aside0.mk (Kept.refl w (fun k_ => P0_ k_)); have HW0 := Aside0.mk hB.size; have HB := Aside0.mk hB; clear hB; have H : ((bits_Len.f (IntKind.u64.wrap ((l0.length : Int)))).bind fun t101 => ((slices_pdqsortOrdered_byte.f k l0 0 (l0.length : Int) t101).bind fun t102 => (some t102))) = some r := h; clear h; replace H := Option.bind_eq_some_iff.mp H; obtain ⟨t101,A20,H⟩ := H; replace H : ((slices_pdqsortOrdered_byte.f k l0 0 (l0.length : Int) t101).bind fun t102 => (some t102)) = some r := H; have A2 := Aside0.mk A20; clear A20; replace H := Option.bind_eq_some_iff.mp H; obtain ⟨t102,A30,H⟩ := H; replace H : (some t102) = some r := H; have A3 := Aside0.mk A30; clear A30; obtain rfl := Option.some.inj H; obtain ⟨Ao4,co4,eo4⟩ := BR_slice HO0.out; subst eo4
 go_enter Tryd.func48,Tryd.ntmps48
 go_wp2_with (first | ((with_reducible refine gate_callee (f := 62) rfl ?_); refine goesL_ (some 9) rfl rfl Tryd.func62 (by kernel_rfl) rfl #[.int .u64 (IntKind.u64.wrap ((l0.length : Int)))] rfl (by (try simp only [List.map_toArray,List.map_cons,List.map_nil]); first | done | rfl | (simp only [List.length_drop,List.length_take]; rfl)) ?_; (with_reducible refine (bits_Len.calls (IntKind.u64.wrap ((l0.length : Int))) t101 _ A2.out).mono ?_); rintro e w' ⟨rfl,⟨nd,rfl⟩⟩; refine ⟨_,rfl,?_⟩) | ((with_reducible refine gate_callee (f := 61) rfl ?_); refine goesL_ (some 10) rfl rfl Tryd.func61 (by kernel_rfl) rfl #[.slice Ao4 l0.length co4,.int .i64 0,.int .i64 (l0.length : Int),.int .i64 t101] rfl (by (try simp only [List.map_toArray,List.map_cons,List.map_nil]); first | done | rfl | (simp only [List.length_drop,List.length_take]; rfl)) ?_; (with_reducible refine (slices_pdqsortOrdered_byte.calls k (fun k_ => some k_ = (.slice Ao4 l0.length co4 : Value).ownBlock) (.slice Ao4 l0.length co4) l0 0 (l0.length : Int) t101 t102 w0 _ ?side1 ?side2 A3.out).mono ?_); (case side1 => repeat (first | (with_reducible first | exact HB.out | apply below_alloc | apply pw_below_drewN | apply below_drew1) | exact HB.out)); (case side2 => exact BR_tight rfl HO0.out); rintro e w5 ⟨rfl,hy0,hb,hkp⟩; refine ⟨_,rfl,?_⟩; have n0_ := Aside0.mk (BR_reok rfl hy0 (fun k_ e_ => HO0.out.1 k_ e_)); have n1_ := Aside0.mk (Kept.then_ (S := (fun k_ => P0_ k_)) (by repeat (first | (with_reducible first | exact HK.out | apply Kept.alloc | apply Kept.drewN | apply Kept.drew) | exact HK.out)) hkp (fun k_ hs_ => (fun e_ => (HO0.out.1 k_ e_.symm)) hs_)); have n2_ := Aside0.mk (hb); clear HO0; clear HK; clear HB; have HO0 := n0_; have HK := n1_; have HB := n2_; clear n0_ n1_ n2_; (try clear hb); (try clear hkp); (try clear hy0)))
 first | go_end0 | ((try simp only [Exit.inBlock,Exit.then]); refine bodyPost_ret (results_none rfl _ _ _) rfl ?_)
 exact ⟨by first | rfl | (simp [errW_none,errW_some] <;> rfl) | (simp [*,errW_none,errW_some] <;> rfl),by (with_reducible repeat (first | apply BR_alloc | apply BR_drewN | apply BR_drew)); exact HO0.out,by repeat (first | (with_reducible first | exact HB.out | apply below_alloc | apply pw_below_drewN | apply below_drew1) | exact HB.out),by repeat (first | (with_reducible first | exact HK.out | apply Kept.alloc | apply Kept.drewN | apply Kept.drew) | exact HK.out)⟩

end Go.Proofs.YtcidlaabbkimdaaDoor.P

-- printed by xprint.py
namespace Go.Proofs.YtcidlaabbkimdaaDoor.P
open Go.RowKit Go.Proofs.YtcidlaabbkimdaaDoorW.PrintWords Go.Proofs.YtcidlaabbkimdaaDoorW.PrintLast Go.Proofs.YtcidlaabbkimdaaDoorW.PrintMore
attribute [local go_sem] max2_int min2_int max_two min_two max_three min_three max_four min_four   -- for this text's walks alone
set_option linter.unusedVariables false
set_option linter.unusedSimpArgs false

/-! ### impl_lettersOf: function 30 -/
/-! lettersOf: the bytes of a text,sorted,each once (texts of any length that the sort tells). -/
end Go.Proofs.YtcidlaabbkimdaaDoor.P
namespace Go.Proofs
open Go.Shelf
def YtcidlaabbkimdaaDoorlaysCompactB_ren : Go.Shelf.Ren := ⟨fun | 43 => 49 | n => n, fun | 22 => 48 | 23 => 5 | 3 => 3 | 4 => 4 | 0 => 0 | n => n, fun | n => n⟩
theorem YtcidlaabbkimdaaDoorlaysCompactB : Go.Proofs.SlLaysE.n43 Tryd.prog YtcidlaabbkimdaaDoorlaysCompactB_ren := {
  mixed := by kernel_rfl
  f43 := ⟨Tryd.f49.name, by decide, Tryd.func49.trans (congrArg some (by kernel_rfl))⟩
  t0 := Tryd.underlying0
  a0 := Tryd.isAgg0
  z0 := Tryd.sizeOf0
  v0 := Tryd.zeroValue0
  t3 := Tryd.underlying3
  a3 := Tryd.isAgg3
  z3 := Tryd.sizeOf3
  v3 := Tryd.zeroValue3
  t4 := Tryd.underlying4
  a4 := Tryd.isAgg4
  z4 := Tryd.sizeOf4
  v4 := Tryd.zeroValue4
  t22 := Tryd.underlying48
  a22 := Tryd.isAgg48
  z22 := Tryd.sizeOf48
  v22 := Tryd.zeroValue48
  a23 := Tryd.isAgg5
  z23 := Tryd.sizeOf5 }
end Go.Proofs
namespace Go.Proofs.YtcidlaabbkimdaaDoor.P
open Go.RowKit Go.Proofs.YtcidlaabbkimdaaDoorW.PrintWords Go.Proofs.YtcidlaabbkimdaaDoorW.PrintLast Go.Proofs.YtcidlaabbkimdaaDoorW.PrintMore
/-- The letters of a text: its bytes in order,each once. -/
def impl_lettersOf.f (k : Nat) (a0 : ByteArray) : Option ByteArray := (slices_Sort_byte_byte.f k (bytesOf a0)).bind fun t => if t.length = a0.size ∧ a0.size ≤ 1048576 ∧ (t.all fun x => decide (0 ≤ x) && decide (x < 256)) = true then some ⟨((Lib.compactUpTo t.toArray t.length).map fun x => UInt8.ofNat x.toNat).toArray⟩ else none
theorem impl_lettersOf.mono : ∀ y0 k,LeO (impl_lettersOf.f k y0) (impl_lettersOf.f (k + 1) y0) := by
 intro y0 k
 unfold impl_lettersOf.f
 exact LeO.bind (slices_Sort_byte_byte.mono _ _) (fun _ => LeO.refl _)
theorem bytesOf_getD (a : ByteArray) (i : Nat) (h : i < a.size) : (bytesOf a).getD i 0 = ((a.data.toList.getD i 0).toNat : Int) := by
 unfold bytesOf
 rw [List.getD_eq_getElem?_getD,List.getElem?_map,List.getD_eq_getElem?_getD,List.getElem?_eq_getElem (by simpa using h)]; simp
theorem compact_len (t : List Int) : (Lib.compactUpTo t.toArray t.length).length ≤ t.length := by
 unfold Lib.compactUpTo
 rw [List.length_map]; have := List.length_filter_le (Lib.keeps t.toArray) (List.range t.length)
 rwa [List.length_range] at this
theorem compact_mem (t : List Int) (x : Int) (hx : x ∈ Lib.compactUpTo t.toArray t.length) : x ∈ t := by
 unfold Lib.compactUpTo at hx
 simp only [List.mem_map,List.mem_filter,List.mem_range] at hx; obtain ⟨j,⟨hj,_⟩,rfl⟩ := hx; rw [getElem!_pos t.toArray j (by simpa using hj)]; simp
set_option maxHeartbeats 8000000 in
set_option maxRecDepth 100000 in
theorem impl_lettersOf.calls (k : Nat) (a0 : ByteArray) (r : ByteArray) (w : World) (h : impl_lettersOf.f k a0 = some r) :
  Calls Tryd.prog 30 #[.string a0] w fun e w' => e = .returned (.string r) ∧ Below w.heap.size w w' := by
 unfold impl_lettersOf.f at h
 obtain ⟨t,ht,h⟩ := Option.bind_eq_some_iff.mp h
 split at h
 ·
  rename_i hc
  obtain ⟨hlen,hbig,hall⟩ := hc; obtain rfl := Option.some.inj h; rw [List.all_eq_true] at hall; have hconv : (convert 9 48 (.string a0)).run Tryd.prog w = .ok (.slice (some ⟨w.heap.size,0,none⟩) a0.size (grownCap w a0.size 0 5)) (Lib.bytesWorld w 5 a0) := Lib.run_convert_string_bytes w _ _ _ a0 Tryd.underlying9 Tryd.underlying48 Tryd.underlying5; have hlb : (bytesOf a0).length = a0.size := by unfold bytesOf; rw [List.length_map]; rfl
  have hcap := grownCap_ge w a0.size 0 5
  have hR : BR (Lib.bytesWorld w 5 a0) w.heap.size (fun _ => True) (.slice (some ⟨w.heap.size,0,none⟩) a0.size (grownCap w a0.size 0 5)) (bytesOf a0) := by
   refine ⟨fun _ _ => trivial,w.heap.size,_,_,_,_,by rw [hlb],Nat.le_refl _,by rw [Lib.bytesWorld_size]; omega,Lib.bytesWorld_at_new w 5 a0,by rw [hlb]; exact hcap,?_,by rw [hlb]; omega,fun i hi => ?_⟩
   · rw [hlb]; unfold Lib.bytesCells; rw [Array.size_append,Array.size_map]; exact Nat.le_add_right _ _
   ·
    rw [hlb] at hi
    unfold Lib.bytesCells
    rw [Array.getElem?_append_left (by rw [Array.size_map]; exact hi),Array.getElem?_map,bytesOf_getD a0 i hi]; have hd : i < a0.data.size := hi; rw [Array.getElem?_eq_getElem hd,List.getD_eq_getElem?_getD,List.getElem?_eq_getElem (by simpa using hd)]; simp
  have hB := bytes_below (Below.refl w.heap.size w) (Nat.le_refl _) 5 a0; generalize grownCap w a0.size 0 5 = cap at hconv hcap hR; generalize hwb : Lib.bytesWorld w 5 a0 = wb at hconv hR hB; have hsort := slices_Sort_byte_byte.calls k (fun _ => True) _ (bytesOf a0) t w wb hB hR ht
  have hcomp : ∀ w1 : World,BR w1 w.heap.size (fun _ => True) (.slice (some ⟨w.heap.size,0,none⟩) a0.size cap) t → Below w.heap.size w w1 → Calls Tryd.prog 49 #[.slice (some ⟨w.heap.size,0,none⟩) a0.size cap] w1 fun e w2 => e = .returned (.slice (some ⟨w.heap.size,0,none⟩) (Lib.compactUpTo t.toArray t.length).length cap) ∧ (convert 48 9 (.slice (some ⟨w.heap.size,0,none⟩) (Lib.compactUpTo t.toArray t.length).length cap)).run Tryd.prog w2 = .ok (.string ⟨((Lib.compactUpTo t.toArray t.length).map fun x => UInt8.ofNat x.toNat).toArray⟩) w2 ∧ Below w.heap.size w w2 := by
   intro w1 h1 hb1
   have hH : Sort.Holds (Value.int .u8) w1 w.heap.size 0 t.toArray := by
    intro j hj; have hj' : j < t.length := by simpa using hj
    have hc := BR_celln 0 h1 (j : Int) (by omega) (by omega); rw [Int.toNat_natCast] at hc; rw [Nat.zero_add,getElem!_pos t.toArray j hj]; have hr : rd t (j : Int) = t.toArray[j] := by unfold rd; rw [Int.toNat_natCast,List.getD_eq_getElem?_getD,List.getElem?_eq_getElem hj']; simp
    rw [hr] at hc; exact hc
   have hcc := AnyE.slices_Compact YtcidlaabbkimdaaDoorlaysCompactB (Value.int .u8) (fun _ => rfl) (EqlAt.intD Tryd.prog 5 .u8) (NeqAt.intD Tryd.prog 5 .u8) 0 (fun _ => rfl) w.heap.size 0 cap t.toArray w1 hH (by simp; omega) (by simp; omega); rw [show t.toArray.size = a0.size by simpa using hlen] at hcc; rw [← hlen] at hcc ⊢
   change Calls Tryd.prog 49 _ _ _ at hcc
   refine hcc.mono ?_; rintro e w2 ⟨rfl,q,rfl⟩; refine ⟨rfl,?_,Lib.below_putRow hb1 (Nat.le_refl _)⟩; have hsz : (Lib.compactUpTo t.toArray t.length).length ≤ t.length := compact_len t
   have hmem : ∀ x ∈ Lib.compactUpTo t.toArray t.length,0 ≤ x ∧ x < 256 := by
    intro x hx; have := hall x (compact_mem t x hx)
    simpa using this
   have hback := run_convert_bytes_back (P := Tryd.prog) (Sort.putRow (Value.int .u8) (Sort.ahead w1 q) w.heap.size 0 (Lib.compactUpTo t.toArray t.length ++ List.replicate (t.length - (Lib.compactUpTo t.toArray t.length).length) 0).toArray) 48 9 5 ⟨w.heap.size,0,none⟩ cap ((Lib.compactUpTo t.toArray t.length).map fun x => UInt8.ofNat x.toNat) Tryd.underlying48 Tryd.underlying5 Tryd.underlying9 (fun j hj => by
    rw [List.length_map] at hj; have hp := Sort.cell?_putRow (Value.int .u8) (Sort.ahead w1 q) w.heap.size 0 t.toArray (Lib.compactUpTo t.toArray t.length ++ List.replicate (t.length - (Lib.compactUpTo t.toArray t.length).length) 0).toArray (Sort.holds_ahead _ _ q _ _ _ hH) (by simp; omega) j (by simp; omega); rw [Nat.zero_add] at hp; rw [show ((⟨w.heap.size,0,none⟩ : Addr).add j) = ⟨w.heap.size,j,none⟩ by simp [Addr.add]; intro e; exact e.symm,hp]; rw [getElem!_pos _ j (by simp; omega)]; have hx := hmem _ (List.getElem_mem hj); simp only [List.getElem_toArray,List.getElem_map]; rw [List.getElem_append_left hj]
    congr 2
    have : ((UInt8.ofNat ((Lib.compactUpTo t.toArray t.length)[j]).toNat).toNat : Int) = (Lib.compactUpTo t.toArray t.length)[j] := by
     generalize (Lib.compactUpTo t.toArray t.length)[j] = z at hx; simp; omega
    exact this.symm)
   rw [List.length_map] at hback; exact hback
  obtain ⟨cn,hcn⟩ : ∃ cn,cn = (Lib.compactUpTo t.toArray t.length).length := ⟨_,rfl⟩; rw [← hcn] at hcomp; clear hcn; have HC := Aside0.mk hcomp; clear hlen; clear hcomp hR hB hall ht hcap hlb
  go_enter Tryd.func30,Tryd.ntmps30
  go_wp2_with (first | (go_at_call 48; go_loud (refine hsort.mono ?_); rintro e w1 ⟨rfl,hR1,hB1,_⟩; have hcall := HC.out w1 (BR_reok rfl hR1 (fun _ _ => trivial)) hB1; clear hR1 hB1) | (go_at_call 49; go_loud (refine hcall.mono ?_); rintro e w2 ⟨rfl,hback,hB2⟩; have HB2 := Aside0.mk hB2; clear hB2))
  go_ret
  exact ⟨rfl,HB2.out⟩
 · cases h

end Go.Proofs.YtcidlaabbkimdaaDoor.P

-- printed by xprint.py
namespace Go.Proofs.YtcidlaabbkimdaaDoor.P
open Go.RowKit Go.Proofs.YtcidlaabbkimdaaDoorW.PrintWords Go.Proofs.YtcidlaabbkimdaaDoorW.PrintLast Go.Proofs.YtcidlaabbkimdaaDoorW.PrintMore
attribute [local go_sem] max2_int min2_int max_two min_two max_three min_three max_four min_four   -- for this text's walks alone
set_option linter.unusedVariables false
set_option linter.unusedSimpArgs false

/-! ### strings_Count: function 51 -/
def strings_Count.f (a0 : ByteArray) (a1 : ByteArray) : Option Int := if a1.size = 1 then some (Lib.countByte a0.data.toList (a1.data.toList.getD 0 0)) else none
end Go.Proofs.YtcidlaabbkimdaaDoor.P
namespace Go.Proofs
open Go.Shelf
def YtcidlaabbkimdaaDoorlaysCount_ren : Go.Shelf.Ren := ⟨fun | 138 => 51 | 195 => 63 | 218 => 64 | 143 => 65 | 219 => 87 | 217 => 66 | 225 => 108 | 224 => 109 | 267 => 110 | 266 => 88 | 314 => 119 | n => n, fun | 9 => 9 | 3 => 3 | 4 => 4 | 5 => 5 | 0 => 0 | 46 => 62 | 146 => 105 | 51 => 81 | n => n, fun | 1 => 0 | n => n⟩
theorem YtcidlaabbkimdaaDoorlaysCount : Go.Proofs.Lays.n138 Tryd.prog YtcidlaabbkimdaaDoorlaysCount_ren := {
  mixed := by kernel_rfl
  f138 := Tryd.func51.trans (congrArg some (by kernel_rfl))
  f143 := Tryd.func65.trans (congrArg some (by kernel_rfl))
  f195 := Tryd.func63.trans (congrArg some (by kernel_rfl))
  f217 := Tryd.func66.trans (congrArg some (by kernel_rfl))
  f218 := Tryd.func64.trans (congrArg some (by kernel_rfl))
  f219 := Tryd.func87.trans (congrArg some (by kernel_rfl))
  f224 := Tryd.func109.trans (congrArg some (by kernel_rfl))
  f225 := Tryd.func108.trans (congrArg some (by kernel_rfl))
  f266 := Tryd.func88.trans (congrArg some (by kernel_rfl))
  f267 := Tryd.func110.trans (congrArg some (by kernel_rfl))
  f314 := Tryd.func119.trans (congrArg some (by kernel_rfl))
  t0 := Tryd.underlying0
  a0 := Tryd.isAgg0
  z0 := Tryd.sizeOf0
  v0 := Tryd.zeroValue0
  t3 := Tryd.underlying3
  a3 := Tryd.isAgg3
  z3 := Tryd.sizeOf3
  v3 := Tryd.zeroValue3
  t4 := Tryd.underlying4
  a4 := Tryd.isAgg4
  z4 := Tryd.sizeOf4
  v4 := Tryd.zeroValue4
  t5 := Tryd.underlying5
  a5 := Tryd.isAgg5
  z5 := Tryd.sizeOf5
  v5 := Tryd.zeroValue5
  t9 := Tryd.underlying9
  a9 := Tryd.isAgg9
  z9 := Tryd.sizeOf9
  v9 := Tryd.zeroValue9
  t46 := Tryd.underlying62
  a46 := Tryd.isAgg62
  z46 := Tryd.sizeOf62
  v46 := Tryd.zeroValue62
  t51 := Tryd.underlying81
  a51 := Tryd.isAgg81
  z51 := Tryd.sizeOf81
  v51 := Tryd.zeroValue81
  t146 := Tryd.underlying105
  a146 := Tryd.isAgg105
  z146 := Tryd.sizeOf105
  v146 := Tryd.zeroValue105
  g1 := by kernel_rfl }
end Go.Proofs
namespace Go.Proofs.YtcidlaabbkimdaaDoor.P
open Go.RowKit Go.Proofs.YtcidlaabbkimdaaDoorW.PrintWords Go.Proofs.YtcidlaabbkimdaaDoorW.PrintLast Go.Proofs.YtcidlaabbkimdaaDoorW.PrintMore
theorem strings_Count.calls (a0 : ByteArray) (a1 : ByteArray) (r : Int) (w : World) (h : strings_Count.f a0 a1 = some r) :
  Calls Tryd.prog 51 #[.string a0,.string a1] w fun e w' => e = .returned (.int .i64 r) ∧ Drawn0 w w' := by
 unfold strings_Count.f at h
 split at h
 ·
  rename_i c
  obtain rfl := Option.some.inj h
  obtain ⟨x,hx⟩ : ∃ x,a1 = ⟨#[x]⟩ := by
   obtain ⟨⟨l⟩⟩ := a1
   match l,c with
   | [x],_ => exact ⟨x,rfl⟩
  subst hx; have hcon := Any.strings_Count_one YtcidlaabbkimdaaDoorlaysCount a0 x w
  change Calls Tryd.prog 51 _ _ _ at hcon
  exact hcon.mono fun e w' he => ⟨by simpa using he.1,by rw [he.2]; exact Drawn0.refl _⟩
 · cases h

end Go.Proofs.YtcidlaabbkimdaaDoor.P

-- printed by xprint.py
namespace Go.Proofs.YtcidlaabbkimdaaDoor.P
open Go.RowKit Go.Proofs.YtcidlaabbkimdaaDoorW.PrintWords Go.Proofs.YtcidlaabbkimdaaDoorW.PrintLast Go.Proofs.YtcidlaabbkimdaaDoorW.PrintMore
attribute [local go_sem] max2_int min2_int max_two min_two max_three min_three max_four min_four   -- for this text's walks alone
set_option linter.unusedVariables false
set_option linter.unusedSimpArgs false

/-! ### impl_brokenFor: function 35 -/
/-! brokenFor: a range over the bytes of a conversion: its row bears a mark. -/
section
variable {w w1 W : World} {base : Nat} {ok : Nat → Prop} {u v v1 : Value} {xs : List Int}
theorem BR_lt (h : BR w base ok v xs) : ∀ k,v.ownBlock = some k → k < w.heap.size := by
 obtain ⟨_,g,cap,cells,lo,hi,rfl,hb,hl,_⟩ := h; intro k hk; have : g = k := by simpa [Value.ownBlock] using hk
 omega
theorem BR_base (h : BR w base ok v xs) : ∀ k,v.ownBlock = some k → base ≤ k := by
 obtain ⟨_,g,cap,cells,lo,hi,rfl,hb,hl,_⟩ := h; intro k hk; have : g = k := by simpa [Value.ownBlock] using hk
 omega
theorem BR_lower {base' : Nat} (h : BR w base ok v xs) (hb : base' ≤ base) : BR w base' ok v xs := by
 obtain ⟨h0,g,cap,cells,lo,hi,e,hb',r⟩ := h; exact ⟨h0,g,cap,cells,lo,hi,e,by omega,r⟩
theorem BR_elder' (hu : BR W base ok u xs) (hbase : ∀ k,v.ownBlock = some k → W.heap.size ≤ k) (hb : Below W.heap.size W w1) : BR w1 base (fun k => ok k ∧ some k ≠ v.ownBlock) u xs :=
 BR_below (BR_reok rfl hu (fun k hk => ⟨hu.1 k hk,fun he => by have := hbase k he.symm; have := BR_lt hu k hk; omega⟩)) hb
theorem BR_new' (h : BR w1 W.heap.size ok v xs) (hlt : ∀ k,u.ownBlock = some k → k < W.heap.size) : BR w1 W.heap.size (fun k => ok k ∧ some k ≠ u.ownBlock) v xs :=
 BR_reok rfl h (fun k hk => ⟨h.1 k hk,fun he => by have := hlt k he.symm; have := BR_base h k hk; omega⟩)
theorem BR_after (h : BR W base (fun k => ok k ∧ some k ≠ v.ownBlock) u xs) (hg : W.grownBy w1 v.ownBlock) (hat : v1.ownBlock = v.ownBlock ∨ ∃ b,v1.ownBlock = some b ∧ W.heap.size ≤ b) : BR w1 base (fun k => ok k ∧ some k ≠ v1.ownBlock) u xs := by
 have hlt := BR_lt h; obtain ⟨h0,g,cap,cells,lo,hi,e,hb,hl,hh,r⟩ := h; have hown : u.ownBlock = some g := by rw [e]; rfl
 have hne := (h0 g hown); have hh' : w1.heap[g]? = W.heap[g]? := hg.block g hl hne.2
 have hl' : g < w1.heap.size := by
  rw [hh] at hh'; exact (Array.getElem?_eq_some_iff.1 hh').1
 refine ⟨fun k hk => ⟨(h0 k hk).1,?_⟩,g,cap,cells,lo,hi,e,hb,hl',hh'.trans hh,r⟩
 rcases hat with hat | ⟨b,hbb,hle⟩
 · rw [hat]; exact (h0 k hk).2
 ·
  rw [hbb]; intro he; injection he with he
  have := hlt k hk
  omega
end
section
variable {P : Program} {ops : Array Oper} {rest : List Oper} {o : Oper} {a : Act} {Q : Exit → Act → World → Prop} {W w0 : World}
theorem bytesOf_getD' (a : ByteArray) (i : Nat) (h : i < a.size) : (bytesOf a).getD i 0 = ((a.data.toList.getD i 0).toNat : Int) := by
 unfold bytesOf
 rw [List.getD_eq_getElem?_getD,List.getElem?_map,List.getD_eq_getElem?_getD,List.getElem?_eq_getElem (by simpa using h)]; simp
theorem BR_conv (s : ByteArray) (base : Nat) (hgd : o.guard = none) {N : Tmp} (_hd : o.dst = some N)
  (hrun : (execOp a.eval o).run P W = .ok (.value (.slice (some ⟨W.heap.size,0,none⟩) s.size (grownCap W s.size 0 5))) (Lib.bytesWorld W 5 s))
  (hs : s.size ≤ 9223372036854775807) (HB : Below base w0 W) (hbase : base ≤ W.heap.size)
  (h : ∀ v1 w1,BR w1 base (fun _ => True) v1 (bytesOf s) → Below base w0 w1 → wpList P ops Q rest (a.put o.dst v1) w1) : wpList P ops Q (o :: rest) a W := by
 have hlb : (bytesOf s).length = s.size := by unfold bytesOf; rw [List.length_map]; rfl
 have hcap := grownCap_ge W s.size 0 5; refine Kd.event_run hgd hrun (h _ _ ?_ (bytes_below HB hbase 5 s)); refine ⟨fun _ _ => trivial,W.heap.size,_,_,_,_,by rw [hlb],hbase,by rw [Lib.bytesWorld_size]; omega,Lib.bytesWorld_at_new W 5 s,by rw [hlb]; exact hcap,?_,by rw [hlb]; omega,fun i hi => ?_⟩
 · rw [hlb]; unfold Lib.bytesCells; rw [Array.size_append,Array.size_map]; exact Nat.le_add_right _ _
 ·
  rw [hlb] at hi
  unfold Lib.bytesCells
  rw [Array.getElem?_append_left (by rw [Array.size_map]; exact hi),Array.getElem?_map,bytesOf_getD' s i hi]; have hd : i < s.data.size := hi; rw [Array.getElem?_eq_getElem hd,List.getD_eq_getElem?_getD,List.getElem?_eq_getElem (by simpa using hd)]; simp
theorem BR_execconv {src dst e : TypeId} {x : Operand} (s : ByteArray) (W : World) (a : Act) (o : Oper) (ho : o.op = .convert src dst x) (hx : a.eval x = .string s) (hs : P.underlying src = some .string) (hd : P.underlying dst = some (.slice e)) (he : P.underlying e = some (.int .u8)) :
  (execOp a.eval o).run P W = .ok (.value (.slice (some ⟨W.heap.size,0,none⟩) s.size (grownCap W s.size 0 e))) (Lib.bytesWorld W e s) := by
 have := Lib.run_convert_string_bytes W src dst e s hs hd he; simp only [execOp,ho,hx]; simp [Sem.run_bind,this,Result.andThen]
end
def impl_brokenFor.l0 : Nat → ByteArray → ByteArray → List Int → List Int → List Int → Int → Int → Option (ByteArray × ByteArray)
 | 0,_,_,_,_,_,_,_ => none
 | k + 1,x0,x1,x6,x7,x15,x16,x17 => if x17 < x16 then (if 0 ≤ x17 then (if x17 < (x15.length : Int) then ((some (([rd x15 x17] : List Int) : List Int)).bind fun y112 => ((strings_Count.f x1 (strOfNums y112)).bind fun t115 => (if t115 = 0 then (if x6.length < 140737488355328 then (impl_brokenFor.l0 k x0 x1 (x6 ++ [rd x15 x17]) x7 x15 x16 (wrap64 (x17 + 1))) else (none)) else ((strings_Count.f x0 (strOfNums y112)).bind fun t119 => (if t115 = (wrap64 (2 * t119)) then (if x7.length < 140737488355328 then (impl_brokenFor.l0 k x0 x1 x6 (x7 ++ [rd x15 x17]) x15 x16 (wrap64 (x17 + 1))) else (none)) else (impl_brokenFor.l0 k x0 x1 x6 x7 x15 x16 (wrap64 (x17 + 1)))))))) else (none)) else (none)) else (some (strOfNums x6,strOfNums x7))
def impl_brokenFor.f (k : Nat) (a0 : ByteArray) (a1 : ByteArray) : Option (ByteArray × ByteArray) := (impl_lettersOf.f k a0).bind fun t107 => (if t107.size ≤ 1048576 then ((some (bytesOf t107)).bind fun y108 => (impl_brokenFor.l0 k a0 a1 (([] : List Int)) (([] : List Int)) y108 (y108.length : Int) 0)) else none)
theorem impl_brokenFor.mono_l : ∀ k,(∀ y0 y1 y2 y3 y4 y5 y6,LeO (impl_brokenFor.l0 k y0 y1 y2 y3 y4 y5 y6) (impl_brokenFor.l0 (k + 1) y0 y1 y2 y3 y4 y5 y6))
 | 0 => by intros; intro r h; simp [impl_brokenFor.l0] at h
 | k + 1 => by
  have ih0 := impl_brokenFor.mono_l k
  ·
   intro y0 y1 y2 y3 y4 y5 y6
   unfold impl_brokenFor.l0
   repeat' first
   | (with_reducible exact ih0 _ _ _ _ _ _ _)
   | (with_reducible exact impl_lettersOf.mono _ _)
   | (with_reducible exact LeO.refl _)
   | (with_reducible exact LeO.none _)
   | (with_reducible refine LeO.ite ?_ ?_)
   | (with_reducible refine LeO.bind ?_ (fun _ => ?_))
   | exact ih0 _ _ _ _ _ _ _
   | exact impl_lettersOf.mono _ _
   | exact LeO.none _
   | refine LeO.ite ?_ ?_
   | refine LeO.bind ?_ (fun _ => ?_)
theorem impl_brokenFor.mono : ∀ y0 y1 k,LeO (impl_brokenFor.f k y0 y1) (impl_brokenFor.f (k + 1) y0 y1) := by
 intro y0 y1 k; have ih0 := impl_brokenFor.mono_l k
 unfold impl_brokenFor.f
 repeat' first
   | (with_reducible exact ih0 _ _ _ _ _ _ _)
   | (with_reducible exact impl_lettersOf.mono _ _)
   | (with_reducible exact LeO.refl _)
   | (with_reducible exact LeO.none _)
   | (with_reducible refine LeO.ite ?_ ?_)
   | (with_reducible refine LeO.bind ?_ (fun _ => ?_))
   | exact ih0 _ _ _ _ _ _ _
   | exact impl_lettersOf.mono _ _
   | exact LeO.none _
   | refine LeO.ite ?_ ?_
   | refine LeO.bind ?_ (fun _ => ?_)
set_option maxHeartbeats 8000000 in
set_option maxRecDepth 100000 in
theorem impl_brokenFor.calls (k : Nat) (a0 : ByteArray) (a1 : ByteArray) (r1 : ByteArray) (r2 : ByteArray) (w : World) (h : impl_brokenFor.f k a0 a1 = some (r1,r2)) :
  Calls Tryd.prog 35 #[.string a0,.string a1] w fun e w' => e = .returned (.tuple #[.string r1,.string r2]) ∧ Below w.heap.size w w' := by
 have HB := Aside0.mk (Below.refl w.heap.size w); have H : ((impl_lettersOf.f k a0).bind fun t107 => (if t107.size ≤ 1048576 then ((some (bytesOf t107)).bind fun y108 => (impl_brokenFor.l0 k a0 a1 (([] : List Int)) (([] : List Int)) y108 (y108.length : Int) 0)) else none)) = some (r1,r2) := h; clear h; obtain ⟨y101,hy101⟩ : ∃ y_ : List Int,y_ = (([] : List Int)) := ⟨_,rfl⟩; replace H : ((impl_lettersOf.f k a0).bind fun t107 => (if t107.size ≤ 1048576 then ((some (bytesOf t107)).bind fun y108 => (impl_brokenFor.l0 k a0 a1 y101 (([] : List Int)) y108 (y108.length : Int) 0)) else none)) = some (r1,r2) := by first | (rw [hy101]; with_reducible exact H) | (have H2_ := (Option.bind_some _ _).symm.trans H; rw [hy101]; with_reducible exact H2_) | (have H2_ := (Option.bind_some _ _).symm.trans H; with_reducible exact H2_) | with_reducible exact H | (rw [hy101]; exact H) | exact H
 have Ny101 := Aside0.mk hy101; clear hy101; obtain ⟨y104,hy104⟩ : ∃ y_ : List Int,y_ = (([] : List Int)) := ⟨_,rfl⟩; replace H : ((impl_lettersOf.f k a0).bind fun t107 => (if t107.size ≤ 1048576 then ((some (bytesOf t107)).bind fun y108 => (impl_brokenFor.l0 k a0 a1 y101 y104 y108 (y108.length : Int) 0)) else none)) = some (r1,r2) := by first | (rw [hy104]; with_reducible exact H) | (have H2_ := (Option.bind_some _ _).symm.trans H; rw [hy104]; with_reducible exact H2_) | (have H2_ := (Option.bind_some _ _).symm.trans H; with_reducible exact H2_) | with_reducible exact H | (rw [hy104]; exact H) | exact H
 have Ny104 := Aside0.mk hy104; clear hy104; replace H := Option.bind_eq_some_iff.mp H; obtain ⟨t107,A30,H⟩ := H; replace H : (if t107.size ≤ 1048576 then ((some (bytesOf t107)).bind fun y108 => (impl_brokenFor.l0 k a0 a1 y101 y104 y108 (y108.length : Int) 0)) else none) = some (r1,r2) := H
 have c107 : t107.size ≤ 1048576 := by
  by_cases c : t107.size ≤ 1048576
  · exact c
  · rw [if_neg c] at H; cases H
 rw [if_pos c107] at H; have C107 := Aside0.mk c107; clear c107; have A3 := Aside0.mk A30; clear A30; obtain ⟨y108,hy108⟩ : ∃ y_ : List Int,y_ = bytesOf t107 := ⟨_,rfl⟩; replace H : (impl_brokenFor.l0 k a0 a1 y101 y104 y108 (y108.length : Int) 0) = some (r1,r2) := by first | (rw [hy108]; with_reducible exact H) | (have H2_ := (Option.bind_some _ _).symm.trans H; rw [hy108]; with_reducible exact H2_) | (have H2_ := (Option.bind_some _ _).symm.trans H; with_reducible exact H2_) | with_reducible exact H | (rw [hy108]; exact H) | exact H
 have Ny108 := Aside0.mk hy108; clear hy108; have H' := Aside0.mk H; clear H
 go_enter Tryd.func35,Tryd.ntmps35
 go_wp2_with (first | ((with_reducible refine gate_dst (N := 11) rfl ?_); refine Kd.R_lit (Kd.int .u8) _ 5 ?hg (N := 11) ?hd (xs := ([] : List Int)) (inner := []) (ok := fun _ => True) (okp := fun _ => True) ?hr ?hp (fun _ hk => hk) trivial (Below.refl _ _) (Nat.le_refl _) (by simp) ?_; (case hd => rfl); (case hg => rfl); (case hr => first | (go_simp; done) | (go_simp; rfl)); (case hp => exact (Reps.none _ _)); intro v102 w4 ho5 hb hg_ hnew_; clear hg_ hnew_; (first | rw [← Ny101.out] at ho5 | (simp only [Int.reduceToNat] at ho5; rw [← Ny101.out] at ho5)); have n0_ := Aside0.mk (Kd.R_lower ho5 (below_size (by repeat (first | (with_reducible first | exact HB.out | apply below_alloc | apply pw_below_drewN | apply below_drew1) | exact HB.out)))); have n1_ := Aside0.mk (below_step (by repeat (first | (with_reducible first | exact HB.out | apply below_alloc | apply pw_below_drewN | apply below_drew1) | exact HB.out)) hb); clear HB; have HO103 := n0_; have HB := n1_; clear n0_ n1_; clear hb ho5) | ((with_reducible refine gate_dst (N := 12) rfl ?_); refine Kd.R_lit (Kd.int .u8) _ 5 ?hg (N := 12) ?hd (xs := ([] : List Int)) (inner := []) (ok := fun _ => True) (okp := fun _ => True) ?hr ?hp (fun _ hk => hk) trivial (Below.refl _ _) (Nat.le_refl _) (by simp) ?_; (case hd => rfl); (case hg => rfl); (case hr => first | (go_simp; done) | (go_simp; rfl)); (case hp => exact (Reps.none _ _)); intro v105 w6 ho7 hb hg_ hnew_; clear hg_ hnew_; (first | rw [← Ny104.out] at ho7 | (simp only [Int.reduceToNat] at ho7; rw [← Ny104.out] at ho7)); have n0_ := Aside0.mk (Kd.R_elder' (by (with_reducible repeat (first | apply Kd.R_alloc | apply Kd.R_drewN | apply Kd.R_drew)); exact HO103.out) (Kd.R_base ho7) hb); have n1_ := Aside0.mk (Kd.R_lower (Kd.R_new' ho7 (Kd.R_lt (by (with_reducible repeat (first | apply Kd.R_alloc | apply Kd.R_drewN | apply Kd.R_drew)); exact HO103.out))) (below_size (by repeat (first | (with_reducible first | exact HB.out | apply below_alloc | apply pw_below_drewN | apply below_drew1) | exact HB.out)))); have n2_ := Aside0.mk (below_step (by repeat (first | (with_reducible first | exact HB.out | apply below_alloc | apply pw_below_drewN | apply below_drew1) | exact HB.out)) hb); clear HO103; clear HB; have HO103 := n0_; have HO106 := n1_; have HB := n2_; clear n0_ n1_ n2_; clear hb ho7) | (go_at_call 30; (with_reducible refine (impl_lettersOf.calls k a0 t107 _ A3.out).mono ?_); rintro e w8 ⟨rfl,hb⟩; have n0_ := Aside0.mk (Kd.R_below (by (with_reducible repeat (first | apply Kd.R_alloc | apply Kd.R_drewN | apply Kd.R_drew)); exact HO103.out) hb); have n1_ := Aside0.mk (Kd.R_below (by (with_reducible repeat (first | apply Kd.R_alloc | apply Kd.R_drewN | apply Kd.R_drew)); exact HO106.out) hb); have n2_ := Aside0.mk (below_step (by repeat (first | (with_reducible first | exact HB.out | apply below_alloc | apply pw_below_drewN | apply below_drew1) | exact HB.out)) hb); clear HO103; clear HO106; clear HB; have HO103 := n0_; have HO106 := n1_; have HB := n2_; clear n0_ n1_ n2_; (try clear hb); (try clear hb2); (try clear hk); (try clear hi)) | ((with_reducible refine gate_dst (N := 15) rfl ?_); refine BR_conv t107 _ ?hg (N := 15) ?hd ?hr (by have := C107.out; omega) (Below.refl _ _) (Nat.le_refl _) ?_; (case hd => rfl); (case hg => rfl); (case hr => exact BR_execconv _ _ _ _ rfl rfl Tryd.underlying9 Tryd.underlying48 Tryd.underlying5); intro v109 w9 ho10 hb; rw [← Ny108.out] at ho10; have n0_ := Aside0.mk (Kd.R_elder' (by (with_reducible repeat (first | apply Kd.R_alloc | apply Kd.R_drewN | apply Kd.R_drew)); exact HO103.out) (BR_base ho10) hb); have n1_ := Aside0.mk (Kd.R_elder' (by (with_reducible repeat (first | apply Kd.R_alloc | apply Kd.R_drewN | apply Kd.R_drew)); exact HO106.out) (BR_base ho10) hb); have n2_ := Aside0.mk (BR_lower (BR_new' (BR_new' ho10 (Kd.R_lt (by (with_reducible repeat (first | apply Kd.R_alloc | apply Kd.R_drewN | apply Kd.R_drew)); exact HO103.out))) (Kd.R_lt (by (with_reducible repeat (first | apply Kd.R_alloc | apply Kd.R_drewN | apply Kd.R_drew)); exact HO106.out))) (below_size (by repeat (first | (with_reducible first | exact HB.out | apply below_alloc | apply pw_below_drewN | apply below_drew1) | exact HB.out)))); have n3_ := Aside0.mk (below_step (by repeat (first | (with_reducible first | exact HB.out | apply below_alloc | apply pw_below_drewN | apply below_drew1) | exact HB.out)) hb); clear HO103; clear HO106; clear HB; have HO103 := n0_; have HO106 := n1_; have HO110 := n2_; have HB := n3_; clear n0_ n1_ n2_ n3_; clear hb ho10; obtain ⟨Ao11,co11,eo11⟩ := BR_slice HO110.out; subst eo11))
 go_loopg [6,7,17] k (fun kq v6 v7 v17 w' => ∃ (x6_1 : List Int) (x7_1 : List Int) (x17_1 : Int),v17 = .int .i64 x17_1 ∧ Aside0 (impl_brokenFor.l0 kq a0 a1 x6_1 x7_1 y108 (y108.length : Int) x17_1 = some (r1,r2)) ∧ Aside0 (kq ≤ k) ∧ Aside0 (Kd.R (Kd.int .u8) 5 w' w.heap.size (fun k_ => some k_ ≠ (v7 : Value).ownBlock ∧ some k_ ≠ ((.slice Ao11 y108.length co11) : Value).ownBlock) v6 x6_1) ∧ Aside0 (Kd.R (Kd.int .u8) 5 w' w.heap.size (fun k_ => some k_ ≠ (v6 : Value).ownBlock ∧ some k_ ≠ ((.slice Ao11 y108.length co11) : Value).ownBlock) v7 x7_1) ∧ Aside0 (BR w' w.heap.size (fun k_ => some k_ ≠ (v6 : Value).ownBlock ∧ some k_ ≠ (v7 : Value).ownBlock) (.slice Ao11 y108.length co11) y108) ∧ Aside0 (Below w.heap.size w w'))
 case atStart => exact ⟨(y101),(y104),(0),(by first | rfl | (simp; done) | (simp [*]; done)),H',⟨Nat.le_refl _⟩,⟨by (with_reducible repeat (first | apply Kd.R_alloc | apply Kd.R_drewN | apply Kd.R_drew)); exact Kd.R_mono HO103.out (fun _ hk => ⟨hk.1.2,hk.2⟩)⟩,⟨by (with_reducible repeat (first | apply Kd.R_alloc | apply Kd.R_drewN | apply Kd.R_drew)); exact Kd.R_mono HO106.out (fun _ hk => ⟨hk.1.2,hk.2⟩)⟩,⟨by (with_reducible repeat (first | apply BR_alloc | apply BR_drewN | apply BR_drew)); exact BR_mono HO110.out (fun _ hk => ⟨hk.1.2,hk.2⟩)⟩,⟨by repeat (first | (with_reducible first | exact HB.out | apply below_alloc | apply pw_below_drewN | apply below_drew1) | exact HB.out)⟩⟩
 case round =>
  clear H'; try clear p2
  try clear c3
  obtain ⟨x6_1,x7_1,x17_1,rfl,HA,HK1,HO_6,HO_7,HO_15,HB⟩ := hrel
  cases gk with
  | zero => exact absurd HA.out (by simp [impl_brokenFor.l0])
  | succ k1 =>
   have H := HA.out; clear HA; simp only [impl_brokenFor.l0] at H
   by_cases c12 : x17_1 < (y108.length : Int)
   ·
    rw [if_pos c12] at H; have c12b0 : decide (x17_1 < (y108.length : Int)) = true := decide_eq_true c12; clear c12
    by_cases c13 : 0 ≤ x17_1
    ·
     rw [if_pos c13] at H; have c13b0 : decide (0 ≤ x17_1) = true := decide_eq_true c13; clear c13
     by_cases c14 : x17_1 < (y108.length : Int)
     ·
      rw [if_pos c14] at H; have c14b0 : decide (x17_1 < (y108.length : Int)) = true := decide_eq_true c14; clear c14; obtain ⟨y112,hy112⟩ : ∃ y_ : List Int,y_ = (([rd y108 x17_1] : List Int)) := ⟨_,rfl⟩; replace H : ((strings_Count.f a1 (strOfNums y112)).bind fun t115 => (if t115 = 0 then (if x6_1.length < 140737488355328 then (impl_brokenFor.l0 k1 a0 a1 (x6_1 ++ [rd y108 x17_1]) x7_1 y108 (y108.length : Int) (wrap64 (x17_1 + 1))) else (none)) else ((strings_Count.f a0 (strOfNums y112)).bind fun t119 => (if t115 = (wrap64 (2 * t119)) then (if x7_1.length < 140737488355328 then (impl_brokenFor.l0 k1 a0 a1 x6_1 (x7_1 ++ [rd y108 x17_1]) y108 (y108.length : Int) (wrap64 (x17_1 + 1))) else (none)) else (impl_brokenFor.l0 k1 a0 a1 x6_1 x7_1 y108 (y108.length : Int) (wrap64 (x17_1 + 1))))))) = some (r1,r2) := by first | (rw [hy112]; with_reducible exact H) | (have H2_ := (Option.bind_some _ _).symm.trans H; rw [hy112]; with_reducible exact H2_) | (have H2_ := (Option.bind_some _ _).symm.trans H; with_reducible exact H2_) | with_reducible exact H | (rw [hy112]; exact H) | exact H
      have Ny112 := Aside0.mk hy112; clear hy112; replace H := Option.bind_eq_some_iff.mp H; obtain ⟨t115,A150,H⟩ := H; replace H : (if t115 = 0 then (if x6_1.length < 140737488355328 then (impl_brokenFor.l0 k1 a0 a1 (x6_1 ++ [rd y108 x17_1]) x7_1 y108 (y108.length : Int) (wrap64 (x17_1 + 1))) else (none)) else ((strings_Count.f a0 (strOfNums y112)).bind fun t119 => (if t115 = (wrap64 (2 * t119)) then (if x7_1.length < 140737488355328 then (impl_brokenFor.l0 k1 a0 a1 x6_1 (x7_1 ++ [rd y108 x17_1]) y108 (y108.length : Int) (wrap64 (x17_1 + 1))) else (none)) else (impl_brokenFor.l0 k1 a0 a1 x6_1 x7_1 y108 (y108.length : Int) (wrap64 (x17_1 + 1)))))) = some (r1,r2) := H; have A15 := Aside0.mk A150; clear A150
      by_cases c16 : t115 = 0
      ·
       rw [if_pos c16] at H; have c16b0 : (t115 == 0) = true := beq_iff_eq.mpr c16; have c16b1 : (t115 != 0) = false := bne_eq_false_iff_eq.mpr c16; clear c16
       by_cases c17 : x6_1.length < 140737488355328
       ·
        rw [if_pos c17] at H; have LMc17 := Aside0.mk c17; clear c17; obtain ⟨y116,hy116⟩ : ∃ y_ : List Int,y_ = (x6_1 ++ [rd y108 x17_1]) := ⟨_,rfl⟩; replace H : (impl_brokenFor.l0 k1 a0 a1 y116 x7_1 y108 (y108.length : Int) (wrap64 (x17_1 + 1))) = some (r1,r2) := by first | (rw [hy116]; with_reducible exact H) | (have H2_ := (Option.bind_some _ _).symm.trans H; rw [hy116]; with_reducible exact H2_) | (have H2_ := (Option.bind_some _ _).symm.trans H; with_reducible exact H2_) | with_reducible exact H | (rw [hy116]; exact H) | exact H
        have Ny116 := Aside0.mk hy116; clear hy116; have H' := Aside0.mk H; clear H; have p111 : 0 ≤ (x17_1 : Int) := of_decide_eq_true (by first | (with_reducible assumption) | assumption); have q111 : x17_1 < (y108.length : Int) := of_decide_eq_true (by first | (with_reducible assumption) | assumption); obtain ⟨ad111,e111,hx111_0⟩ := Kd.at_int (BR_reads' HO_15.out).2.2 x17_1 p111 q111
        cases e111
        replace p111 := eq_true p111; replace q111 := eq_true q111; go_wp2_with (first | ((with_reducible refine gate_dst (N := 22) rfl ?_); refine Kd.R_lit (Kd.int .u8) _ 5 ?hg (N := 22) ?hd (xs := ([rd y108 x17_1] : List Int)) (inner := [.int .u8 (rd y108 x17_1)]) (ok := fun _ => True) (okp := fun _ => True) ?hr ?hp (fun _ hk => hk) trivial (Below.refl _ _) (Nat.le_refl _) (by simp) ?_; (case hd => rfl); (case hg => rfl); (case hr => first | (go_simp; done) | (go_simp; rfl)); (case hp => exact (Reps.one (show Kd.M (Kd.int .u8) _ _ _ (rd y108 x17_1) [.int .u8 (rd y108 x17_1)] from rfl) (Reps.none _ _))); intro v113 w18 ho19 hb hg_ hnew_; clear hg_ hnew_; (first | rw [← Ny112.out] at ho19 | (simp only [Int.reduceToNat] at ho19; rw [← Ny112.out] at ho19)); have n0_ := Aside0.mk (Kd.R_elder' (by (with_reducible repeat (first | apply Kd.R_alloc | apply Kd.R_drewN | apply Kd.R_drew)); exact HO_6.out) (Kd.R_base ho19) hb); have n1_ := Aside0.mk (Kd.R_elder' (by (with_reducible repeat (first | apply Kd.R_alloc | apply Kd.R_drewN | apply Kd.R_drew)); exact HO_7.out) (Kd.R_base ho19) hb); have n2_ := Aside0.mk (BR_elder' (by (with_reducible repeat (first | apply BR_alloc | apply BR_drewN | apply BR_drew)); exact HO_15.out) (Kd.R_base ho19) hb); have n3_ := Aside0.mk (Kd.R_lower (Kd.R_new' (Kd.R_new' (Kd.R_new' ho19 (Kd.R_lt (by (with_reducible repeat (first | apply Kd.R_alloc | apply Kd.R_drewN | apply Kd.R_drew)); exact HO_6.out))) (Kd.R_lt (by (with_reducible repeat (first | apply Kd.R_alloc | apply Kd.R_drewN | apply Kd.R_drew)); exact HO_7.out))) (BR_lt (by (with_reducible repeat (first | apply BR_alloc | apply BR_drewN | apply BR_drew)); exact HO_15.out))) (below_size (by repeat (first | (with_reducible first | exact HB.out | apply below_alloc | apply pw_below_drewN | apply below_drew1) | exact HB.out)))); have n4_ := Aside0.mk (below_step (by repeat (first | (with_reducible first | exact HB.out | apply below_alloc | apply pw_below_drewN | apply below_drew1) | exact HB.out)) hb); clear HO_6; clear HO_7; clear HO_15; clear HB; have HO_6 := n0_; have HO_7 := n1_; have HO_15 := n2_; have HO114 := n3_; have HB := n4_; clear n0_ n1_ n2_ n3_ n4_; clear hb ho19; have hcv20 := own_string (P := Tryd.prog) Tryd.underlying48 Tryd.underlying5 Tryd.underlying9 (Kd.own_of_R HO114.out)) | (go_at_call 51; (with_reducible refine (strings_Count.calls a1 (strOfNums y112) t115 _ A15.out).mono ?_); rintro e w' ⟨rfl,⟨nd,rfl⟩⟩; (try first | exact ⟨rfl,_,World.drewN_drewN _ _ _⟩ | exact ⟨rfl,_,Eq.trans (World.drewN_drewN _ _ _) (congrArg (World.drewN _) (Nat.add_assoc _ _ _))⟩)) | ((with_reducible refine gate_builtin (b := .append) (xs := #[.tmp 29,.tmp 31]) rfl ?_); at_builtin; refine Kd.R_append (Kd.int .u8) (w0 := w) w.heap.size rfl (.tmp 29) (.tmp 31) 48 5 (.int .u8 0) 1 rfl Tryd.underlying48 info5 rfl (by decide) (by omega) u6 x6_1 (rd y108 x17_1) [.int .u8 (rd y108 x17_1)] (fun k_ => some k_ ≠ (u7 : Value).ownBlock ∧ some k_ ≠ (.slice (some ad111) y108.length co11 : Value).ownBlock ∧ some k_ ≠ (v113 : Value).ownBlock) (fun _ => False) rfl rfl ?aP (fun _ hk => hk.elim) ?aF ?aO ?aB ?aS ?aL ?_; (case aP => exact rfl); (case aB => exact (by repeat (first | (with_reducible first | exact HB.out | apply below_alloc | apply pw_below_drewN | apply below_drew1) | exact HB.out))); (case aF => exact (fun k_ hk => ⟨Kd.fresh' (Kd.R_lt (by (with_reducible repeat (first | apply Kd.R_alloc | apply Kd.R_drewN | apply Kd.R_drew)); exact HO_7.out)) k_ hk,Kd.fresh' (BR_lt (by (with_reducible repeat (first | apply BR_alloc | apply BR_drewN | apply BR_drew)); exact HO_15.out)) k_ hk,Kd.fresh' (Kd.R_lt (by (with_reducible repeat (first | apply Kd.R_alloc | apply Kd.R_drewN | apply Kd.R_drew)); exact HO114.out)) k_ hk⟩)); (case aO => exact (by (with_reducible repeat (first | apply Kd.R_alloc | apply Kd.R_drewN | apply Kd.R_drew)); exact Kd.R_mono HO_6.out (fun _ hk => ⟨hk.1.1,⟨hk.1.2,hk.2⟩⟩))); (case aS => exact (below_size (by repeat (first | (with_reducible first | exact HB.out | apply below_alloc | apply pw_below_drewN | apply below_drew1) | exact HB.out)))); (case aL => have := LMc17.out; omega); intro v117 w21 ho hb hg hat; rw [← Ny116.out] at ho; have n0_ := Aside0.mk (Kd.R_after (ok := (fun k_ => some k_ ≠ (.slice (some ad111) y108.length co11 : Value).ownBlock ∧ some k_ ≠ (v113 : Value).ownBlock)) (by (with_reducible repeat (first | apply Kd.R_alloc | apply Kd.R_drewN | apply Kd.R_drew)); exact Kd.R_mono HO_7.out (fun _ hk => ⟨⟨hk.1.2,hk.2⟩,hk.1.1⟩)) hg hat); have n1_ := Aside0.mk (BR_after (ok := (fun k_ => some k_ ≠ (u7 : Value).ownBlock ∧ some k_ ≠ (v113 : Value).ownBlock)) (by (with_reducible repeat (first | apply BR_alloc | apply BR_drewN | apply BR_drew)); exact BR_mono HO_15.out (fun _ hk => ⟨⟨hk.1.2,hk.2⟩,hk.1.1⟩)) hg hat); have n2_ := Aside0.mk (Kd.R_after (ok := (fun k_ => some k_ ≠ (u7 : Value).ownBlock ∧ some k_ ≠ (.slice (some ad111) y108.length co11 : Value).ownBlock)) (by (with_reducible repeat (first | apply Kd.R_alloc | apply Kd.R_drewN | apply Kd.R_drew)); exact Kd.R_mono HO114.out (fun _ hk => ⟨⟨hk.1.2,hk.2⟩,hk.1.1.2⟩)) hg hat); have n3_ := Aside0.mk (hb); have n4_ := Aside0.mk (ho); clear HO_7; clear HO_15; clear HO114; clear HB; clear HO_6; have HO_7 := n0_; have HO_15 := n1_; have HO114 := n2_; have HB := n3_; have HO118 := n4_; clear n0_ n1_ n2_ n3_ n4_; clear ho hb hg hat))
        go_roundg k1
        case measure => have := HK1.out; omega
        case rel => exact ⟨(y116),(x7_1),(wrap64 (x17_1 + 1)),(by first | rfl | (simp; done) | (simp [*]; done)),H',⟨by have := HK1.out; omega⟩,⟨by (with_reducible repeat (first | apply Kd.R_alloc | apply Kd.R_drewN | apply Kd.R_drew)); exact Kd.R_mono HO118.out (fun _ hk => ⟨hk.1,hk.2.1⟩)⟩,⟨by (with_reducible repeat (first | apply Kd.R_alloc | apply Kd.R_drewN | apply Kd.R_drew)); exact Kd.R_mono HO_7.out (fun _ hk => ⟨hk.2,hk.1.1⟩)⟩,⟨by (with_reducible repeat (first | apply BR_alloc | apply BR_drewN | apply BR_drew)); exact BR_mono HO_15.out (fun _ hk => ⟨hk.2,hk.1.1⟩)⟩,⟨by repeat (first | (with_reducible first | exact HB.out | apply below_alloc | apply pw_below_drewN | apply below_drew1) | exact HB.out)⟩⟩
       · rw [if_neg c17] at H; exact absurd H (by simp)
      ·
       rw [if_neg c16] at H; have c16b0 : (t115 == 0) = false := beq_eq_false_iff_ne.mpr c16; have c16b1 : (t115 != 0) = true := bne_iff_ne.mpr c16; replace H := Option.bind_eq_some_iff.mp H; obtain ⟨t119,A220,H⟩ := H; replace H : (if t115 = (wrap64 (2 * t119)) then (if x7_1.length < 140737488355328 then (impl_brokenFor.l0 k1 a0 a1 x6_1 (x7_1 ++ [rd y108 x17_1]) y108 (y108.length : Int) (wrap64 (x17_1 + 1))) else (none)) else (impl_brokenFor.l0 k1 a0 a1 x6_1 x7_1 y108 (y108.length : Int) (wrap64 (x17_1 + 1)))) = some (r1,r2) := H; have A22 := Aside0.mk A220; clear A220
       by_cases c23 : t115 = (wrap64 (2 * t119))
       ·
        rw [if_pos c23] at H; have c23b0 : (t115 == (wrap64 (2 * t119))) = true := beq_iff_eq.mpr c23; have c23b1 : (t115 != (wrap64 (2 * t119))) = false := bne_eq_false_iff_eq.mpr c23; clear c23
        by_cases c24 : x7_1.length < 140737488355328
        ·
         rw [if_pos c24] at H; have LMc24 := Aside0.mk c24; clear c24; obtain ⟨y120,hy120⟩ : ∃ y_ : List Int,y_ = (x7_1 ++ [rd y108 x17_1]) := ⟨_,rfl⟩; replace H : (impl_brokenFor.l0 k1 a0 a1 x6_1 y120 y108 (y108.length : Int) (wrap64 (x17_1 + 1))) = some (r1,r2) := by first | (rw [hy120]; with_reducible exact H) | (have H2_ := (Option.bind_some _ _).symm.trans H; rw [hy120]; with_reducible exact H2_) | (have H2_ := (Option.bind_some _ _).symm.trans H; with_reducible exact H2_) | with_reducible exact H | (rw [hy120]; exact H) | exact H
         have Ny120 := Aside0.mk hy120; clear hy120; have H' := Aside0.mk H; clear H; have p111 : 0 ≤ (x17_1 : Int) := of_decide_eq_true (by first | (with_reducible assumption) | assumption); have q111 : x17_1 < (y108.length : Int) := of_decide_eq_true (by first | (with_reducible assumption) | assumption); obtain ⟨ad111,e111,hx111_0⟩ := Kd.at_int (BR_reads' HO_15.out).2.2 x17_1 p111 q111
         cases e111
         replace p111 := eq_true p111; replace q111 := eq_true q111; go_wp2_with (first | ((with_reducible refine gate_dst (N := 22) rfl ?_); refine Kd.R_lit (Kd.int .u8) _ 5 ?hg (N := 22) ?hd (xs := ([rd y108 x17_1] : List Int)) (inner := [.int .u8 (rd y108 x17_1)]) (ok := fun _ => True) (okp := fun _ => True) ?hr ?hp (fun _ hk => hk) trivial (Below.refl _ _) (Nat.le_refl _) (by simp) ?_; (case hd => rfl); (case hg => rfl); (case hr => first | (go_simp; done) | (go_simp; rfl)); (case hp => exact (Reps.one (show Kd.M (Kd.int .u8) _ _ _ (rd y108 x17_1) [.int .u8 (rd y108 x17_1)] from rfl) (Reps.none _ _))); intro v113 w25 ho26 hb hg_ hnew_; clear hg_ hnew_; (first | rw [← Ny112.out] at ho26 | (simp only [Int.reduceToNat] at ho26; rw [← Ny112.out] at ho26)); have n0_ := Aside0.mk (Kd.R_elder' (by (with_reducible repeat (first | apply Kd.R_alloc | apply Kd.R_drewN | apply Kd.R_drew)); exact HO_6.out) (Kd.R_base ho26) hb); have n1_ := Aside0.mk (Kd.R_elder' (by (with_reducible repeat (first | apply Kd.R_alloc | apply Kd.R_drewN | apply Kd.R_drew)); exact HO_7.out) (Kd.R_base ho26) hb); have n2_ := Aside0.mk (BR_elder' (by (with_reducible repeat (first | apply BR_alloc | apply BR_drewN | apply BR_drew)); exact HO_15.out) (Kd.R_base ho26) hb); have n3_ := Aside0.mk (Kd.R_lower (Kd.R_new' (Kd.R_new' (Kd.R_new' ho26 (Kd.R_lt (by (with_reducible repeat (first | apply Kd.R_alloc | apply Kd.R_drewN | apply Kd.R_drew)); exact HO_6.out))) (Kd.R_lt (by (with_reducible repeat (first | apply Kd.R_alloc | apply Kd.R_drewN | apply Kd.R_drew)); exact HO_7.out))) (BR_lt (by (with_reducible repeat (first | apply BR_alloc | apply BR_drewN | apply BR_drew)); exact HO_15.out))) (below_size (by repeat (first | (with_reducible first | exact HB.out | apply below_alloc | apply pw_below_drewN | apply below_drew1) | exact HB.out)))); have n4_ := Aside0.mk (below_step (by repeat (first | (with_reducible first | exact HB.out | apply below_alloc | apply pw_below_drewN | apply below_drew1) | exact HB.out)) hb); clear HO_6; clear HO_7; clear HO_15; clear HB; have HO_6 := n0_; have HO_7 := n1_; have HO_15 := n2_; have HO114 := n3_; have HB := n4_; clear n0_ n1_ n2_ n3_ n4_; clear hb ho26; have hcv27 := own_string (P := Tryd.prog) Tryd.underlying48 Tryd.underlying5 Tryd.underlying9 (Kd.own_of_R HO114.out)) | (go_at_call 51; (with_reducible refine (strings_Count.calls a1 (strOfNums y112) t115 _ A15.out).mono ?_); rintro e w' ⟨rfl,⟨nd,rfl⟩⟩; (try first | exact ⟨rfl,_,World.drewN_drewN _ _ _⟩ | exact ⟨rfl,_,Eq.trans (World.drewN_drewN _ _ _) (congrArg (World.drewN _) (Nat.add_assoc _ _ _))⟩)) | (go_at_call 51; (with_reducible refine (strings_Count.calls a0 (strOfNums y112) t119 _ A22.out).mono ?_); rintro e w' ⟨rfl,⟨nd,rfl⟩⟩; (try first | exact ⟨rfl,_,World.drewN_drewN _ _ _⟩ | exact ⟨rfl,_,Eq.trans (World.drewN_drewN _ _ _) (congrArg (World.drewN _) (Nat.add_assoc _ _ _))⟩)) | ((with_reducible refine gate_builtin (b := .append) (xs := #[.tmp 39,.tmp 41]) rfl ?_); at_builtin; refine Kd.R_append (Kd.int .u8) (w0 := w) w.heap.size rfl (.tmp 39) (.tmp 41) 48 5 (.int .u8 0) 1 rfl Tryd.underlying48 info5 rfl (by decide) (by omega) u7 x7_1 (rd y108 x17_1) [.int .u8 (rd y108 x17_1)] (fun k_ => some k_ ≠ (u6 : Value).ownBlock ∧ some k_ ≠ (.slice (some ad111) y108.length co11 : Value).ownBlock ∧ some k_ ≠ (v113 : Value).ownBlock) (fun _ => False) rfl rfl ?aP (fun _ hk => hk.elim) ?aF ?aO ?aB ?aS ?aL ?_; (case aP => exact rfl); (case aB => exact (by repeat (first | (with_reducible first | exact HB.out | apply below_alloc | apply pw_below_drewN | apply below_drew1) | exact HB.out))); (case aF => exact (fun k_ hk => ⟨Kd.fresh' (Kd.R_lt (by (with_reducible repeat (first | apply Kd.R_alloc | apply Kd.R_drewN | apply Kd.R_drew)); exact HO_6.out)) k_ hk,Kd.fresh' (BR_lt (by (with_reducible repeat (first | apply BR_alloc | apply BR_drewN | apply BR_drew)); exact HO_15.out)) k_ hk,Kd.fresh' (Kd.R_lt (by (with_reducible repeat (first | apply Kd.R_alloc | apply Kd.R_drewN | apply Kd.R_drew)); exact HO114.out)) k_ hk⟩)); (case aO => exact (by (with_reducible repeat (first | apply Kd.R_alloc | apply Kd.R_drewN | apply Kd.R_drew)); exact Kd.R_mono HO_7.out (fun _ hk => ⟨hk.1.1,⟨hk.1.2,hk.2⟩⟩))); (case aS => exact (below_size (by repeat (first | (with_reducible first | exact HB.out | apply below_alloc | apply pw_below_drewN | apply below_drew1) | exact HB.out)))); (case aL => have := LMc24.out; omega); intro v121 w28 ho hb hg hat; rw [← Ny120.out] at ho; have n0_ := Aside0.mk (Kd.R_after (ok := (fun k_ => some k_ ≠ (.slice (some ad111) y108.length co11 : Value).ownBlock ∧ some k_ ≠ (v113 : Value).ownBlock)) (by (with_reducible repeat (first | apply Kd.R_alloc | apply Kd.R_drewN | apply Kd.R_drew)); exact Kd.R_mono HO_6.out (fun _ hk => ⟨⟨hk.1.2,hk.2⟩,hk.1.1⟩)) hg hat); have n1_ := Aside0.mk (BR_after (ok := (fun k_ => some k_ ≠ (u6 : Value).ownBlock ∧ some k_ ≠ (v113 : Value).ownBlock)) (by (with_reducible repeat (first | apply BR_alloc | apply BR_drewN | apply BR_drew)); exact BR_mono HO_15.out (fun _ hk => ⟨⟨hk.1.1,hk.2⟩,hk.1.2⟩)) hg hat); have n2_ := Aside0.mk (Kd.R_after (ok := (fun k_ => some k_ ≠ (u6 : Value).ownBlock ∧ some k_ ≠ (.slice (some ad111) y108.length co11 : Value).ownBlock)) (by (with_reducible repeat (first | apply Kd.R_alloc | apply Kd.R_drewN | apply Kd.R_drew)); exact Kd.R_mono HO114.out (fun _ hk => ⟨⟨hk.1.1.2,hk.2⟩,hk.1.2⟩)) hg hat); have n3_ := Aside0.mk (hb); have n4_ := Aside0.mk (ho); clear HO_6; clear HO_15; clear HO114; clear HB; clear HO_7; have HO_6 := n0_; have HO_15 := n1_; have HO114 := n2_; have HB := n3_; have HO122 := n4_; clear n0_ n1_ n2_ n3_ n4_; clear ho hb hg hat))
         go_roundg k1
         case measure => have := HK1.out; omega
         case rel => exact ⟨(x6_1),(y120),(wrap64 (x17_1 + 1)),(by first | rfl | (simp; done) | (simp [*]; done)),H',⟨by have := HK1.out; omega⟩,⟨by (with_reducible repeat (first | apply Kd.R_alloc | apply Kd.R_drewN | apply Kd.R_drew)); exact Kd.R_mono HO_6.out (fun _ hk => ⟨hk.2,hk.1.1⟩)⟩,⟨by (with_reducible repeat (first | apply Kd.R_alloc | apply Kd.R_drewN | apply Kd.R_drew)); exact Kd.R_mono HO122.out (fun _ hk => ⟨hk.1,hk.2.1⟩)⟩,⟨by (with_reducible repeat (first | apply BR_alloc | apply BR_drewN | apply BR_drew)); exact BR_mono HO_15.out (fun _ hk => ⟨hk.1.1,hk.2⟩)⟩,⟨by repeat (first | (with_reducible first | exact HB.out | apply below_alloc | apply pw_below_drewN | apply below_drew1) | exact HB.out)⟩⟩
        · rw [if_neg c24] at H; exact absurd H (by simp)
       ·
        rw [if_neg c23] at H; have c23b0 : (t115 == (wrap64 (2 * t119))) = false := beq_eq_false_iff_ne.mpr c23; have c23b1 : (t115 != (wrap64 (2 * t119))) = true := bne_iff_ne.mpr c23; have H' := Aside0.mk H; clear H; have p111 : 0 ≤ (x17_1 : Int) := of_decide_eq_true (by first | (with_reducible assumption) | assumption); have q111 : x17_1 < (y108.length : Int) := of_decide_eq_true (by first | (with_reducible assumption) | assumption); obtain ⟨ad111,e111,hx111_0⟩ := Kd.at_int (BR_reads' HO_15.out).2.2 x17_1 p111 q111
        cases e111
        replace p111 := eq_true p111; replace q111 := eq_true q111; go_wp2_with (first | ((with_reducible refine gate_dst (N := 22) rfl ?_); refine Kd.R_lit (Kd.int .u8) _ 5 ?hg (N := 22) ?hd (xs := ([rd y108 x17_1] : List Int)) (inner := [.int .u8 (rd y108 x17_1)]) (ok := fun _ => True) (okp := fun _ => True) ?hr ?hp (fun _ hk => hk) trivial (Below.refl _ _) (Nat.le_refl _) (by simp) ?_; (case hd => rfl); (case hg => rfl); (case hr => first | (go_simp; done) | (go_simp; rfl)); (case hp => exact (Reps.one (show Kd.M (Kd.int .u8) _ _ _ (rd y108 x17_1) [.int .u8 (rd y108 x17_1)] from rfl) (Reps.none _ _))); intro v113 w29 ho30 hb hg_ hnew_; clear hg_ hnew_; (first | rw [← Ny112.out] at ho30 | (simp only [Int.reduceToNat] at ho30; rw [← Ny112.out] at ho30)); have n0_ := Aside0.mk (Kd.R_elder' (by (with_reducible repeat (first | apply Kd.R_alloc | apply Kd.R_drewN | apply Kd.R_drew)); exact HO_6.out) (Kd.R_base ho30) hb); have n1_ := Aside0.mk (Kd.R_elder' (by (with_reducible repeat (first | apply Kd.R_alloc | apply Kd.R_drewN | apply Kd.R_drew)); exact HO_7.out) (Kd.R_base ho30) hb); have n2_ := Aside0.mk (BR_elder' (by (with_reducible repeat (first | apply BR_alloc | apply BR_drewN | apply BR_drew)); exact HO_15.out) (Kd.R_base ho30) hb); have n3_ := Aside0.mk (Kd.R_lower (Kd.R_new' (Kd.R_new' (Kd.R_new' ho30 (Kd.R_lt (by (with_reducible repeat (first | apply Kd.R_alloc | apply Kd.R_drewN | apply Kd.R_drew)); exact HO_6.out))) (Kd.R_lt (by (with_reducible repeat (first | apply Kd.R_alloc | apply Kd.R_drewN | apply Kd.R_drew)); exact HO_7.out))) (BR_lt (by (with_reducible repeat (first | apply BR_alloc | apply BR_drewN | apply BR_drew)); exact HO_15.out))) (below_size (by repeat (first | (with_reducible first | exact HB.out | apply below_alloc | apply pw_below_drewN | apply below_drew1) | exact HB.out)))); have n4_ := Aside0.mk (below_step (by repeat (first | (with_reducible first | exact HB.out | apply below_alloc | apply pw_below_drewN | apply below_drew1) | exact HB.out)) hb); clear HO_6; clear HO_7; clear HO_15; clear HB; have HO_6 := n0_; have HO_7 := n1_; have HO_15 := n2_; have HO114 := n3_; have HB := n4_; clear n0_ n1_ n2_ n3_ n4_; clear hb ho30; have hcv31 := own_string (P := Tryd.prog) Tryd.underlying48 Tryd.underlying5 Tryd.underlying9 (Kd.own_of_R HO114.out)) | (go_at_call 51; (with_reducible refine (strings_Count.calls a1 (strOfNums y112) t115 _ A15.out).mono ?_); rintro e w' ⟨rfl,⟨nd,rfl⟩⟩; (try first | exact ⟨rfl,_,World.drewN_drewN _ _ _⟩ | exact ⟨rfl,_,Eq.trans (World.drewN_drewN _ _ _) (congrArg (World.drewN _) (Nat.add_assoc _ _ _))⟩)) | (go_at_call 51; (with_reducible refine (strings_Count.calls a0 (strOfNums y112) t119 _ A22.out).mono ?_); rintro e w' ⟨rfl,⟨nd,rfl⟩⟩; (try first | exact ⟨rfl,_,World.drewN_drewN _ _ _⟩ | exact ⟨rfl,_,Eq.trans (World.drewN_drewN _ _ _) (congrArg (World.drewN _) (Nat.add_assoc _ _ _))⟩)))
        go_roundg k1
        case measure => have := HK1.out; omega
        case rel => exact ⟨(x6_1),(x7_1),(wrap64 (x17_1 + 1)),(by first | rfl | (simp; done) | (simp [*]; done)),H',⟨by have := HK1.out; omega⟩,⟨by (with_reducible repeat (first | apply Kd.R_alloc | apply Kd.R_drewN | apply Kd.R_drew)); exact Kd.R_mono HO_6.out (fun _ hk => ⟨hk.1.1,hk.1.2⟩)⟩,⟨by (with_reducible repeat (first | apply Kd.R_alloc | apply Kd.R_drewN | apply Kd.R_drew)); exact Kd.R_mono HO_7.out (fun _ hk => ⟨hk.1.1,hk.1.2⟩)⟩,⟨by (with_reducible repeat (first | apply BR_alloc | apply BR_drewN | apply BR_drew)); exact BR_mono HO_15.out (fun _ hk => ⟨hk.1.1,hk.1.2⟩)⟩,⟨by repeat (first | (with_reducible first | exact HB.out | apply below_alloc | apply pw_below_drewN | apply below_drew1) | exact HB.out)⟩⟩
     · rw [if_neg c14] at H; exact absurd H (by simp)
    · rw [if_neg c13] at H; exact absurd H (by simp)
   ·
    rw [if_neg c12] at H; have c12b0 : decide (x17_1 < (y108.length : Int)) = false := decide_eq_false c12; clear c12; simp only [Option.some.injEq,Prod.mk.injEq] at H; obtain ⟨rfl,rfl⟩ := H; go_wp2
    refine start_ (n := 6) (S := fun w' => (convert 48 9 u6).run Tryd.prog w' = .ok (.string (strOfNums x6_1)) w' ∧ (convert 48 9 u7).run Tryd.prog w' = .ok (.string (strOfNums x7_1)) w') (ds := []) #[false,false,false,false,false,false] (by kernel_rfl) rfl rfl ⟨(own_string (P := Tryd.prog) Tryd.underlying48 Tryd.underlying5 Tryd.underlying9 (Kd.own_of_R (Kd.R_drew HO_6.out))),(own_string (P := Tryd.prog) Tryd.underlying48 Tryd.underlying5 Tryd.underlying9 (Kd.own_of_R (Kd.R_drew HO_7.out)))⟩ (fun hHeld => ?_); refine pure_ (i := 0) (N := some 44) (v := ?_) (a' := ?_) #[true,false,false,false,false,false] rfl rfl (by kernel_rfl) (fun _ _ _ h => h) (Or.inl ⟨by rfl,?_⟩) ?_ ?_; rotate_left
    · intro w'; go_simp; with_reducible rfl
    rotate_left
    · simp only [Act.put,List.setIfInBounds_toArray,List.set_cons_zero,List.set_cons_succ,i64_w,i32_w]; rfl
    refine pure_ (i := 2) (N := some 46) (v := ?_) (a' := ?_) #[true,false,true,false,false,false] rfl rfl (by kernel_rfl) (fun _ _ _ h => h) (Or.inl ⟨by rfl,?_⟩) ?_ ?_; rotate_left
    · intro w'; go_simp; with_reducible rfl
    rotate_left
    · simp only [Act.put,List.setIfInBounds_toArray,List.set_cons_zero,List.set_cons_succ,i64_w,i32_w]; rfl
    refine take_ (i := 1) (N := some 45) (v := ?_) (a' := ?_) #[true,true,true,false,false,false] rfl rfl (by kernel_rfl) (fun _ _ _ h => h) (Or.inl ⟨by rfl,?_⟩) hHeld ?_ ?_; rotate_left
    · rintro w' ⟨s0,s1⟩; go_simp; with_reducible rfl
    rotate_left
    · simp only [Act.put,List.setIfInBounds_toArray,List.set_cons_zero,List.set_cons_succ,i64_w,i32_w]; rfl
    refine pure_ (i := 4) (N := some 4) (v := ?_) (a' := ?_) #[true,true,true,false,true,false] rfl rfl (by kernel_rfl) (fun _ _ _ h => h) (Or.inl ⟨by rfl,?_⟩) ?_ ?_; rotate_left
    · intro w'; go_simp; with_reducible rfl
    rotate_left
    · simp only [Act.put,List.setIfInBounds_toArray,List.set_cons_zero,List.set_cons_succ,i64_w,i32_w]; rfl
    refine take_ (i := 3) (N := some 47) (v := ?_) (a' := ?_) #[true,true,true,true,true,false] rfl rfl (by kernel_rfl) (fun _ _ _ h => h) (Or.inl ⟨by rfl,?_⟩) hHeld ?_ ?_; rotate_left
    · rintro w' ⟨s0,s1⟩; go_simp; with_reducible rfl
    rotate_left
    · simp only [Act.put,List.setIfInBounds_toArray,List.set_cons_zero,List.set_cons_succ,i64_w,i32_w]; rfl
    refine pure_ (i := 5) (N := some 5) (v := ?_) (a' := ?_) #[true,true,true,true,true,true] rfl rfl (by kernel_rfl) (fun _ _ _ h => h) (Or.inl ⟨by rfl,?_⟩) ?_ ?_; rotate_left
    · intro w'; go_simp; with_reducible rfl
    rotate_left
    · simp only [Act.put,List.setIfInBounds_toArray,List.set_cons_zero,List.set_cons_succ,i64_w,i32_w]; rfl
    refine done_ (by kernel_rfl) ?_; go_wp2
    go_ret2
    exact ⟨by first | rfl | (simp [errW_none,errW_some] <;> rfl) | (simp [*,errW_none,errW_some] <;> rfl),by repeat (first | (with_reducible first | exact HB.out | apply below_alloc | apply pw_below_drewN | apply below_drew1) | exact HB.out)⟩

end Go.Proofs.YtcidlaabbkimdaaDoor.P

-- printed by xprint.py
namespace Go.Proofs.YtcidlaabbkimdaaDoor.P
open Go.RowKit Go.Proofs.YtcidlaabbkimdaaDoorW.PrintWords Go.Proofs.YtcidlaabbkimdaaDoorW.PrintLast Go.Proofs.YtcidlaabbkimdaaDoorW.PrintMore
attribute [local go_sem] max2_int min2_int max_two min_two max_three min_three max_four min_four   -- for this text's walks alone
set_option linter.unusedVariables false
set_option linter.unusedSimpArgs false

/-! ### strings_Trim: function 60 -/
def strings_Trim.f (a0 : ByteArray) (a1 : ByteArray) : Option ByteArray :=
 if a0.size ≤ 9223372036854775807 ∧ a1.size < 4294967281 ∧ a1.data.toList.all (fun b => decide (b.toNat < 128)) = true then some ⟨(Lib.trimS a0.data.toList a1.data.toList).toArray⟩ else none
end Go.Proofs.YtcidlaabbkimdaaDoor.P
namespace Go.Proofs
open Go.Shelf
def YtcidlaabbkimdaaDoorlaysTrim_ren : Go.Shelf.Ren := ⟨fun | 160 => 60 | 232 => 70 | 231 => 69 | 227 => 71 | 234 => 73 | 233 => 72 | 236 => 75 | 235 => 74 | 228 => 98 | 271 => 101 | 151 => 100 | 197 => 99 | 120 => 117 | 152 => 116 | 260 => 115 | 137 => 52 | 119 => 121 | 224 => 109 | 225 => 108 | 217 => 66 | 266 => 88 | n => n, fun | 9 => 9 | 4 => 4 | 3 => 3 | 5 => 5 | 117 => 68 | 116 => 67 | 0 => 0 | 124 => 71 | 21 => 21 | 105 => 90 | 46 => 62 | 119 => 108 | 139 => 111 | 138 => 110 | n => n, fun | 3 => 1 | 4 => 2 | n => n⟩
theorem YtcidlaabbkimdaaDoorlaysTrim : Go.Proofs.Lays.n160 Tryd.prog YtcidlaabbkimdaaDoorlaysTrim_ren := {
  mixed := by kernel_rfl
  f119 := Tryd.func121.trans (congrArg some (by kernel_rfl))
  f120 := Tryd.func117.trans (congrArg some (by kernel_rfl))
  f137 := Tryd.func52.trans (congrArg some (by kernel_rfl))
  f151 := Tryd.func100.trans (congrArg some (by kernel_rfl))
  f152 := Tryd.func116.trans (congrArg some (by kernel_rfl))
  f160 := Tryd.func60.trans (congrArg some (by kernel_rfl))
  f197 := Tryd.func99.trans (congrArg some (by kernel_rfl))
  f217 := Tryd.func66.trans (congrArg some (by kernel_rfl))
  f224 := Tryd.func109.trans (congrArg some (by kernel_rfl))
  f225 := Tryd.func108.trans (congrArg some (by kernel_rfl))
  f227 := Tryd.func71.trans (congrArg some (by kernel_rfl))
  f228 := Tryd.func98.trans (congrArg some (by kernel_rfl))
  f231 := Tryd.func69.trans (congrArg some (by kernel_rfl))
  f232 := Tryd.func70.trans (congrArg some (by kernel_rfl))
  f233 := Tryd.func72.trans (congrArg some (by kernel_rfl))
  f234 := Tryd.func73.trans (congrArg some (by kernel_rfl))
  f235 := Tryd.func74.trans (congrArg some (by kernel_rfl))
  f236 := Tryd.func75.trans (congrArg some (by kernel_rfl))
  f260 := Tryd.func115.trans (congrArg some (by kernel_rfl))
  f266 := Tryd.func88.trans (congrArg some (by kernel_rfl))
  f271 := Tryd.func101.trans (congrArg some (by kernel_rfl))
  t0 := Tryd.underlying0
  a0 := Tryd.isAgg0
  z0 := Tryd.sizeOf0
  v0 := Tryd.zeroValue0
  t3 := Tryd.underlying3
  a3 := Tryd.isAgg3
  z3 := Tryd.sizeOf3
  v3 := Tryd.zeroValue3
  t4 := Tryd.underlying4
  a4 := Tryd.isAgg4
  z4 := Tryd.sizeOf4
  v4 := Tryd.zeroValue4
  t5 := Tryd.underlying5
  a5 := Tryd.isAgg5
  z5 := Tryd.sizeOf5
  v5 := Tryd.zeroValue5
  t9 := Tryd.underlying9
  a9 := Tryd.isAgg9
  z9 := Tryd.sizeOf9
  v9 := Tryd.zeroValue9
  t21 := Tryd.underlying21
  a21 := Tryd.isAgg21
  z21 := Tryd.sizeOf21
  v21 := Tryd.zeroValue21
  t46 := Tryd.underlying62
  a46 := Tryd.isAgg62
  z46 := Tryd.sizeOf62
  v46 := Tryd.zeroValue62
  t105 := Tryd.underlying90
  a105 := Tryd.isAgg90
  z105 := Tryd.sizeOf90
  v105 := Tryd.zeroValue90
  t116 := Tryd.underlying67
  a116 := Tryd.isAgg67
  z116 := Tryd.sizeOf67
  t117 := Tryd.underlying68
  a117 := Tryd.isAgg68
  z117 := Tryd.sizeOf68
  v117 := Tryd.zeroValue68
  t119 := Tryd.underlying108
  a119 := Tryd.isAgg108
  z119 := Tryd.sizeOf108
  t124 := Tryd.underlying71
  a124 := Tryd.isAgg71
  z124 := Tryd.sizeOf71
  v124 := Tryd.zeroValue71
  t138 := Tryd.underlying110
  a138 := Tryd.isAgg110
  z138 := Tryd.sizeOf110
  v138 := Tryd.zeroValue110
  t139 := Tryd.underlying111
  a139 := Tryd.isAgg111
  z139 := Tryd.sizeOf111
  v139 := Tryd.zeroValue111
  g3 := by kernel_rfl
  g4 := by kernel_rfl }
end Go.Proofs
namespace Go.Proofs.YtcidlaabbkimdaaDoor.P
open Go.RowKit Go.Proofs.YtcidlaabbkimdaaDoorW.PrintWords Go.Proofs.YtcidlaabbkimdaaDoorW.PrintLast Go.Proofs.YtcidlaabbkimdaaDoorW.PrintMore
theorem strings_Trim.calls (a0 : ByteArray) (a1 : ByteArray) (r : ByteArray) (w : World) (h : strings_Trim.f a0 a1 = some r) :
  Calls Tryd.prog 60 #[.string a0,.string a1] w fun e w' => e = .returned (.string r) ∧ Below w.heap.size w w' := by
 unfold strings_Trim.f at h
 split at h
 ·
  rename_i c
  obtain rfl := Option.some.inj h; have hcon := Any.strings_Trim_laid YtcidlaabbkimdaaDoorlaysTrim (by kernel_rfl) a0 a1 w c.1 c.2.1 (ascii_of_all c.2.2)
  change Calls Tryd.prog 60 _ _ _ at hcon
  exact hcon
 · cases h

end Go.Proofs.YtcidlaabbkimdaaDoor.P

-- printed by xprint.py
namespace Go.Proofs.YtcidlaabbkimdaaDoor.P
open Go.RowKit Go.Proofs.YtcidlaabbkimdaaDoorW.PrintWords Go.Proofs.YtcidlaabbkimdaaDoorW.PrintLast Go.Proofs.YtcidlaabbkimdaaDoorW.PrintMore
attribute [local go_sem] max2_int min2_int max_two min_two max_three min_three max_four min_four   -- for this text's walks alone
set_option linter.unusedVariables false
set_option linter.unusedSimpArgs false

/-! ### impl_over: function 47 -/
def impl_over.f (a0 : ByteArray) (a1 : ByteArray) : Option (Bool) := (strings_Trim.f a0 a1).bind fun t101 => (some (t101.toList == ([] : List UInt8)))
set_option maxHeartbeats 8000000 in
set_option maxRecDepth 100000 in
theorem impl_over.calls (a0 : ByteArray) (a1 : ByteArray) (r : Bool) (w : World) (h : impl_over.f a0 a1 = some r) :
  Calls Tryd.prog 47 #[.string a0,.string a1] w fun e w' => e = .returned (.bool r) ∧ Below w.heap.size w w' := by
 have HB := Aside0.mk (Below.refl w.heap.size w); have H : ((strings_Trim.f a0 a1).bind fun t101 => (some (t101.toList == ([] : List UInt8)))) = some r := h; clear h; replace H := Option.bind_eq_some_iff.mp H; obtain ⟨t101,A30,H⟩ := H; replace H : (some (t101.toList == ([] : List UInt8))) = some r := H; have A3 := Aside0.mk A30; clear A30; obtain rfl := Option.some.inj H
 go_enter Tryd.func47,Tryd.ntmps47
 go_wp2_with (first | ((with_reducible refine gate_callee (f := 60) rfl ?_); refine goesL_ (some 7) rfl rfl Tryd.func60 (by kernel_rfl) rfl #[.string a0,.string a1] rfl (by (try simp only [List.map_toArray,List.map_cons,List.map_nil]); first | done | rfl | (simp only [List.length_drop,List.length_take]; rfl)) ?_; (with_reducible refine (strings_Trim.calls a0 a1 t101 _ A3.out).mono ?_); rintro e w4 ⟨rfl,hb⟩; refine ⟨_,rfl,?_⟩; have n0_ := Aside0.mk (below_step (by repeat (first | (with_reducible first | exact HB.out | apply below_alloc | apply pw_below_drewN | apply below_drew1) | exact HB.out)) hb); clear HB; have HB := n0_; clear n0_; (try clear hb); (try clear hb2); (try clear hk); (try clear hi)))
 go_ret
 exact ⟨by first | rfl | (simp [errW_none,errW_some] <;> rfl) | (simp [*,errW_none,errW_some] <;> rfl),by repeat (first | (with_reducible first | exact HB.out | apply below_alloc | apply pw_below_drewN | apply below_drew1) | exact HB.out)⟩

end Go.Proofs.YtcidlaabbkimdaaDoor.P

-- printed by xprint.py
namespace Go.Proofs.YtcidlaabbkimdaaDoor.P
open Go.RowKit Go.Proofs.YtcidlaabbkimdaaDoorW.PrintWords Go.Proofs.YtcidlaabbkimdaaDoorW.PrintLast Go.Proofs.YtcidlaabbkimdaaDoorW.PrintMore
attribute [local go_sem] max2_int min2_int max_two min_two max_three min_three max_four min_four   -- for this text's walks alone
set_option linter.unusedVariables false
set_option linter.unusedSimpArgs false

/-! ### impl_isShown: function 34 -/
def impl_isShown.f (a0 : ByteArray) : Option (Bool) := if (a0.size : Int) ≤ 40 then ((impl_over.f a0 (⟨#[97,98,99,100,101,102,103,104,105,106,107,108,109,110,111,112,113,114,115,116,117,118,119,120,121,122]⟩ : ByteArray)).bind fun t101 => (some t101)) else (some false)
set_option maxHeartbeats 8000000 in
set_option maxRecDepth 100000 in
theorem impl_isShown.calls (a0 : ByteArray) (r : Bool) (w : World) (h : impl_isShown.f a0 = some r) :
  Calls Tryd.prog 34 #[.string a0] w fun e w' => e = .returned (.bool r) ∧ Below w.heap.size w w' := by
 have HB := Aside0.mk (Below.refl w.heap.size w); have H : (if (a0.size : Int) ≤ 40 then ((impl_over.f a0 (⟨#[97,98,99,100,101,102,103,104,105,106,107,108,109,110,111,112,113,114,115,116,117,118,119,120,121,122]⟩ : ByteArray)).bind fun t101 => (some t101)) else (some false)) = some r := h; clear h
 by_cases c2 : (a0.size : Int) ≤ 40
 ·
  rw [if_pos c2] at H; have c2b0 : decide ((a0.size : Int) ≤ 40) = true := decide_eq_true c2; have c2b1 : decide (a0.size ≤ 40) = true := decide_eq_true (by omega); clear c2; replace H := Option.bind_eq_some_iff.mp H; obtain ⟨t101,A30,H⟩ := H; replace H : (some t101) = some r := H; have A3 := Aside0.mk A30; clear A30; obtain rfl := Option.some.inj H
  go_enter Tryd.func34,Tryd.ntmps34
  go_wp2_with (first | (go_at_call 47; (with_reducible refine (impl_over.calls a0 (⟨#[97,98,99,100,101,102,103,104,105,106,107,108,109,110,111,112,113,114,115,116,117,118,119,120,121,122]⟩ : ByteArray) t101 _ A3.out).mono ?_); rintro e w4 ⟨rfl,hb⟩; have n0_ := Aside0.mk (below_step (by repeat (first | (with_reducible first | exact HB.out | apply below_alloc | apply pw_below_drewN | apply below_drew1) | exact HB.out)) hb); clear HB; have HB := n0_; clear n0_; (try clear hb); (try clear hb2); (try clear hk); (try clear hi)))
  go_ret
  exact ⟨by first | rfl | (simp [errW_none,errW_some] <;> rfl) | (simp [*,errW_none,errW_some] <;> rfl),by repeat (first | (with_reducible first | exact HB.out | apply below_alloc | apply pw_below_drewN | apply below_drew1) | exact HB.out)⟩
 ·
  rw [if_neg c2] at H; have c2b0 : decide ((a0.size : Int) ≤ 40) = false := decide_eq_false c2; have c2b1 : decide (a0.size ≤ 40) = false := decide_eq_false (by omega); clear c2; obtain rfl := Option.some.inj H
  go_enter Tryd.func34,Tryd.ntmps34
  go_wp2
  go_ret
  exact ⟨by first | rfl | (simp [errW_none,errW_some] <;> rfl) | (simp [*,errW_none,errW_some] <;> rfl),by repeat (first | (with_reducible first | exact HB.out | apply below_alloc | apply pw_below_drewN | apply below_drew1) | exact HB.out)⟩

end Go.Proofs.YtcidlaabbkimdaaDoor.P

-- printed by xprint.py
namespace Go.Proofs.YtcidlaabbkimdaaDoor.P
open Go.RowKit Go.Proofs.YtcidlaabbkimdaaDoorW.PrintWords Go.Proofs.YtcidlaabbkimdaaDoorW.PrintLast Go.Proofs.YtcidlaabbkimdaaDoorW.PrintMore
attribute [local go_sem] max2_int min2_int max_two min_two max_three min_three max_four min_four   -- for this text's walks alone
set_option linter.unusedVariables false
set_option linter.unusedSimpArgs false

/-! ### impl_isText: function 29 -/
def impl_isText.f (a0 : ByteArray) : Option (Bool) := if (a0.size : Int) ≤ 20 then ((impl_over.f a0 (⟨#[97,98,99,100,101,102,103,104,105,106,107,108,109,110,111,112,113,114,115,116,117,118,119,120,121,122]⟩ : ByteArray)).bind fun t101 => (some t101)) else (some false)
set_option maxHeartbeats 8000000 in
set_option maxRecDepth 100000 in
theorem impl_isText.calls (a0 : ByteArray) (r : Bool) (w : World) (h : impl_isText.f a0 = some r) :
  Calls Tryd.prog 29 #[.string a0] w fun e w' => e = .returned (.bool r) ∧ Below w.heap.size w w' := by
 have HB := Aside0.mk (Below.refl w.heap.size w); have H : (if (a0.size : Int) ≤ 20 then ((impl_over.f a0 (⟨#[97,98,99,100,101,102,103,104,105,106,107,108,109,110,111,112,113,114,115,116,117,118,119,120,121,122]⟩ : ByteArray)).bind fun t101 => (some t101)) else (some false)) = some r := h; clear h
 by_cases c2 : (a0.size : Int) ≤ 20
 ·
  rw [if_pos c2] at H; have c2b0 : decide ((a0.size : Int) ≤ 20) = true := decide_eq_true c2; have c2b1 : decide (a0.size ≤ 20) = true := decide_eq_true (by omega); clear c2; replace H := Option.bind_eq_some_iff.mp H; obtain ⟨t101,A30,H⟩ := H; replace H : (some t101) = some r := H; have A3 := Aside0.mk A30; clear A30; obtain rfl := Option.some.inj H
  go_enter Tryd.func29,Tryd.ntmps29
  go_wp2_with (first | (go_at_call 47; (with_reducible refine (impl_over.calls a0 (⟨#[97,98,99,100,101,102,103,104,105,106,107,108,109,110,111,112,113,114,115,116,117,118,119,120,121,122]⟩ : ByteArray) t101 _ A3.out).mono ?_); rintro e w4 ⟨rfl,hb⟩; have n0_ := Aside0.mk (below_step (by repeat (first | (with_reducible first | exact HB.out | apply below_alloc | apply pw_below_drewN | apply below_drew1) | exact HB.out)) hb); clear HB; have HB := n0_; clear n0_; (try clear hb); (try clear hb2); (try clear hk); (try clear hi)))
  go_ret
  exact ⟨by first | rfl | (simp [errW_none,errW_some] <;> rfl) | (simp [*,errW_none,errW_some] <;> rfl),by repeat (first | (with_reducible first | exact HB.out | apply below_alloc | apply pw_below_drewN | apply below_drew1) | exact HB.out)⟩
 ·
  rw [if_neg c2] at H; have c2b0 : decide ((a0.size : Int) ≤ 20) = false := decide_eq_false c2; have c2b1 : decide (a0.size ≤ 20) = false := decide_eq_false (by omega); clear c2; obtain rfl := Option.some.inj H
  go_enter Tryd.func29,Tryd.ntmps29
  go_wp2
  go_ret
  exact ⟨by first | rfl | (simp [errW_none,errW_some] <;> rfl) | (simp [*,errW_none,errW_some] <;> rfl),by repeat (first | (with_reducible first | exact HB.out | apply below_alloc | apply pw_below_drewN | apply below_drew1) | exact HB.out)⟩

end Go.Proofs.YtcidlaabbkimdaaDoor.P

-- printed by xprint.py
namespace Go.Proofs.YtcidlaabbkimdaaDoor.P
open Go.RowKit Go.Proofs.YtcidlaabbkimdaaDoorW.PrintWords Go.Proofs.YtcidlaabbkimdaaDoorW.PrintLast Go.Proofs.YtcidlaabbkimdaaDoorW.PrintMore
attribute [local go_sem] max2_int min2_int max_two min_two max_three min_three max_four min_four   -- for this text's walks alone
set_option linter.unusedVariables false
set_option linter.unusedSimpArgs false

/-! ### strings_IndexByte: function 52 -/
def strings_IndexByte.f (a0 : ByteArray) (a1 : Int) : Option Int := some (Lib.indexByte a0.data.toList a1.toNat.toUInt8)
end Go.Proofs.YtcidlaabbkimdaaDoor.P
namespace Go.Proofs
open Go.Shelf
def YtcidlaabbkimdaaDoorlaysIndexByte_ren : Go.Shelf.Ren := ⟨fun | 137 => 52 | 217 => 66 | 266 => 88 | n => n, fun | 9 => 9 | 5 => 5 | 3 => 3 | n => n, fun | n => n⟩
theorem YtcidlaabbkimdaaDoorlaysIndexByte : Go.Proofs.Lays.n137 Tryd.prog YtcidlaabbkimdaaDoorlaysIndexByte_ren := {
  mixed := by kernel_rfl
  f137 := Tryd.func52.trans (congrArg some (by kernel_rfl))
  f217 := Tryd.func66.trans (congrArg some (by kernel_rfl))
  f266 := Tryd.func88.trans (congrArg some (by kernel_rfl))
  t3 := Tryd.underlying3
  a3 := Tryd.isAgg3
  z3 := Tryd.sizeOf3
  v3 := Tryd.zeroValue3
  t5 := Tryd.underlying5
  a5 := Tryd.isAgg5
  z5 := Tryd.sizeOf5
  v5 := Tryd.zeroValue5
  t9 := Tryd.underlying9
  a9 := Tryd.isAgg9
  z9 := Tryd.sizeOf9
  v9 := Tryd.zeroValue9 }
end Go.Proofs
namespace Go.Proofs.YtcidlaabbkimdaaDoor.P
open Go.RowKit Go.Proofs.YtcidlaabbkimdaaDoorW.PrintWords Go.Proofs.YtcidlaabbkimdaaDoorW.PrintLast Go.Proofs.YtcidlaabbkimdaaDoorW.PrintMore
theorem strings_IndexByte.calls (a0 : ByteArray) (a1 : Int) (r : Int) (w : World) (h : strings_IndexByte.f a0 a1 = some r) :
  Calls Tryd.prog 52 #[.string a0,.int .u8 a1] w fun e w' => e = .returned (.int .i64 r) ∧ Drawn0 w w' := by
 obtain rfl := Option.some.inj h; have hcon := Any.strings_IndexByte YtcidlaabbkimdaaDoorlaysIndexByte a0 a1 w
 change Calls Tryd.prog 52 _ _ _ at hcon
 exact hcon.mono fun e w' he => ⟨he.1,by rw [he.2]; exact Drawn0.refl _⟩

end Go.Proofs.YtcidlaabbkimdaaDoor.P

-- printed by xprint.py
namespace Go.Proofs.YtcidlaabbkimdaaDoor.P
open Go.RowKit Go.Proofs.YtcidlaabbkimdaaDoorW.PrintWords Go.Proofs.YtcidlaabbkimdaaDoorW.PrintLast Go.Proofs.YtcidlaabbkimdaaDoorW.PrintMore
attribute [local go_sem] max2_int min2_int max_two min_two max_three min_three max_four min_four   -- for this text's walks alone
set_option linter.unusedVariables false
set_option linter.unusedSimpArgs false

/-! ### impl_shownText: function 36 -/
def impl_shownText.l0 : Nat → ByteArray → ByteArray → ByteArray → List Int → Int → Int → Option (ByteArray)
 | 0,_,_,_,_,_,_ => none
 | k + 1,x0,x1,x2,x7,x12,x13 => if x13 < x12 then (if 0 ≤ x13 then (if x13 < (x0.size : Int) then ((strings_IndexByte.f x1 (bt x0 x13)).bind fun t104 => (if t104 < 0 then (if x7.length < 140737488355328 then ((some (x7 ++ [bt x0 x13] : List Int)).bind fun y105 => ((strings_IndexByte.f x2 (bt x0 x13)).bind fun t108 => (if t108 ≥ 0 then (if y105.length < 140737488355328 then (impl_shownText.l0 k x0 x1 x2 (y105 ++ [bt x0 x13]) x12 (wrap64 (x13 + 1))) else (none)) else (impl_shownText.l0 k x0 x1 x2 y105 x12 (wrap64 (x13 + 1)))))) else (none)) else ((strings_IndexByte.f x2 (bt x0 x13)).bind fun t112 => (if t112 ≥ 0 then (if x7.length < 140737488355328 then (impl_shownText.l0 k x0 x1 x2 (x7 ++ [bt x0 x13]) x12 (wrap64 (x13 + 1))) else (none)) else (impl_shownText.l0 k x0 x1 x2 x7 x12 (wrap64 (x13 + 1))))))) else (none)) else (none)) else (some (strOfNums x7))
def impl_shownText.f (k : Nat) (a0 : ByteArray) (a1 : ByteArray) (a2 : ByteArray) : Option (ByteArray) := impl_shownText.l0 k a0 a1 a2 (([] : List Int)) (a0.size : Int) 0
theorem impl_shownText.mono_l : ∀ k,(∀ y0 y1 y2 y3 y4 y5,LeO (impl_shownText.l0 k y0 y1 y2 y3 y4 y5) (impl_shownText.l0 (k + 1) y0 y1 y2 y3 y4 y5))
 | 0 => by intros; intro r h; simp [impl_shownText.l0] at h
 | k + 1 => by
  have ih0 := impl_shownText.mono_l k
  ·
   intro y0 y1 y2 y3 y4 y5
   unfold impl_shownText.l0
   repeat' first
   | (with_reducible exact ih0 _ _ _ _ _ _)
   | (with_reducible exact LeO.refl _)
   | (with_reducible exact LeO.none _)
   | (with_reducible refine LeO.ite ?_ ?_)
   | (with_reducible refine LeO.bind ?_ (fun _ => ?_))
   | exact ih0 _ _ _ _ _ _
   | exact LeO.none _
   | refine LeO.ite ?_ ?_
   | refine LeO.bind ?_ (fun _ => ?_)
theorem impl_shownText.mono : ∀ y0 y1 y2 k,LeO (impl_shownText.f k y0 y1 y2) (impl_shownText.f (k + 1) y0 y1 y2) := by
 intro y0 y1 y2 k; have ih0 := impl_shownText.mono_l k
 unfold impl_shownText.f
 repeat' first
   | (with_reducible exact ih0 _ _ _ _ _ _)
   | (with_reducible exact LeO.refl _)
   | (with_reducible exact LeO.none _)
   | (with_reducible refine LeO.ite ?_ ?_)
   | (with_reducible refine LeO.bind ?_ (fun _ => ?_))
   | exact ih0 _ _ _ _ _ _
   | exact LeO.none _
   | refine LeO.ite ?_ ?_
   | refine LeO.bind ?_ (fun _ => ?_)
set_option maxHeartbeats 8000000 in
set_option maxRecDepth 100000 in
theorem impl_shownText.calls (k : Nat) (a0 : ByteArray) (a1 : ByteArray) (a2 : ByteArray) (r : ByteArray) (w : World) (h : impl_shownText.f k a0 a1 a2 = some r) :
  Calls Tryd.prog 36 #[.string a0,.string a1,.string a2] w fun e w' => e = .returned (.string r) ∧ Below w.heap.size w w' := by
 have HB := Aside0.mk (Below.refl w.heap.size w); have H : (impl_shownText.l0 k a0 a1 a2 (([] : List Int)) (a0.size : Int) 0) = some r := h; clear h; obtain ⟨y101,hy101⟩ : ∃ y_ : List Int,y_ = (([] : List Int)) := ⟨_,rfl⟩; replace H : (impl_shownText.l0 k a0 a1 a2 y101 (a0.size : Int) 0) = some r := by first | (rw [hy101]; with_reducible exact H) | (have H2_ := (Option.bind_some _ _).symm.trans H; rw [hy101]; with_reducible exact H2_) | (have H2_ := (Option.bind_some _ _).symm.trans H; with_reducible exact H2_) | with_reducible exact H | (rw [hy101]; exact H) | exact H
 have Ny101 := Aside0.mk hy101; clear hy101; have H' := Aside0.mk H; clear H
 go_enter Tryd.func36,Tryd.ntmps36
 go_wp2_with (first | ((with_reducible refine gate_dst (N := 10) rfl ?_); refine Kd.R_lit (Kd.int .u8) _ 5 ?hg (N := 10) ?hd (xs := ([] : List Int)) (inner := []) (ok := fun _ => True) (okp := fun _ => True) ?hr ?hp (fun _ hk => hk) trivial (Below.refl _ _) (Nat.le_refl _) (by simp) ?_; (case hd => rfl); (case hg => rfl); (case hr => first | (go_simp; done) | (go_simp; rfl)); (case hp => exact (Reps.none _ _)); intro v102 w4 ho5 hb hg_ hnew_; clear hg_ hnew_; (first | rw [← Ny101.out] at ho5 | (simp only [Int.reduceToNat] at ho5; rw [← Ny101.out] at ho5)); have n0_ := Aside0.mk (Kd.R_lower ho5 (below_size (by repeat (first | (with_reducible first | exact HB.out | apply below_alloc | apply pw_below_drewN | apply below_drew1) | exact HB.out)))); have n1_ := Aside0.mk (below_step (by repeat (first | (with_reducible first | exact HB.out | apply below_alloc | apply pw_below_drewN | apply below_drew1) | exact HB.out)) hb); clear HB; have HO103 := n0_; have HB := n1_; clear n0_ n1_; clear hb ho5))
 go_loopg [7,13] k (fun kq v7 v13 w' => ∃ (x7_1 : List Int) (x13_1 : Int),v13 = .int .i64 x13_1 ∧ Aside0 (impl_shownText.l0 kq a0 a1 a2 x7_1 (a0.size : Int) x13_1 = some r) ∧ Aside0 (kq ≤ k) ∧ Aside0 (Kd.R (Kd.int .u8) 5 w' w.heap.size (fun _ => True) v7 x7_1) ∧ Aside0 (Below w.heap.size w w'))
 case atStart => exact ⟨(y101),(0),(by first | rfl | (simp; done) | (simp [*]; done)),H',⟨Nat.le_refl _⟩,⟨by (with_reducible repeat (first | apply Kd.R_alloc | apply Kd.R_drewN | apply Kd.R_drew)); exact HO103.out⟩,⟨by repeat (first | (with_reducible first | exact HB.out | apply below_alloc | apply pw_below_drewN | apply below_drew1) | exact HB.out)⟩⟩
 case round =>
  clear H'; try clear p2
  try clear c3
  obtain ⟨x7_1,x13_1,rfl,HA,HK1,HO_7,HB⟩ := hrel
  cases gk with
  | zero => exact absurd HA.out (by simp [impl_shownText.l0])
  | succ k1 =>
   have H := HA.out; clear HA; simp only [impl_shownText.l0] at H
   by_cases c6 : x13_1 < (a0.size : Int)
   ·
    rw [if_pos c6] at H; have c6b0 : decide (x13_1 < (a0.size : Int)) = true := decide_eq_true c6; clear c6
    by_cases c7 : 0 ≤ x13_1
    ·
     rw [if_pos c7] at H; have c7b0 : decide (0 ≤ x13_1) = true := decide_eq_true c7; clear c7
     by_cases c8 : x13_1 < (a0.size : Int)
     ·
      rw [if_pos c8] at H; have c8b0 : decide (x13_1 < (a0.size : Int)) = true := decide_eq_true c8; clear c8; replace H := Option.bind_eq_some_iff.mp H; obtain ⟨t104,A100,H⟩ := H; replace H : (if t104 < 0 then (if x7_1.length < 140737488355328 then ((some (x7_1 ++ [bt a0 x13_1] : List Int)).bind fun y105 => ((strings_IndexByte.f a2 (bt a0 x13_1)).bind fun t108 => (if t108 ≥ 0 then (if y105.length < 140737488355328 then (impl_shownText.l0 k1 a0 a1 a2 (y105 ++ [bt a0 x13_1]) (a0.size : Int) (wrap64 (x13_1 + 1))) else (none)) else (impl_shownText.l0 k1 a0 a1 a2 y105 (a0.size : Int) (wrap64 (x13_1 + 1)))))) else (none)) else ((strings_IndexByte.f a2 (bt a0 x13_1)).bind fun t112 => (if t112 ≥ 0 then (if x7_1.length < 140737488355328 then (impl_shownText.l0 k1 a0 a1 a2 (x7_1 ++ [bt a0 x13_1]) (a0.size : Int) (wrap64 (x13_1 + 1))) else (none)) else (impl_shownText.l0 k1 a0 a1 a2 x7_1 (a0.size : Int) (wrap64 (x13_1 + 1)))))) = some r := H; have A10 := Aside0.mk A100; clear A100
      by_cases c11 : t104 < 0
      ·
       rw [if_pos c11] at H; have c11b0 : decide (t104 < 0) = true := decide_eq_true c11; clear c11
       by_cases c12 : x7_1.length < 140737488355328
       ·
        rw [if_pos c12] at H; have LMc12 := Aside0.mk c12; clear c12; obtain ⟨y105,hy105⟩ : ∃ y_ : List Int,y_ = (x7_1 ++ [bt a0 x13_1]) := ⟨_,rfl⟩; replace H : ((strings_IndexByte.f a2 (bt a0 x13_1)).bind fun t108 => (if t108 ≥ 0 then (if y105.length < 140737488355328 then (impl_shownText.l0 k1 a0 a1 a2 (y105 ++ [bt a0 x13_1]) (a0.size : Int) (wrap64 (x13_1 + 1))) else (none)) else (impl_shownText.l0 k1 a0 a1 a2 y105 (a0.size : Int) (wrap64 (x13_1 + 1))))) = some r := by first | (rw [hy105]; with_reducible exact H) | (have H2_ := (Option.bind_some _ _).symm.trans H; rw [hy105]; with_reducible exact H2_) | (have H2_ := (Option.bind_some _ _).symm.trans H; with_reducible exact H2_) | with_reducible exact H | (rw [hy105]; exact H) | exact H
        have Ny105 := Aside0.mk hy105; clear hy105; replace H := Option.bind_eq_some_iff.mp H; obtain ⟨t108,A130,H⟩ := H; replace H : (if t108 ≥ 0 then (if y105.length < 140737488355328 then (impl_shownText.l0 k1 a0 a1 a2 (y105 ++ [bt a0 x13_1]) (a0.size : Int) (wrap64 (x13_1 + 1))) else (none)) else (impl_shownText.l0 k1 a0 a1 a2 y105 (a0.size : Int) (wrap64 (x13_1 + 1)))) = some r := H; have A13 := Aside0.mk A130; clear A130
        by_cases c14 : t108 ≥ 0
        ·
         rw [if_pos c14] at H; have c14b0 : decide (0 ≤ t108) = true := decide_eq_true c14; clear c14
         by_cases c15 : y105.length < 140737488355328
         ·
          rw [if_pos c15] at H; have LMc15 := Aside0.mk c15; clear c15; obtain ⟨y109,hy109⟩ : ∃ y_ : List Int,y_ = (y105 ++ [bt a0 x13_1]) := ⟨_,rfl⟩; replace H : (impl_shownText.l0 k1 a0 a1 a2 y109 (a0.size : Int) (wrap64 (x13_1 + 1))) = some r := by first | (rw [hy109]; with_reducible exact H) | (have H2_ := (Option.bind_some _ _).symm.trans H; rw [hy109]; with_reducible exact H2_) | (have H2_ := (Option.bind_some _ _).symm.trans H; with_reducible exact H2_) | with_reducible exact H | (rw [hy109]; exact H) | exact H
          have Ny109 := Aside0.mk hy109; clear hy109; have H' := Aside0.mk H; clear H; have p9 : 0 ≤ (x13_1 : Int) := of_decide_eq_true (by first | (with_reducible assumption) | assumption); have q9 : x13_1 < (a0.size : Int) := of_decide_eq_true (by first | (with_reducible assumption) | assumption); have hx9 := bt_at a0 x13_1; replace p9 := eq_true p9; replace q9 := eq_true q9; go_wp2_with (first | ((with_reducible refine gate_callee (f := 52) rfl ?_); refine goesL_ (some 21) rfl rfl Tryd.func52 (by kernel_rfl) rfl #[.string a1,.int .u8 (bt a0 x13_1)] rfl (by (try simp only [List.map_toArray,List.map_cons,List.map_nil]); first | done | rfl | (simp only [List.length_drop,List.length_take]; rfl)) ?_; (with_reducible refine (strings_IndexByte.calls a1 (bt a0 x13_1) t104 _ A10.out).mono ?_); rintro e w' ⟨rfl,⟨nd,rfl⟩⟩; refine ⟨_,rfl,?_⟩) | ((with_reducible refine gate_builtin (b := .append) (xs := #[.tmp 23,.tmp 25]) rfl ?_); at_builtin; refine Kd.R_append (Kd.int .u8) (w0 := w) w.heap.size rfl (.tmp 23) (.tmp 25) 48 5 (.int .u8 0) 1 rfl Tryd.underlying48 info5 rfl (by decide) (by omega) u7 x7_1 (bt a0 x13_1) [.int .u8 (bt a0 x13_1)] (fun _ => True) (fun _ => False) rfl rfl ?aP (fun _ hk => hk.elim) ?aF ?aO ?aB ?aS ?aL ?_; (case aP => exact rfl); (case aB => exact (by repeat (first | (with_reducible first | exact HB.out | apply below_alloc | apply pw_below_drewN | apply below_drew1) | exact HB.out))); (case aF => exact (fun _ _ => trivial)); (case aO => exact (by (with_reducible repeat (first | apply Kd.R_alloc | apply Kd.R_drewN | apply Kd.R_drew)); exact HO_7.out)); (case aS => exact (below_size (by repeat (first | (with_reducible first | exact HB.out | apply below_alloc | apply pw_below_drewN | apply below_drew1) | exact HB.out)))); (case aL => have := LMc12.out; omega); intro v106 w16 ho hb hg hat; rw [← Ny105.out] at ho; have n0_ := Aside0.mk (hb); have n1_ := Aside0.mk (ho); clear HB; clear HO_7; have HB := n0_; have HO107 := n1_; clear n0_ n1_; clear ho hb hg hat) | ((with_reducible refine gate_callee (f := 52) rfl ?_); refine goesL_ (some 29) rfl rfl Tryd.func52 (by kernel_rfl) rfl #[.string a2,.int .u8 (bt a0 x13_1)] rfl (by (try simp only [List.map_toArray,List.map_cons,List.map_nil]); first | done | rfl | (simp only [List.length_drop,List.length_take]; rfl)) ?_; (with_reducible refine (strings_IndexByte.calls a2 (bt a0 x13_1) t108 _ A13.out).mono ?_); rintro e w' ⟨rfl,⟨nd,rfl⟩⟩; refine ⟨_,rfl,?_⟩) | ((with_reducible refine gate_builtin (b := .append) (xs := #[.tmp 31,.tmp 33]) rfl ?_); at_builtin; refine Kd.R_append (Kd.int .u8) (w0 := w) w.heap.size rfl (.tmp 31) (.tmp 33) 48 5 (.int .u8 0) 1 rfl Tryd.underlying48 info5 rfl (by decide) (by omega) v106 y105 (bt a0 x13_1) [.int .u8 (bt a0 x13_1)] (fun _ => True) (fun _ => False) rfl rfl ?aP (fun _ hk => hk.elim) ?aF ?aO ?aB ?aS ?aL ?_; (case aP => exact rfl); (case aB => exact (by repeat (first | (with_reducible first | exact HB.out | apply below_alloc | apply pw_below_drewN | apply below_drew1) | exact HB.out))); (case aF => exact (fun _ _ => trivial)); (case aO => exact (by (with_reducible repeat (first | apply Kd.R_alloc | apply Kd.R_drewN | apply Kd.R_drew)); exact HO107.out)); (case aS => exact (below_size (by repeat (first | (with_reducible first | exact HB.out | apply below_alloc | apply pw_below_drewN | apply below_drew1) | exact HB.out)))); (case aL => have := LMc15.out; omega); intro v110 w17 ho hb hg hat; rw [← Ny109.out] at ho; have n0_ := Aside0.mk (hb); have n1_ := Aside0.mk (ho); clear HB; clear HO107; have HB := n0_; have HO111 := n1_; clear n0_ n1_; clear ho hb hg hat))
          go_roundg k1
          case measure => have := HK1.out; omega
          case rel => exact ⟨(y109),(wrap64 (x13_1 + 1)),(by first | rfl | (simp; done) | (simp [*]; done)),H',⟨by have := HK1.out; omega⟩,⟨by (with_reducible repeat (first | apply Kd.R_alloc | apply Kd.R_drewN | apply Kd.R_drew)); exact HO111.out⟩,⟨by repeat (first | (with_reducible first | exact HB.out | apply below_alloc | apply pw_below_drewN | apply below_drew1) | exact HB.out)⟩⟩
         · rw [if_neg c15] at H; exact absurd H (by simp)
        ·
         rw [if_neg c14] at H; have c14b0 : decide (0 ≤ t108) = false := decide_eq_false c14; clear c14; have H' := Aside0.mk H; clear H; have p9 : 0 ≤ (x13_1 : Int) := of_decide_eq_true (by first | (with_reducible assumption) | assumption); have q9 : x13_1 < (a0.size : Int) := of_decide_eq_true (by first | (with_reducible assumption) | assumption); have hx9 := bt_at a0 x13_1; replace p9 := eq_true p9; replace q9 := eq_true q9; go_wp2_with (first | ((with_reducible refine gate_callee (f := 52) rfl ?_); refine goesL_ (some 21) rfl rfl Tryd.func52 (by kernel_rfl) rfl #[.string a1,.int .u8 (bt a0 x13_1)] rfl (by (try simp only [List.map_toArray,List.map_cons,List.map_nil]); first | done | rfl | (simp only [List.length_drop,List.length_take]; rfl)) ?_; (with_reducible refine (strings_IndexByte.calls a1 (bt a0 x13_1) t104 _ A10.out).mono ?_); rintro e w' ⟨rfl,⟨nd,rfl⟩⟩; refine ⟨_,rfl,?_⟩) | ((with_reducible refine gate_builtin (b := .append) (xs := #[.tmp 23,.tmp 25]) rfl ?_); at_builtin; refine Kd.R_append (Kd.int .u8) (w0 := w) w.heap.size rfl (.tmp 23) (.tmp 25) 48 5 (.int .u8 0) 1 rfl Tryd.underlying48 info5 rfl (by decide) (by omega) u7 x7_1 (bt a0 x13_1) [.int .u8 (bt a0 x13_1)] (fun _ => True) (fun _ => False) rfl rfl ?aP (fun _ hk => hk.elim) ?aF ?aO ?aB ?aS ?aL ?_; (case aP => exact rfl); (case aB => exact (by repeat (first | (with_reducible first | exact HB.out | apply below_alloc | apply pw_below_drewN | apply below_drew1) | exact HB.out))); (case aF => exact (fun _ _ => trivial)); (case aO => exact (by (with_reducible repeat (first | apply Kd.R_alloc | apply Kd.R_drewN | apply Kd.R_drew)); exact HO_7.out)); (case aS => exact (below_size (by repeat (first | (with_reducible first | exact HB.out | apply below_alloc | apply pw_below_drewN | apply below_drew1) | exact HB.out)))); (case aL => have := LMc12.out; omega); intro v106 w18 ho hb hg hat; rw [← Ny105.out] at ho; have n0_ := Aside0.mk (hb); have n1_ := Aside0.mk (ho); clear HB; clear HO_7; have HB := n0_; have HO107 := n1_; clear n0_ n1_; clear ho hb hg hat) | ((with_reducible refine gate_callee (f := 52) rfl ?_); refine goesL_ (some 29) rfl rfl Tryd.func52 (by kernel_rfl) rfl #[.string a2,.int .u8 (bt a0 x13_1)] rfl (by (try simp only [List.map_toArray,List.map_cons,List.map_nil]); first | done | rfl | (simp only [List.length_drop,List.length_take]; rfl)) ?_; (with_reducible refine (strings_IndexByte.calls a2 (bt a0 x13_1) t108 _ A13.out).mono ?_); rintro e w' ⟨rfl,⟨nd,rfl⟩⟩; refine ⟨_,rfl,?_⟩))
         go_roundg k1
         case measure => have := HK1.out; omega
         case rel => exact ⟨(y105),(wrap64 (x13_1 + 1)),(by first | rfl | (simp; done) | (simp [*]; done)),H',⟨by have := HK1.out; omega⟩,⟨by (with_reducible repeat (first | apply Kd.R_alloc | apply Kd.R_drewN | apply Kd.R_drew)); exact HO107.out⟩,⟨by repeat (first | (with_reducible first | exact HB.out | apply below_alloc | apply pw_below_drewN | apply below_drew1) | exact HB.out)⟩⟩
       · rw [if_neg c12] at H; exact absurd H (by simp)
      ·
       rw [if_neg c11] at H; have c11b0 : decide (t104 < 0) = false := decide_eq_false c11; clear c11; replace H := Option.bind_eq_some_iff.mp H; obtain ⟨t112,A190,H⟩ := H; replace H : (if t112 ≥ 0 then (if x7_1.length < 140737488355328 then (impl_shownText.l0 k1 a0 a1 a2 (x7_1 ++ [bt a0 x13_1]) (a0.size : Int) (wrap64 (x13_1 + 1))) else (none)) else (impl_shownText.l0 k1 a0 a1 a2 x7_1 (a0.size : Int) (wrap64 (x13_1 + 1)))) = some r := H; have A19 := Aside0.mk A190; clear A190
       by_cases c20 : t112 ≥ 0
       ·
        rw [if_pos c20] at H; have c20b0 : decide (0 ≤ t112) = true := decide_eq_true c20; clear c20
        by_cases c21 : x7_1.length < 140737488355328
        ·
         rw [if_pos c21] at H; have LMc21 := Aside0.mk c21; clear c21; obtain ⟨y113,hy113⟩ : ∃ y_ : List Int,y_ = (x7_1 ++ [bt a0 x13_1]) := ⟨_,rfl⟩; replace H : (impl_shownText.l0 k1 a0 a1 a2 y113 (a0.size : Int) (wrap64 (x13_1 + 1))) = some r := by first | (rw [hy113]; with_reducible exact H) | (have H2_ := (Option.bind_some _ _).symm.trans H; rw [hy113]; with_reducible exact H2_) | (have H2_ := (Option.bind_some _ _).symm.trans H; with_reducible exact H2_) | with_reducible exact H | (rw [hy113]; exact H) | exact H
         have Ny113 := Aside0.mk hy113; clear hy113; have H' := Aside0.mk H; clear H; have p9 : 0 ≤ (x13_1 : Int) := of_decide_eq_true (by first | (with_reducible assumption) | assumption); have q9 : x13_1 < (a0.size : Int) := of_decide_eq_true (by first | (with_reducible assumption) | assumption); have hx9 := bt_at a0 x13_1; replace p9 := eq_true p9; replace q9 := eq_true q9; go_wp2_with (first | ((with_reducible refine gate_callee (f := 52) rfl ?_); refine goesL_ (some 21) rfl rfl Tryd.func52 (by kernel_rfl) rfl #[.string a1,.int .u8 (bt a0 x13_1)] rfl (by (try simp only [List.map_toArray,List.map_cons,List.map_nil]); first | done | rfl | (simp only [List.length_drop,List.length_take]; rfl)) ?_; (with_reducible refine (strings_IndexByte.calls a1 (bt a0 x13_1) t104 _ A10.out).mono ?_); rintro e w' ⟨rfl,⟨nd,rfl⟩⟩; refine ⟨_,rfl,?_⟩) | ((with_reducible refine gate_callee (f := 52) rfl ?_); refine goesL_ (some 29) rfl rfl Tryd.func52 (by kernel_rfl) rfl #[.string a2,.int .u8 (bt a0 x13_1)] rfl (by (try simp only [List.map_toArray,List.map_cons,List.map_nil]); first | done | rfl | (simp only [List.length_drop,List.length_take]; rfl)) ?_; (with_reducible refine (strings_IndexByte.calls a2 (bt a0 x13_1) t112 _ A19.out).mono ?_); rintro e w' ⟨rfl,⟨nd,rfl⟩⟩; refine ⟨_,rfl,?_⟩) | ((with_reducible refine gate_builtin (b := .append) (xs := #[.tmp 31,.tmp 33]) rfl ?_); at_builtin; refine Kd.R_append (Kd.int .u8) (w0 := w) w.heap.size rfl (.tmp 31) (.tmp 33) 48 5 (.int .u8 0) 1 rfl Tryd.underlying48 info5 rfl (by decide) (by omega) u7 x7_1 (bt a0 x13_1) [.int .u8 (bt a0 x13_1)] (fun _ => True) (fun _ => False) rfl rfl ?aP (fun _ hk => hk.elim) ?aF ?aO ?aB ?aS ?aL ?_; (case aP => exact rfl); (case aB => exact (by repeat (first | (with_reducible first | exact HB.out | apply below_alloc | apply pw_below_drewN | apply below_drew1) | exact HB.out))); (case aF => exact (fun _ _ => trivial)); (case aO => exact (by (with_reducible repeat (first | apply Kd.R_alloc | apply Kd.R_drewN | apply Kd.R_drew)); exact HO_7.out)); (case aS => exact (below_size (by repeat (first | (with_reducible first | exact HB.out | apply below_alloc | apply pw_below_drewN | apply below_drew1) | exact HB.out)))); (case aL => have := LMc21.out; omega); intro v114 w22 ho hb hg hat; rw [← Ny113.out] at ho; have n0_ := Aside0.mk (hb); have n1_ := Aside0.mk (ho); clear HB; clear HO_7; have HB := n0_; have HO115 := n1_; clear n0_ n1_; clear ho hb hg hat))
         go_roundg k1
         case measure => have := HK1.out; omega
         case rel => exact ⟨(y113),(wrap64 (x13_1 + 1)),(by first | rfl | (simp; done) | (simp [*]; done)),H',⟨by have := HK1.out; omega⟩,⟨by (with_reducible repeat (first | apply Kd.R_alloc | apply Kd.R_drewN | apply Kd.R_drew)); exact HO115.out⟩,⟨by repeat (first | (with_reducible first | exact HB.out | apply below_alloc | apply pw_below_drewN | apply below_drew1) | exact HB.out)⟩⟩
        · rw [if_neg c21] at H; exact absurd H (by simp)
       ·
        rw [if_neg c20] at H; have c20b0 : decide (0 ≤ t112) = false := decide_eq_false c20; clear c20; have H' := Aside0.mk H; clear H; have p9 : 0 ≤ (x13_1 : Int) := of_decide_eq_true (by first | (with_reducible assumption) | assumption); have q9 : x13_1 < (a0.size : Int) := of_decide_eq_true (by first | (with_reducible assumption) | assumption); have hx9 := bt_at a0 x13_1; replace p9 := eq_true p9; replace q9 := eq_true q9; go_wp2_with (first | ((with_reducible refine gate_callee (f := 52) rfl ?_); refine goesL_ (some 21) rfl rfl Tryd.func52 (by kernel_rfl) rfl #[.string a1,.int .u8 (bt a0 x13_1)] rfl (by (try simp only [List.map_toArray,List.map_cons,List.map_nil]); first | done | rfl | (simp only [List.length_drop,List.length_take]; rfl)) ?_; (with_reducible refine (strings_IndexByte.calls a1 (bt a0 x13_1) t104 _ A10.out).mono ?_); rintro e w' ⟨rfl,⟨nd,rfl⟩⟩; refine ⟨_,rfl,?_⟩) | ((with_reducible refine gate_callee (f := 52) rfl ?_); refine goesL_ (some 29) rfl rfl Tryd.func52 (by kernel_rfl) rfl #[.string a2,.int .u8 (bt a0 x13_1)] rfl (by (try simp only [List.map_toArray,List.map_cons,List.map_nil]); first | done | rfl | (simp only [List.length_drop,List.length_take]; rfl)) ?_; (with_reducible refine (strings_IndexByte.calls a2 (bt a0 x13_1) t112 _ A19.out).mono ?_); rintro e w' ⟨rfl,⟨nd,rfl⟩⟩; refine ⟨_,rfl,?_⟩))
        go_roundg k1
        case measure => have := HK1.out; omega
        case rel => exact ⟨(x7_1),(wrap64 (x13_1 + 1)),(by first | rfl | (simp; done) | (simp [*]; done)),H',⟨by have := HK1.out; omega⟩,⟨by (with_reducible repeat (first | apply Kd.R_alloc | apply Kd.R_drewN | apply Kd.R_drew)); exact HO_7.out⟩,⟨by repeat (first | (with_reducible first | exact HB.out | apply below_alloc | apply pw_below_drewN | apply below_drew1) | exact HB.out)⟩⟩
     · rw [if_neg c8] at H; exact absurd H (by simp)
    · rw [if_neg c7] at H; exact absurd H (by simp)
   ·
    rw [if_neg c6] at H; have c6b0 : decide (x13_1 < (a0.size : Int)) = false := decide_eq_false c6; clear c6; obtain rfl := Option.some.inj H; have hcv23 := own_string (P := Tryd.prog) Tryd.underlying48 Tryd.underlying5 Tryd.underlying9 (Kd.own_of_R HO_7.out); go_wp2
    go_ret
    exact ⟨by first | rfl | (simp [errW_none,errW_some] <;> rfl) | (simp [*,errW_none,errW_some] <;> rfl),by repeat (first | (with_reducible first | exact HB.out | apply below_alloc | apply pw_below_drewN | apply below_drew1) | exact HB.out)⟩

end Go.Proofs.YtcidlaabbkimdaaDoor.P

-- printed by xprint.py
namespace Go.Proofs.YtcidlaabbkimdaaDoor.P
open Go.RowKit Go.Proofs.YtcidlaabbkimdaaDoorW.PrintWords Go.Proofs.YtcidlaabbkimdaaDoorW.PrintLast Go.Proofs.YtcidlaabbkimdaaDoorW.PrintMore
attribute [local go_sem] max2_int min2_int max_two min_two max_three min_three max_four min_four   -- for this text's walks alone
set_option linter.unusedVariables false
set_option linter.unusedSimpArgs false

/-! ### impl_StuckFor: function 19 -/
def impl_StuckFor.j0 : Nat → ByteArray → ByteArray → Bool → Option (ByteArray × Bool)
 | 0,_,_,_ => none
 | k + 1,x0,x1,x15 => if x15 = true then (some ((⟨#[]⟩ : ByteArray),false)) else ((impl_brokenFor.f k x0 x1).bind fun bt103 => ((impl_shownText.f k x0 (⟨#[]⟩ : ByteArray) bt103.2).bind fun t105 => (if t105.toList = x1.toList then (some (bt103.2,true)) else (some ((⟨#[]⟩ : ByteArray),false)))))
def impl_StuckFor.f (k : Nat) (a0 : ByteArray) (a1 : ByteArray) : Option (ByteArray × Bool) := (impl_isText.f a0).bind fun t101 => (if t101 = true then ((impl_isShown.f a1).bind fun t102 => (impl_StuckFor.j0 k a0 a1 (!t102))) else (impl_StuckFor.j0 k a0 a1 true))
theorem impl_StuckFor.mono_l : ∀ k,(∀ y0 y1 y2,LeO (impl_StuckFor.j0 k y0 y1 y2) (impl_StuckFor.j0 (k + 1) y0 y1 y2))
 | 0 => by intros; intro r h; simp [impl_StuckFor.j0] at h
 | k + 1 => by
  have ih0 := impl_StuckFor.mono_l k
  ·
   intro y0 y1 y2
   unfold impl_StuckFor.j0
   repeat' first
   | (with_reducible exact ih0 _ _ _)
   | (with_reducible exact impl_brokenFor.mono _ _ _)
   | (with_reducible exact impl_shownText.mono _ _ _ _)
   | (with_reducible exact LeO.refl _)
   | (with_reducible exact LeO.none _)
   | (with_reducible refine LeO.ite ?_ ?_)
   | (with_reducible refine LeO.bind ?_ (fun _ => ?_))
   | exact ih0 _ _ _
   | exact impl_brokenFor.mono _ _ _
   | exact impl_shownText.mono _ _ _ _
   | exact LeO.none _
   | refine LeO.ite ?_ ?_
   | refine LeO.bind ?_ (fun _ => ?_)
theorem impl_StuckFor.mono : ∀ y0 y1 k,LeO (impl_StuckFor.f k y0 y1) (impl_StuckFor.f (k + 1) y0 y1) := by
 intro y0 y1 k; have ih0 := impl_StuckFor.mono_l k
 unfold impl_StuckFor.f
 repeat' first
   | (with_reducible exact ih0 _ _ _)
   | (with_reducible exact impl_brokenFor.mono _ _ _)
   | (with_reducible exact impl_shownText.mono _ _ _ _)
   | (with_reducible exact LeO.refl _)
   | (with_reducible exact LeO.none _)
   | (with_reducible refine LeO.ite ?_ ?_)
   | (with_reducible refine LeO.bind ?_ (fun _ => ?_))
   | exact ih0 _ _ _
   | exact impl_brokenFor.mono _ _ _
   | exact impl_shownText.mono _ _ _ _
   | exact LeO.none _
   | refine LeO.ite ?_ ?_
   | refine LeO.bind ?_ (fun _ => ?_)
set_option maxHeartbeats 8000000 in
set_option maxRecDepth 100000 in
theorem impl_StuckFor.calls (k : Nat) (a0 : ByteArray) (a1 : ByteArray) (r1 : ByteArray) (r2 : Bool) (w : World) (h : impl_StuckFor.f k a0 a1 = some (r1,r2)) :
  Calls Tryd.prog 19 #[.string a0,.string a1] w fun e w' => e = .returned (.tuple #[.string r1,.bool r2]) ∧ Below w.heap.size w w' := by
 have HB := Aside0.mk (Below.refl w.heap.size w); have H : ((impl_isText.f a0).bind fun t101 => (if t101 = true then ((impl_isShown.f a1).bind fun t102 => (impl_StuckFor.j0 k a0 a1 (!t102))) else (impl_StuckFor.j0 k a0 a1 true))) = some (r1,r2) := h; clear h; have HC3 := Aside0.mk H; clear H
 go_enter Tryd.func19,Tryd.ntmps19
 go_upto_region 1 with (fail)
 go_cut [15] (fun v15 wc => ∃ (kq : Nat) (x15_2 : Bool),v15 = .bool x15_2 ∧ Aside0 (impl_StuckFor.j0 kq a0 a1 x15_2 = some (r1,r2)) ∧ Aside0 (kq ≤ k) ∧ Aside0 (Below w.heap.size w wc))
 case first =>
  have H := HC3.out; clear HC3; replace H := Option.bind_eq_some_iff.mp H; obtain ⟨t101,A40,H⟩ := H; replace H : (if t101 = true then ((impl_isShown.f a1).bind fun t102 => (impl_StuckFor.j0 k a0 a1 (!t102))) else (impl_StuckFor.j0 k a0 a1 true)) = some (r1,r2) := H; have A4 := Aside0.mk A40; clear A40
  by_cases c5 : t101 = true
  ·
   subst c5; have H1 : ((impl_isShown.f a1).bind fun t102 => (impl_StuckFor.j0 k a0 a1 (!t102))) = some (r1,r2) := by rw [if_pos rfl] at H; exact H
   clear H; have H := H1; clear H1; replace H := Option.bind_eq_some_iff.mp H; obtain ⟨t102,A60,H⟩ := H; replace H : (impl_StuckFor.j0 k a0 a1 (!t102)) = some (r1,r2) := H; have A6 := Aside0.mk A60; clear A60; have H' := Aside0.mk H; clear H; go_wp2_with (first | ((with_reducible refine gate_callee (f := 29) rfl ?_); refine goesL_ (some 9) rfl rfl Tryd.func29 (by kernel_rfl) rfl #[.string a0] rfl (by (try simp only [List.map_toArray,List.map_cons,List.map_nil]); first | done | rfl | (simp only [List.length_drop,List.length_take]; rfl)) ?_; (with_reducible refine (impl_isText.calls a0 true _ A4.out).mono ?_); rintro e w7 ⟨rfl,hb⟩; refine ⟨_,rfl,?_⟩; have n0_ := Aside0.mk (below_step (by repeat (first | (with_reducible first | exact HB.out | apply below_alloc | apply pw_below_drewN | apply below_drew1) | exact HB.out)) hb); clear HB; have HB := n0_; clear n0_; (try clear hb); (try clear hb2); (try clear hk); (try clear hi)) | (go_at_call 34; (with_reducible refine (impl_isShown.calls a1 t102 _ A6.out).mono ?_); rintro e w8 ⟨rfl,hb⟩; have n0_ := Aside0.mk (below_step (by repeat (first | (with_reducible first | exact HB.out | apply below_alloc | apply pw_below_drewN | apply below_drew1) | exact HB.out)) hb); clear HB; have HB := n0_; clear n0_; (try clear hb); (try clear hb2); (try clear hk); (try clear hi)))
   go_meet
   case rel => exact ⟨_,(!t102),(by first | rfl | (simp; done) | (simp [*]; done)),H',⟨by first | omega | exact Nat.le_refl _⟩,⟨by repeat (first | (with_reducible first | exact HB.out | apply below_alloc | apply pw_below_drewN | apply below_drew1) | exact HB.out)⟩⟩
  ·
   replace c5 := Bool.eq_false_iff.mpr c5; subst c5; have H1 : (impl_StuckFor.j0 k a0 a1 true) = some (r1,r2) := by rw [if_neg (show ¬ (false = true) by decide)] at H; exact H
   clear H; have H := H1; clear H1; have H' := Aside0.mk H; clear H; go_wp2_with (first | ((with_reducible refine gate_callee (f := 29) rfl ?_); refine goesL_ (some 9) rfl rfl Tryd.func29 (by kernel_rfl) rfl #[.string a0] rfl (by (try simp only [List.map_toArray,List.map_cons,List.map_nil]); first | done | rfl | (simp only [List.length_drop,List.length_take]; rfl)) ?_; (with_reducible refine (impl_isText.calls a0 false _ A4.out).mono ?_); rintro e w9 ⟨rfl,hb⟩; refine ⟨_,rfl,?_⟩; have n0_ := Aside0.mk (below_step (by repeat (first | (with_reducible first | exact HB.out | apply below_alloc | apply pw_below_drewN | apply below_drew1) | exact HB.out)) hb); clear HB; have HB := n0_; clear n0_; (try clear hb); (try clear hb2); (try clear hk); (try clear hi)))
   go_meet
   case rel => exact ⟨_,(true),(by first | rfl | (simp; done) | (simp [*]; done)),H',⟨by first | omega | exact Nat.le_refl _⟩,⟨by repeat (first | (with_reducible first | exact HB.out | apply below_alloc | apply pw_below_drewN | apply below_drew1) | exact HB.out)⟩⟩
 case rest =>
  clear HC3; try clear c1
  try clear c2
  try clear p2
  try clear c5
  obtain ⟨kq,x15_2,rfl,HA,HJ2,HB⟩ := hcut
  cases kq with
  | zero => exact absurd HA.out (by simp [impl_StuckFor.j0])
  | succ kj2 =>
   have H := HA.out; clear HA; simp only [impl_StuckFor.j0] at H
   by_cases c10 : x15_2 = true
   ·
    subst c10; have H1 : (some ((⟨#[]⟩ : ByteArray),false)) = some (r1,r2) := by rw [if_pos rfl] at H; exact H
    clear H; have H := H1; clear H1; simp only [Option.some.injEq,Prod.mk.injEq] at H; obtain ⟨rfl,rfl⟩ := H; go_wp2
    go_ret2
    exact ⟨by first | rfl | (simp [errW_none,errW_some] <;> rfl) | (simp [*,errW_none,errW_some] <;> rfl),by repeat (first | (with_reducible first | exact HB.out | apply below_alloc | apply pw_below_drewN | apply below_drew1) | exact HB.out)⟩
   ·
    replace c10 := Bool.eq_false_iff.mpr c10; subst c10; have H1 : ((impl_brokenFor.f kj2 a0 a1).bind fun bt103 => ((impl_shownText.f kj2 a0 (⟨#[]⟩ : ByteArray) bt103.2).bind fun t105 => (if t105.toList = a1.toList then (some (bt103.2,true)) else (some ((⟨#[]⟩ : ByteArray),false))))) = some (r1,r2) := by rw [if_neg (show ¬ (false = true) by decide)] at H; exact H
    clear H; have H := H1; clear H1; replace H := Option.bind_eq_some_iff.mp H; obtain ⟨⟨t103,t104⟩,A110,H⟩ := H; replace H : ((impl_shownText.f kj2 a0 (⟨#[]⟩ : ByteArray) t104).bind fun t105 => (if t105.toList = a1.toList then (some (t104,true)) else (some ((⟨#[]⟩ : ByteArray),false)))) = some (r1,r2) := H; have A11 := Aside0.mk A110; clear A110; replace H := Option.bind_eq_some_iff.mp H; obtain ⟨t105,A120,H⟩ := H; replace H : (if t105.toList = a1.toList then (some (t104,true)) else (some ((⟨#[]⟩ : ByteArray),false))) = some (r1,r2) := H; have A12 := Aside0.mk A120; clear A120
    by_cases c13 : t105.toList = a1.toList
    ·
     rw [if_pos c13] at H; have c13b0 : (t105.toList == a1.toList) = true := beq_iff_eq.mpr c13; have c13b1 : (t105.toList != a1.toList) = false := bne_eq_false_iff_eq.mpr c13; clear c13; simp only [Option.some.injEq,Prod.mk.injEq] at H; obtain ⟨rfl,rfl⟩ := H; go_wp2_with (first | ((with_reducible refine gate_callee (f := 35) rfl ?_); refine goesL_ (some 19) rfl rfl Tryd.func35 (by kernel_rfl) rfl #[.string a0,.string a1] rfl (by (try simp only [List.map_toArray,List.map_cons,List.map_nil]); first | done | rfl | (simp only [List.length_drop,List.length_take]; rfl)) ?_; (with_reducible refine (impl_brokenFor.calls kj2 a0 a1 t103 t104 _ A11.out).mono ?_); rintro e w14 ⟨rfl,hb⟩; refine ⟨_,rfl,?_⟩; have n0_ := Aside0.mk (below_step (by repeat (first | (with_reducible first | exact HB.out | apply below_alloc | apply pw_below_drewN | apply below_drew1) | exact HB.out)) hb); clear HB; have HB := n0_; clear n0_; (try clear hb); (try clear hb2); (try clear hk); (try clear hi)) | ((with_reducible refine gate_callee (f := 36) rfl ?_); refine goesL_ (some 24) rfl rfl Tryd.func36 (by kernel_rfl) rfl #[.string a0,.string (⟨#[]⟩ : ByteArray),.string t104] rfl (by (try simp only [List.map_toArray,List.map_cons,List.map_nil]); first | done | rfl | (simp only [List.length_drop,List.length_take]; rfl)) ?_; (with_reducible refine (impl_shownText.calls kj2 a0 (⟨#[]⟩ : ByteArray) t104 t105 _ A12.out).mono ?_); rintro e w15 ⟨rfl,hb⟩; refine ⟨_,rfl,?_⟩; have n0_ := Aside0.mk (below_step (by repeat (first | (with_reducible first | exact HB.out | apply below_alloc | apply pw_below_drewN | apply below_drew1) | exact HB.out)) hb); clear HB; have HB := n0_; clear n0_; (try clear hb); (try clear hb2); (try clear hk); (try clear hi)))
     go_ret2
     exact ⟨by first | rfl | (simp [errW_none,errW_some] <;> rfl) | (simp [*,errW_none,errW_some] <;> rfl),by repeat (first | (with_reducible first | exact HB.out | apply below_alloc | apply pw_below_drewN | apply below_drew1) | exact HB.out)⟩
    ·
     rw [if_neg c13] at H; have c13b0 : (t105.toList == a1.toList) = false := beq_eq_false_iff_ne.mpr c13; have c13b1 : (t105.toList != a1.toList) = true := bne_iff_ne.mpr c13; simp only [Option.some.injEq,Prod.mk.injEq] at H; obtain ⟨rfl,rfl⟩ := H; go_wp2_with (first | ((with_reducible refine gate_callee (f := 35) rfl ?_); refine goesL_ (some 19) rfl rfl Tryd.func35 (by kernel_rfl) rfl #[.string a0,.string a1] rfl (by (try simp only [List.map_toArray,List.map_cons,List.map_nil]); first | done | rfl | (simp only [List.length_drop,List.length_take]; rfl)) ?_; (with_reducible refine (impl_brokenFor.calls kj2 a0 a1 t103 t104 _ A11.out).mono ?_); rintro e w16 ⟨rfl,hb⟩; refine ⟨_,rfl,?_⟩; have n0_ := Aside0.mk (below_step (by repeat (first | (with_reducible first | exact HB.out | apply below_alloc | apply pw_below_drewN | apply below_drew1) | exact HB.out)) hb); clear HB; have HB := n0_; clear n0_; (try clear hb); (try clear hb2); (try clear hk); (try clear hi)) | ((with_reducible refine gate_callee (f := 36) rfl ?_); refine goesL_ (some 24) rfl rfl Tryd.func36 (by kernel_rfl) rfl #[.string a0,.string (⟨#[]⟩ : ByteArray),.string t104] rfl (by (try simp only [List.map_toArray,List.map_cons,List.map_nil]); first | done | rfl | (simp only [List.length_drop,List.length_take]; rfl)) ?_; (with_reducible refine (impl_shownText.calls kj2 a0 (⟨#[]⟩ : ByteArray) t104 t105 _ A12.out).mono ?_); rintro e w17 ⟨rfl,hb⟩; refine ⟨_,rfl,?_⟩; have n0_ := Aside0.mk (below_step (by repeat (first | (with_reducible first | exact HB.out | apply below_alloc | apply pw_below_drewN | apply below_drew1) | exact HB.out)) hb); clear HB; have HB := n0_; clear n0_; (try clear hb); (try clear hb2); (try clear hk); (try clear hi)))
     go_ret2
     exact ⟨by first | rfl | (simp [errW_none,errW_some] <;> rfl) | (simp [*,errW_none,errW_some] <;> rfl),by repeat (first | (with_reducible first | exact HB.out | apply below_alloc | apply pw_below_drewN | apply below_drew1) | exact HB.out)⟩

end Go.Proofs.YtcidlaabbkimdaaDoor.P

-- printed by xprint.py
namespace Go.Proofs.YtcidlaabbkimdaaDoor.P
open Go.RowKit Go.Proofs.YtcidlaabbkimdaaDoorW.PrintWords Go.Proofs.YtcidlaabbkimdaaDoorW.PrintLast Go.Proofs.YtcidlaabbkimdaaDoorW.PrintMore
attribute [local go_sem] max2_int min2_int max_two min_two max_three min_three max_four min_four   -- for this text's walks alone
set_option linter.unusedVariables false
set_option linter.unusedSimpArgs false

/-! ### spec_bkHas: function 46 -/
def spec_bkHas.l0 : Nat → ByteArray → Int → Int → Option (Bool)
 | 0,_,_,_ => none
 | k + 1,x0,x1,x5 => if x5 < (x0.size : Int) then (if 0 ≤ x5 then (if (bt x0 x5) = x1 then (some true) else (spec_bkHas.l0 k x0 x1 (wrap64 (x5 + 1)))) else (none)) else (some false)
def spec_bkHas.f (k : Nat) (a0 : ByteArray) (a1 : Int) : Option (Bool) := spec_bkHas.l0 k a0 a1 0
theorem spec_bkHas.mono_l : ∀ k,(∀ y0 y1 y2,LeO (spec_bkHas.l0 k y0 y1 y2) (spec_bkHas.l0 (k + 1) y0 y1 y2))
 | 0 => by intros; intro r h; simp [spec_bkHas.l0] at h
 | k + 1 => by
  have ih0 := spec_bkHas.mono_l k
  ·
   intro y0 y1 y2
   unfold spec_bkHas.l0
   repeat' first
   | (with_reducible exact ih0 _ _ _)
   | (with_reducible exact LeO.refl _)
   | (with_reducible exact LeO.none _)
   | (with_reducible refine LeO.ite ?_ ?_)
   | (with_reducible refine LeO.bind ?_ (fun _ => ?_))
   | exact ih0 _ _ _
   | exact LeO.none _
   | refine LeO.ite ?_ ?_
   | refine LeO.bind ?_ (fun _ => ?_)
theorem spec_bkHas.mono : ∀ y0 y1 k,LeO (spec_bkHas.f k y0 y1) (spec_bkHas.f (k + 1) y0 y1) := by
 intro y0 y1 k; have ih0 := spec_bkHas.mono_l k
 unfold spec_bkHas.f
 repeat' first
   | (with_reducible exact ih0 _ _ _)
   | (with_reducible exact LeO.refl _)
   | (with_reducible exact LeO.none _)
   | (with_reducible refine LeO.ite ?_ ?_)
   | (with_reducible refine LeO.bind ?_ (fun _ => ?_))
   | exact ih0 _ _ _
   | exact LeO.none _
   | refine LeO.ite ?_ ?_
   | refine LeO.bind ?_ (fun _ => ?_)
set_option maxHeartbeats 8000000 in
set_option maxRecDepth 100000 in
theorem spec_bkHas.calls (k : Nat) (a0 : ByteArray) (a1 : Int) (r : Bool) (w : World) (h : spec_bkHas.f k a0 a1 = some r) :
  Calls Tryd.prog 46 #[.string a0,.int .u8 a1] w fun e w' => e = .returned (.bool r) ∧ Drawn0 w w' := by
 have H : (spec_bkHas.l0 k a0 a1 0) = some r := h; clear h; have H' := Aside0.mk H; clear H
 go_enter Tryd.func46,Tryd.ntmps46
 go_wp2
 go_loopg [5] k (fun kq v5 w' => ∃ (x5_1 : Int),v5 = .int .i64 x5_1 ∧ Aside0 (spec_bkHas.l0 kq a0 a1 x5_1 = some r) ∧ Aside0 (kq ≤ k) ∧ Drawn0 w w')
 case atStart => exact ⟨(0),(by first | rfl | (simp; done) | (simp [*]; done)),H',⟨Nat.le_refl _⟩,by repeat (first | exact Drawn0.refl _ | apply Drawn0.step)⟩
 case round =>
  clear H'; try clear p2
  obtain ⟨x5_1,rfl,HA,HK1,⟨m1,rfl⟩⟩ := hrel
  cases gk with
  | zero => exact absurd HA.out (by simp [spec_bkHas.l0])
  | succ k1 =>
   have H := HA.out; clear HA; simp only [spec_bkHas.l0] at H
   by_cases c3 : x5_1 < (a0.size : Int)
   ·
    rw [if_pos c3] at H; have c3b0 : decide (x5_1 < (a0.size : Int)) = true := decide_eq_true c3; clear c3
    by_cases c4 : 0 ≤ x5_1
    ·
     rw [if_pos c4] at H; have c4b0 : decide (0 ≤ x5_1) = true := decide_eq_true c4; clear c4
     by_cases c6 : (bt a0 x5_1) = a1
     ·
      rw [if_pos c6] at H; have c6b0 : ((bt a0 x5_1) == a1) = true := beq_iff_eq.mpr c6; have c6b1 : ((bt a0 x5_1) != a1) = false := bne_eq_false_iff_eq.mpr c6; clear c6; obtain rfl := Option.some.inj H; have p5 : 0 ≤ (x5_1 : Int) := of_decide_eq_true (by first | (with_reducible assumption) | assumption); have q5 : x5_1 < (a0.size : Int) := of_decide_eq_true (by first | (with_reducible assumption) | assumption); have hx5 := bt_at a0 x5_1; replace p5 := eq_true p5; replace q5 := eq_true q5; go_wp2
      go_ret
      exact ⟨by first | rfl | (simp; done) | (simp [*]; done),by repeat (first | exact Drawn0.refl _ | apply Drawn0.step)⟩
     ·
      rw [if_neg c6] at H; have c6b0 : ((bt a0 x5_1) == a1) = false := beq_eq_false_iff_ne.mpr c6; have c6b1 : ((bt a0 x5_1) != a1) = true := bne_iff_ne.mpr c6; have H' := Aside0.mk H; clear H; have p5 : 0 ≤ (x5_1 : Int) := of_decide_eq_true (by first | (with_reducible assumption) | assumption); have q5 : x5_1 < (a0.size : Int) := of_decide_eq_true (by first | (with_reducible assumption) | assumption); have hx5 := bt_at a0 x5_1; replace p5 := eq_true p5; replace q5 := eq_true q5; go_wp2
      go_roundg k1
      case measure => have := HK1.out; omega
      case rel => exact ⟨(wrap64 (x5_1 + 1)),(by first | rfl | (simp; done) | (simp [*]; done)),H',⟨by have := HK1.out; omega⟩,by repeat (first | exact Drawn0.refl _ | apply Drawn0.step)⟩
    · rw [if_neg c4] at H; exact absurd H (by simp)
   ·
    rw [if_neg c3] at H; have c3b0 : decide (x5_1 < (a0.size : Int)) = false := decide_eq_false c3; clear c3; obtain rfl := Option.some.inj H; go_wp2
    go_ret
    exact ⟨by first | rfl | (simp; done) | (simp [*]; done),by repeat (first | exact Drawn0.refl _ | apply Drawn0.step)⟩

end Go.Proofs.YtcidlaabbkimdaaDoor.P

-- printed by xprint.py
namespace Go.Proofs.YtcidlaabbkimdaaDoor.P
open Go.RowKit Go.Proofs.YtcidlaabbkimdaaDoorW.PrintWords Go.Proofs.YtcidlaabbkimdaaDoorW.PrintLast Go.Proofs.YtcidlaabbkimdaaDoorW.PrintMore
attribute [local go_sem] max2_int min2_int max_two min_two max_three min_three max_four min_four   -- for this text's walks alone
set_option linter.unusedVariables false
set_option linter.unusedSimpArgs false

/-! ### spec_bkShow: function 33 -/
def spec_bkShow.l0 : Nat → ByteArray → ByteArray → ByteArray → ByteArray → Int → Option (ByteArray)
 | 0,_,_,_,_,_ => none
 | k + 1,x0,x1,x2,x7,x8 => if x8 < (x0.size : Int) then (if 0 ≤ x8 then (if x8 ≤ (wrap64 (x8 + 1)) then (if (wrap64 (x8 + 1)) ≤ (x0.size : Int) then ((spec_bkHas.f k x1 (bt x0 x8)).bind fun t101 => (if t101 = true then (spec_bkShow.l0 k x0 x1 x2 x7 (wrap64 (x8 + 1))) else ((spec_bkHas.f k x2 (bt x0 x8)).bind fun t102 => (if t102 = true then (if (x0.extract (x8 : Int).toNat ((wrap64 (x8 + 1)) : Int).toNat).size + (x0.extract (x8 : Int).toNat ((wrap64 (x8 + 1)) : Int).toNat).size ≤ 9223372036854775807 then (if x7.size + ((x0.extract (x8 : Int).toNat ((wrap64 (x8 + 1)) : Int).toNat) ++ (x0.extract (x8 : Int).toNat ((wrap64 (x8 + 1)) : Int).toNat)).size ≤ 9223372036854775807 then (spec_bkShow.l0 k x0 x1 x2 (x7 ++ ((x0.extract (x8 : Int).toNat ((wrap64 (x8 + 1)) : Int).toNat) ++ (x0.extract (x8 : Int).toNat ((wrap64 (x8 + 1)) : Int).toNat))) (wrap64 (x8 + 1))) else (none)) else (none)) else (if x7.size + (x0.extract (x8 : Int).toNat ((wrap64 (x8 + 1)) : Int).toNat).size ≤ 9223372036854775807 then (spec_bkShow.l0 k x0 x1 x2 (x7 ++ (x0.extract (x8 : Int).toNat ((wrap64 (x8 + 1)) : Int).toNat)) (wrap64 (x8 + 1))) else (none)))))) else (none)) else (none)) else (none)) else (some x7)
def spec_bkShow.f (k : Nat) (a0 : ByteArray) (a1 : ByteArray) (a2 : ByteArray) : Option (ByteArray) := spec_bkShow.l0 k a0 a1 a2 (⟨#[]⟩ : ByteArray) 0
theorem spec_bkShow.mono_l : ∀ k,(∀ y0 y1 y2 y3 y4,LeO (spec_bkShow.l0 k y0 y1 y2 y3 y4) (spec_bkShow.l0 (k + 1) y0 y1 y2 y3 y4))
 | 0 => by intros; intro r h; simp [spec_bkShow.l0] at h
 | k + 1 => by
  have ih0 := spec_bkShow.mono_l k
  ·
   intro y0 y1 y2 y3 y4
   unfold spec_bkShow.l0
   repeat' first
   | (with_reducible exact ih0 _ _ _ _ _)
   | (with_reducible exact spec_bkHas.mono _ _ _)
   | (with_reducible exact LeO.refl _)
   | (with_reducible exact LeO.none _)
   | (with_reducible refine LeO.ite ?_ ?_)
   | (with_reducible refine LeO.bind ?_ (fun _ => ?_))
   | exact ih0 _ _ _ _ _
   | exact spec_bkHas.mono _ _ _
   | exact LeO.none _
   | refine LeO.ite ?_ ?_
   | refine LeO.bind ?_ (fun _ => ?_)
theorem spec_bkShow.mono : ∀ y0 y1 y2 k,LeO (spec_bkShow.f k y0 y1 y2) (spec_bkShow.f (k + 1) y0 y1 y2) := by
 intro y0 y1 y2 k; have ih0 := spec_bkShow.mono_l k
 unfold spec_bkShow.f
 repeat' first
   | (with_reducible exact ih0 _ _ _ _ _)
   | (with_reducible exact spec_bkHas.mono _ _ _)
   | (with_reducible exact LeO.refl _)
   | (with_reducible exact LeO.none _)
   | (with_reducible refine LeO.ite ?_ ?_)
   | (with_reducible refine LeO.bind ?_ (fun _ => ?_))
   | exact ih0 _ _ _ _ _
   | exact spec_bkHas.mono _ _ _
   | exact LeO.none _
   | refine LeO.ite ?_ ?_
   | refine LeO.bind ?_ (fun _ => ?_)
set_option maxHeartbeats 8000000 in
set_option maxRecDepth 100000 in
theorem spec_bkShow.calls (k : Nat) (a0 : ByteArray) (a1 : ByteArray) (a2 : ByteArray) (r : ByteArray) (w : World) (h : spec_bkShow.f k a0 a1 a2 = some r) :
  Calls Tryd.prog 33 #[.string a0,.string a1,.string a2] w fun e w' => e = .returned (.string r) ∧ Drawn0 w w' := by
 have H : (spec_bkShow.l0 k a0 a1 a2 (⟨#[]⟩ : ByteArray) 0) = some r := h; clear h; have H' := Aside0.mk H; clear H
 go_enter Tryd.func33,Tryd.ntmps33
 go_wp2
 go_loopg [7,8] k (fun kq v7 v8 w' => ∃ (x7_1 : ByteArray) (x8_1 : Int),v7 = .string x7_1 ∧ v8 = .int .i64 x8_1 ∧ Aside0 (spec_bkShow.l0 kq a0 a1 a2 x7_1 x8_1 = some r) ∧ Aside0 (kq ≤ k) ∧ Drawn0 w w')
 case atStart => exact ⟨((⟨#[]⟩ : ByteArray)),(0),(by first | rfl | (simp; done) | (simp [*]; done)),(by first | rfl | (simp; done) | (simp [*]; done)),H',⟨Nat.le_refl _⟩,by repeat (first | exact Drawn0.refl _ | apply Drawn0.step)⟩
 case round =>
  clear H'; try clear p2
  try clear c3
  obtain ⟨x7_1,x8_1,rfl,rfl,HA,HK1,⟨m1,rfl⟩⟩ := hrel
  cases gk with
  | zero => exact absurd HA.out (by simp [spec_bkShow.l0])
  | succ k1 =>
   have H := HA.out; clear HA; simp only [spec_bkShow.l0] at H
   by_cases c4 : x8_1 < (a0.size : Int)
   ·
    rw [if_pos c4] at H; have c4b0 : decide (x8_1 < (a0.size : Int)) = true := decide_eq_true c4; clear c4
    by_cases c5 : 0 ≤ x8_1
    ·
     rw [if_pos c5] at H; have c5b0 := eq_true c5; have c5b1 : decide (0 ≤ x8_1) = true := decide_eq_true c5; clear c5
     by_cases c6 : x8_1 ≤ (wrap64 (x8_1 + 1))
     ·
      rw [if_pos c6] at H; have c6b0 := eq_true c6; have c6b1 : decide (x8_1 ≤ (wrap64 (x8_1 + 1))) = true := decide_eq_true c6
      by_cases c7 : (wrap64 (x8_1 + 1)) ≤ (a0.size : Int)
      ·
       rw [if_pos c7] at H; have c7b0 := eq_true c7; have c7b1 : decide ((wrap64 (x8_1 + 1)) ≤ (a0.size : Int)) = true := decide_eq_true c7; replace H := Option.bind_eq_some_iff.mp H; obtain ⟨t101,A90,H⟩ := H; replace H : (if t101 = true then (spec_bkShow.l0 k1 a0 a1 a2 x7_1 (wrap64 (x8_1 + 1))) else ((spec_bkHas.f k1 a2 (bt a0 x8_1)).bind fun t102 => (if t102 = true then (if (a0.extract (x8_1 : Int).toNat ((wrap64 (x8_1 + 1)) : Int).toNat).size + (a0.extract (x8_1 : Int).toNat ((wrap64 (x8_1 + 1)) : Int).toNat).size ≤ 9223372036854775807 then (if x7_1.size + ((a0.extract (x8_1 : Int).toNat ((wrap64 (x8_1 + 1)) : Int).toNat) ++ (a0.extract (x8_1 : Int).toNat ((wrap64 (x8_1 + 1)) : Int).toNat)).size ≤ 9223372036854775807 then (spec_bkShow.l0 k1 a0 a1 a2 (x7_1 ++ ((a0.extract (x8_1 : Int).toNat ((wrap64 (x8_1 + 1)) : Int).toNat) ++ (a0.extract (x8_1 : Int).toNat ((wrap64 (x8_1 + 1)) : Int).toNat))) (wrap64 (x8_1 + 1))) else (none)) else (none)) else (if x7_1.size + (a0.extract (x8_1 : Int).toNat ((wrap64 (x8_1 + 1)) : Int).toNat).size ≤ 9223372036854775807 then (spec_bkShow.l0 k1 a0 a1 a2 (x7_1 ++ (a0.extract (x8_1 : Int).toNat ((wrap64 (x8_1 + 1)) : Int).toNat)) (wrap64 (x8_1 + 1))) else (none))))) = some r := H; have A9 := Aside0.mk A90; clear A90
       by_cases c10 : t101 = true
       ·
        subst c10; have H1 : (spec_bkShow.l0 k1 a0 a1 a2 x7_1 (wrap64 (x8_1 + 1))) = some r := by rw [if_pos rfl] at H; exact H
        clear H; have H := H1; clear H1; have H' := Aside0.mk H; clear H; have p8 : 0 ≤ (x8_1 : Int) := of_decide_eq_true (by first | (with_reducible assumption) | assumption); have q8 : x8_1 < (a0.size : Int) := of_decide_eq_true (by first | (with_reducible assumption) | assumption); have hx8 := bt_at a0 x8_1; replace p8 := eq_true p8; replace q8 := eq_true q8; go_wp2_with (first | ((with_reducible refine gate_callee (f := 46) rfl ?_); refine goesL_ (some 29) rfl rfl Tryd.func46 (by kernel_rfl) rfl #[.string a1,.int .u8 (bt a0 x8_1)] rfl (by (try simp only [List.map_toArray,List.map_cons,List.map_nil]); first | done | rfl | (simp only [List.length_drop,List.length_take]; rfl)) ?_; (with_reducible refine (spec_bkHas.calls k1 a1 (bt a0 x8_1) true _ A9.out).mono ?_); rintro e w' ⟨rfl,⟨nd,rfl⟩⟩; refine ⟨_,rfl,?_⟩))
        go_roundg k1
        case measure => have := HK1.out; omega
        case rel => exact ⟨(x7_1),(wrap64 (x8_1 + 1)),(by first | rfl | (simp; done) | (simp [*]; done)),(by first | rfl | (simp; done) | (simp [*]; done)),H',⟨by have := HK1.out; omega⟩,by repeat (first | exact Drawn0.refl _ | apply Drawn0.step)⟩
       ·
        replace c10 := Bool.eq_false_iff.mpr c10; subst c10; have H1 : ((spec_bkHas.f k1 a2 (bt a0 x8_1)).bind fun t102 => (if t102 = true then (if (a0.extract (x8_1 : Int).toNat ((wrap64 (x8_1 + 1)) : Int).toNat).size + (a0.extract (x8_1 : Int).toNat ((wrap64 (x8_1 + 1)) : Int).toNat).size ≤ 9223372036854775807 then (if x7_1.size + ((a0.extract (x8_1 : Int).toNat ((wrap64 (x8_1 + 1)) : Int).toNat) ++ (a0.extract (x8_1 : Int).toNat ((wrap64 (x8_1 + 1)) : Int).toNat)).size ≤ 9223372036854775807 then (spec_bkShow.l0 k1 a0 a1 a2 (x7_1 ++ ((a0.extract (x8_1 : Int).toNat ((wrap64 (x8_1 + 1)) : Int).toNat) ++ (a0.extract (x8_1 : Int).toNat ((wrap64 (x8_1 + 1)) : Int).toNat))) (wrap64 (x8_1 + 1))) else (none)) else (none)) else (if x7_1.size + (a0.extract (x8_1 : Int).toNat ((wrap64 (x8_1 + 1)) : Int).toNat).size ≤ 9223372036854775807 then (spec_bkShow.l0 k1 a0 a1 a2 (x7_1 ++ (a0.extract (x8_1 : Int).toNat ((wrap64 (x8_1 + 1)) : Int).toNat)) (wrap64 (x8_1 + 1))) else (none)))) = some r := by rw [if_neg (show ¬ (false = true) by decide)] at H; exact H
        clear H; have H := H1; clear H1; replace H := Option.bind_eq_some_iff.mp H; obtain ⟨t102,A120,H⟩ := H; replace H : (if t102 = true then (if (a0.extract (x8_1 : Int).toNat ((wrap64 (x8_1 + 1)) : Int).toNat).size + (a0.extract (x8_1 : Int).toNat ((wrap64 (x8_1 + 1)) : Int).toNat).size ≤ 9223372036854775807 then (if x7_1.size + ((a0.extract (x8_1 : Int).toNat ((wrap64 (x8_1 + 1)) : Int).toNat) ++ (a0.extract (x8_1 : Int).toNat ((wrap64 (x8_1 + 1)) : Int).toNat)).size ≤ 9223372036854775807 then (spec_bkShow.l0 k1 a0 a1 a2 (x7_1 ++ ((a0.extract (x8_1 : Int).toNat ((wrap64 (x8_1 + 1)) : Int).toNat) ++ (a0.extract (x8_1 : Int).toNat ((wrap64 (x8_1 + 1)) : Int).toNat))) (wrap64 (x8_1 + 1))) else (none)) else (none)) else (if x7_1.size + (a0.extract (x8_1 : Int).toNat ((wrap64 (x8_1 + 1)) : Int).toNat).size ≤ 9223372036854775807 then (spec_bkShow.l0 k1 a0 a1 a2 (x7_1 ++ (a0.extract (x8_1 : Int).toNat ((wrap64 (x8_1 + 1)) : Int).toNat)) (wrap64 (x8_1 + 1))) else (none))) = some r := H; have A12 := Aside0.mk A120; clear A120
        by_cases c13 : t102 = true
        ·
         subst c13; have H1 : (if (a0.extract (x8_1 : Int).toNat ((wrap64 (x8_1 + 1)) : Int).toNat).size + (a0.extract (x8_1 : Int).toNat ((wrap64 (x8_1 + 1)) : Int).toNat).size ≤ 9223372036854775807 then (if x7_1.size + ((a0.extract (x8_1 : Int).toNat ((wrap64 (x8_1 + 1)) : Int).toNat) ++ (a0.extract (x8_1 : Int).toNat ((wrap64 (x8_1 + 1)) : Int).toNat)).size ≤ 9223372036854775807 then (spec_bkShow.l0 k1 a0 a1 a2 (x7_1 ++ ((a0.extract (x8_1 : Int).toNat ((wrap64 (x8_1 + 1)) : Int).toNat) ++ (a0.extract (x8_1 : Int).toNat ((wrap64 (x8_1 + 1)) : Int).toNat))) (wrap64 (x8_1 + 1))) else (none)) else (none)) = some r := by rw [if_pos rfl] at H; exact H
         clear H; have H := H1; clear H1
         by_cases c14 : (a0.extract (x8_1 : Int).toNat ((wrap64 (x8_1 + 1)) : Int).toNat).size + (a0.extract (x8_1 : Int).toNat ((wrap64 (x8_1 + 1)) : Int).toNat).size ≤ 9223372036854775807
         ·
          rw [if_pos c14] at H; have c14b0 := eq_true c14; have c14b1 : decide ((a0.extract (x8_1 : Int).toNat ((wrap64 (x8_1 + 1)) : Int).toNat).size + (a0.extract (x8_1 : Int).toNat ((wrap64 (x8_1 + 1)) : Int).toNat).size ≤ 9223372036854775807) = true := decide_eq_true c14; try have c14b2 : (9223372036854775807 < (a0.extract (x8_1 : Int).toNat ((wrap64 (x8_1 + 1)) : Int).toNat).size + (a0.extract (x8_1 : Int).toNat ((wrap64 (x8_1 + 1)) : Int).toNat).size) = False := eq_false (Nat.not_lt.2 c14)
          by_cases c15 : x7_1.size + ((a0.extract (x8_1 : Int).toNat ((wrap64 (x8_1 + 1)) : Int).toNat) ++ (a0.extract (x8_1 : Int).toNat ((wrap64 (x8_1 + 1)) : Int).toNat)).size ≤ 9223372036854775807
          ·
           rw [if_pos c15] at H; have c15b0 := eq_true c15; have c15b1 : decide (x7_1.size + ((a0.extract (x8_1 : Int).toNat ((wrap64 (x8_1 + 1)) : Int).toNat) ++ (a0.extract (x8_1 : Int).toNat ((wrap64 (x8_1 + 1)) : Int).toNat)).size ≤ 9223372036854775807) = true := decide_eq_true c15; try have c15b2 : (9223372036854775807 < x7_1.size + ((a0.extract (x8_1 : Int).toNat ((wrap64 (x8_1 + 1)) : Int).toNat) ++ (a0.extract (x8_1 : Int).toNat ((wrap64 (x8_1 + 1)) : Int).toNat)).size) = False := eq_false (Nat.not_lt.2 c15)
           have H' := Aside0.mk H; clear H; have p8 : 0 ≤ (x8_1 : Int) := of_decide_eq_true (by first | (with_reducible assumption) | assumption); have q8 : x8_1 < (a0.size : Int) := of_decide_eq_true (by first | (with_reducible assumption) | assumption); have hx8 := bt_at a0 x8_1; replace p8 := eq_true p8; replace q8 := eq_true q8; go_wp2_with (first | ((with_reducible refine gate_callee (f := 46) rfl ?_); refine goesL_ (some 29) rfl rfl Tryd.func46 (by kernel_rfl) rfl #[.string a1,.int .u8 (bt a0 x8_1)] rfl (by (try simp only [List.map_toArray,List.map_cons,List.map_nil]); first | done | rfl | (simp only [List.length_drop,List.length_take]; rfl)) ?_; (with_reducible refine (spec_bkHas.calls k1 a1 (bt a0 x8_1) false _ A9.out).mono ?_); rintro e w' ⟨rfl,⟨nd,rfl⟩⟩; refine ⟨_,rfl,?_⟩; have p11 : 0 ≤ (x8_1 : Int) := of_decide_eq_true (by first | (with_reducible assumption) | assumption); have q11 : x8_1 < (a0.size : Int) := of_decide_eq_true (by first | (with_reducible assumption) | assumption); have hx11 := bt_at a0 x8_1; replace p11 := eq_true p11; replace q11 := eq_true q11) | ((with_reducible refine gate_callee (f := 46) rfl ?_); refine goesL_ (some 35) rfl rfl Tryd.func46 (by kernel_rfl) rfl #[.string a2,.int .u8 (bt a0 x8_1)] rfl (by (try simp only [List.map_toArray,List.map_cons,List.map_nil]); first | done | rfl | (simp only [List.length_drop,List.length_take]; rfl)) ?_; (with_reducible refine (spec_bkHas.calls k1 a2 (bt a0 x8_1) true _ A12.out).mono ?_); rintro e w' ⟨rfl,⟨nd,rfl⟩⟩; refine ⟨_,rfl,?_⟩))
           go_roundg k1
           case measure => have := HK1.out; omega
           case rel => exact ⟨(x7_1 ++ ((a0.extract (x8_1 : Int).toNat ((wrap64 (x8_1 + 1)) : Int).toNat) ++ (a0.extract (x8_1 : Int).toNat ((wrap64 (x8_1 + 1)) : Int).toNat))),(wrap64 (x8_1 + 1)),(by first | rfl | (simp; done) | (simp [*]; done)),(by first | rfl | (simp; done) | (simp [*]; done)),H',⟨by have := HK1.out; omega⟩,by repeat (first | exact Drawn0.refl _ | apply Drawn0.step)⟩
          · rw [if_neg c15] at H; exact absurd H (by simp)
         · rw [if_neg c14] at H; exact absurd H (by simp)
        ·
         replace c13 := Bool.eq_false_iff.mpr c13; subst c13; have H1 : (if x7_1.size + (a0.extract (x8_1 : Int).toNat ((wrap64 (x8_1 + 1)) : Int).toNat).size ≤ 9223372036854775807 then (spec_bkShow.l0 k1 a0 a1 a2 (x7_1 ++ (a0.extract (x8_1 : Int).toNat ((wrap64 (x8_1 + 1)) : Int).toNat)) (wrap64 (x8_1 + 1))) else (none)) = some r := by rw [if_neg (show ¬ (false = true) by decide)] at H; exact H
         clear H; have H := H1; clear H1
         by_cases c16 : x7_1.size + (a0.extract (x8_1 : Int).toNat ((wrap64 (x8_1 + 1)) : Int).toNat).size ≤ 9223372036854775807
         ·
          rw [if_pos c16] at H; have c16b0 := eq_true c16; have c16b1 : decide (x7_1.size + (a0.extract (x8_1 : Int).toNat ((wrap64 (x8_1 + 1)) : Int).toNat).size ≤ 9223372036854775807) = true := decide_eq_true c16; try have c16b2 : (9223372036854775807 < x7_1.size + (a0.extract (x8_1 : Int).toNat ((wrap64 (x8_1 + 1)) : Int).toNat).size) = False := eq_false (Nat.not_lt.2 c16)
          have H' := Aside0.mk H; clear H; have p8 : 0 ≤ (x8_1 : Int) := of_decide_eq_true (by first | (with_reducible assumption) | assumption); have q8 : x8_1 < (a0.size : Int) := of_decide_eq_true (by first | (with_reducible assumption) | assumption); have hx8 := bt_at a0 x8_1; replace p8 := eq_true p8; replace q8 := eq_true q8; go_wp2_with (first | ((with_reducible refine gate_callee (f := 46) rfl ?_); refine goesL_ (some 29) rfl rfl Tryd.func46 (by kernel_rfl) rfl #[.string a1,.int .u8 (bt a0 x8_1)] rfl (by (try simp only [List.map_toArray,List.map_cons,List.map_nil]); first | done | rfl | (simp only [List.length_drop,List.length_take]; rfl)) ?_; (with_reducible refine (spec_bkHas.calls k1 a1 (bt a0 x8_1) false _ A9.out).mono ?_); rintro e w' ⟨rfl,⟨nd,rfl⟩⟩; refine ⟨_,rfl,?_⟩; have p11 : 0 ≤ (x8_1 : Int) := of_decide_eq_true (by first | (with_reducible assumption) | assumption); have q11 : x8_1 < (a0.size : Int) := of_decide_eq_true (by first | (with_reducible assumption) | assumption); have hx11 := bt_at a0 x8_1; replace p11 := eq_true p11; replace q11 := eq_true q11) | ((with_reducible refine gate_callee (f := 46) rfl ?_); refine goesL_ (some 35) rfl rfl Tryd.func46 (by kernel_rfl) rfl #[.string a2,.int .u8 (bt a0 x8_1)] rfl (by (try simp only [List.map_toArray,List.map_cons,List.map_nil]); first | done | rfl | (simp only [List.length_drop,List.length_take]; rfl)) ?_; (with_reducible refine (spec_bkHas.calls k1 a2 (bt a0 x8_1) false _ A12.out).mono ?_); rintro e w' ⟨rfl,⟨nd,rfl⟩⟩; refine ⟨_,rfl,?_⟩))
          go_roundg k1
          case measure => have := HK1.out; omega
          case rel => exact ⟨(x7_1 ++ (a0.extract (x8_1 : Int).toNat ((wrap64 (x8_1 + 1)) : Int).toNat)),(wrap64 (x8_1 + 1)),(by first | rfl | (simp; done) | (simp [*]; done)),(by first | rfl | (simp; done) | (simp [*]; done)),H',⟨by have := HK1.out; omega⟩,by repeat (first | exact Drawn0.refl _ | apply Drawn0.step)⟩
         · rw [if_neg c16] at H; exact absurd H (by simp)
      · rw [if_neg c7] at H; exact absurd H (by simp)
     · rw [if_neg c6] at H; exact absurd H (by simp)
    · rw [if_neg c5] at H; exact absurd H (by simp)
   ·
    rw [if_neg c4] at H; have c4b0 : decide (x8_1 < (a0.size : Int)) = false := decide_eq_false c4; clear c4; obtain rfl := Option.some.inj H; go_wp2
    go_ret
    exact ⟨by first | rfl | (simp; done) | (simp [*]; done),by repeat (first | exact Drawn0.refl _ | apply Drawn0.step)⟩

end Go.Proofs.YtcidlaabbkimdaaDoor.P

-- printed by xprint.py
namespace Go.Proofs.YtcidlaabbkimdaaDoor.P
open Go.RowKit Go.Proofs.YtcidlaabbkimdaaDoorW.PrintWords Go.Proofs.YtcidlaabbkimdaaDoorW.PrintLast Go.Proofs.YtcidlaabbkimdaaDoorW.PrintMore
attribute [local go_sem] max2_int min2_int max_two min_two max_three min_three max_four min_four   -- for this text's walks alone
set_option linter.unusedVariables false
set_option linter.unusedSimpArgs false

/-! ### spec_bkTell: function 32 -/
mutual
def spec_bkTell.l0 : Nat → ByteArray → ByteArray → ByteArray → ByteArray → Int → Option (ByteArray × ByteArray)
 | 0,_,_,_,_,_ => none
 | k + 1,x0,x1,x6,x7,x8 => if x8 ≤ 122 then (spec_bkTell.l1 k x0 x1 x6 x7 x8 0 0 0) else (some (x6,x7))
def spec_bkTell.l1 : Nat → ByteArray → ByteArray → ByteArray → ByteArray → Int → Int → Int → Int → Option (ByteArray × ByteArray)
 | 0,_,_,_,_,_,_,_,_ => none
 | k + 1,x0,x1,x6,x7,x8,x9,x10,x11 => if x11 < (x0.size : Int) then (if 0 ≤ x11 then (if (bt x0 x11) = x8 then (spec_bkTell.l1 k x0 x1 x6 x7 x8 (wrap64 (x9 + 1)) x10 (wrap64 (x11 + 1))) else (spec_bkTell.l1 k x0 x1 x6 x7 x8 x9 x10 (wrap64 (x11 + 1)))) else (none)) else (spec_bkTell.l2 k x0 x1 x6 x7 x8 x9 x10 0)
def spec_bkTell.l2 : Nat → ByteArray → ByteArray → ByteArray → ByteArray → Int → Int → Int → Int → Option (ByteArray × ByteArray)
 | 0,_,_,_,_,_,_,_,_ => none
 | k + 1,x0,x1,x6,x7,x8,x9,x10,x12 => if x12 < (x1.size : Int) then (if 0 ≤ x12 then (if (bt x1 x12) = x8 then (spec_bkTell.l2 k x0 x1 x6 x7 x8 x9 (wrap64 (x10 + 1)) (wrap64 (x12 + 1))) else (spec_bkTell.l2 k x0 x1 x6 x7 x8 x9 x10 (wrap64 (x12 + 1)))) else (none)) else (if x9 > 0 then (spec_bkTell.j3 k x0 x1 x6 x7 x8 x9 x10 (x10 == 0)) else (spec_bkTell.j3 k x0 x1 x6 x7 x8 x9 x10 false))
def spec_bkTell.j3 : Nat → ByteArray → ByteArray → ByteArray → ByteArray → Int → Int → Int → Bool → Option (ByteArray × ByteArray)
 | 0,_,_,_,_,_,_,_,_ => none
 | k + 1,x0,x1,x6,x7,x8,x9,x10,x43 => if x43 = true then (if x6.size + (Utf8.encode (wrap32 (x8))).size ≤ 9223372036854775807 then (spec_bkTell.l0 k x0 x1 (x6 ++ (Utf8.encode (wrap32 (x8)))) x7 ((x8 + 1) % 256)) else (none)) else (if x9 > 0 then (if x10 = (wrap64 (2 * x9)) then (if x7.size + (Utf8.encode (wrap32 (x8))).size ≤ 9223372036854775807 then (spec_bkTell.l0 k x0 x1 x6 (x7 ++ (Utf8.encode (wrap32 (x8)))) ((x8 + 1) % 256)) else (none)) else (spec_bkTell.l0 k x0 x1 x6 x7 ((x8 + 1) % 256))) else (spec_bkTell.l0 k x0 x1 x6 x7 ((x8 + 1) % 256)))
end
def spec_bkTell.f (k : Nat) (a0 : ByteArray) (a1 : ByteArray) : Option (ByteArray × ByteArray) := spec_bkTell.l0 k a0 a1 (⟨#[]⟩ : ByteArray) (⟨#[]⟩ : ByteArray) 97
theorem spec_bkTell.mono_l : ∀ k,(∀ y0 y1 y2 y3 y4,LeO (spec_bkTell.l0 k y0 y1 y2 y3 y4) (spec_bkTell.l0 (k + 1) y0 y1 y2 y3 y4)) ∧ (∀ y0 y1 y2 y3 y4 y5 y6 y7,LeO (spec_bkTell.l1 k y0 y1 y2 y3 y4 y5 y6 y7) (spec_bkTell.l1 (k + 1) y0 y1 y2 y3 y4 y5 y6 y7)) ∧ (∀ y0 y1 y2 y3 y4 y5 y6 y7,LeO (spec_bkTell.l2 k y0 y1 y2 y3 y4 y5 y6 y7) (spec_bkTell.l2 (k + 1) y0 y1 y2 y3 y4 y5 y6 y7)) ∧ (∀ y0 y1 y2 y3 y4 y5 y6 y7,LeO (spec_bkTell.j3 k y0 y1 y2 y3 y4 y5 y6 y7) (spec_bkTell.j3 (k + 1) y0 y1 y2 y3 y4 y5 y6 y7))
 | 0 => ⟨by intros; intro r h; simp [spec_bkTell.l0] at h,by intros; intro r h; simp [spec_bkTell.l1] at h,by intros; intro r h; simp [spec_bkTell.l2] at h,by intros; intro r h; simp [spec_bkTell.j3] at h⟩
 | k + 1 => by
  obtain ⟨ih0,ih1,ih2,ih3⟩ := spec_bkTell.mono_l k; refine ⟨?_,?_,?_,?_⟩
  ·
   intro y0 y1 y2 y3 y4
   unfold spec_bkTell.l0
   repeat' first
   | (with_reducible exact ih0 _ _ _ _ _)
   | (with_reducible exact ih1 _ _ _ _ _ _ _ _)
   | (with_reducible exact ih2 _ _ _ _ _ _ _ _)
   | (with_reducible exact ih3 _ _ _ _ _ _ _ _)
   | (with_reducible exact LeO.refl _)
   | (with_reducible exact LeO.none _)
   | (with_reducible refine LeO.ite ?_ ?_)
   | (with_reducible refine LeO.bind ?_ (fun _ => ?_))
   | exact ih0 _ _ _ _ _
   | exact ih1 _ _ _ _ _ _ _ _
   | exact ih2 _ _ _ _ _ _ _ _
   | exact ih3 _ _ _ _ _ _ _ _
   | exact LeO.none _
   | refine LeO.ite ?_ ?_
   | refine LeO.bind ?_ (fun _ => ?_)
  ·
   intro y0 y1 y2 y3 y4 y5 y6 y7
   unfold spec_bkTell.l1
   repeat' first
   | (with_reducible exact ih0 _ _ _ _ _)
   | (with_reducible exact ih1 _ _ _ _ _ _ _ _)
   | (with_reducible exact ih2 _ _ _ _ _ _ _ _)
   | (with_reducible exact ih3 _ _ _ _ _ _ _ _)
   | (with_reducible exact LeO.refl _)
   | (with_reducible exact LeO.none _)
   | (with_reducible refine LeO.ite ?_ ?_)
   | (with_reducible refine LeO.bind ?_ (fun _ => ?_))
   | exact ih0 _ _ _ _ _
   | exact ih1 _ _ _ _ _ _ _ _
   | exact ih2 _ _ _ _ _ _ _ _
   | exact ih3 _ _ _ _ _ _ _ _
   | exact LeO.none _
   | refine LeO.ite ?_ ?_
   | refine LeO.bind ?_ (fun _ => ?_)
  ·
   intro y0 y1 y2 y3 y4 y5 y6 y7
   unfold spec_bkTell.l2
   repeat' first
   | (with_reducible exact ih0 _ _ _ _ _)
   | (with_reducible exact ih1 _ _ _ _ _ _ _ _)
   | (with_reducible exact ih2 _ _ _ _ _ _ _ _)
   | (with_reducible exact ih3 _ _ _ _ _ _ _ _)
   | (with_reducible exact LeO.refl _)
   | (with_reducible exact LeO.none _)
   | (with_reducible refine LeO.ite ?_ ?_)
   | (with_reducible refine LeO.bind ?_ (fun _ => ?_))
   | exact ih0 _ _ _ _ _
   | exact ih1 _ _ _ _ _ _ _ _
   | exact ih2 _ _ _ _ _ _ _ _
   | exact ih3 _ _ _ _ _ _ _ _
   | exact LeO.none _
   | refine LeO.ite ?_ ?_
   | refine LeO.bind ?_ (fun _ => ?_)
  ·
   intro y0 y1 y2 y3 y4 y5 y6 y7
   unfold spec_bkTell.j3
   repeat' first
   | (with_reducible exact ih0 _ _ _ _ _)
   | (with_reducible exact ih1 _ _ _ _ _ _ _ _)
   | (with_reducible exact ih2 _ _ _ _ _ _ _ _)
   | (with_reducible exact ih3 _ _ _ _ _ _ _ _)
   | (with_reducible exact LeO.refl _)
   | (with_reducible exact LeO.none _)
   | (with_reducible refine LeO.ite ?_ ?_)
   | (with_reducible refine LeO.bind ?_ (fun _ => ?_))
   | exact ih0 _ _ _ _ _
   | exact ih1 _ _ _ _ _ _ _ _
   | exact ih2 _ _ _ _ _ _ _ _
   | exact ih3 _ _ _ _ _ _ _ _
   | exact LeO.none _
   | refine LeO.ite ?_ ?_
   | refine LeO.bind ?_ (fun _ => ?_)
theorem spec_bkTell.mono : ∀ y0 y1 k,LeO (spec_bkTell.f k y0 y1) (spec_bkTell.f (k + 1) y0 y1) := by
 intro y0 y1 k; obtain ⟨ih0,ih1,ih2,ih3⟩ := spec_bkTell.mono_l k
 unfold spec_bkTell.f
 repeat' first
   | (with_reducible exact ih0 _ _ _ _ _)
   | (with_reducible exact ih1 _ _ _ _ _ _ _ _)
   | (with_reducible exact ih2 _ _ _ _ _ _ _ _)
   | (with_reducible exact ih3 _ _ _ _ _ _ _ _)
   | (with_reducible exact LeO.refl _)
   | (with_reducible exact LeO.none _)
   | (with_reducible refine LeO.ite ?_ ?_)
   | (with_reducible refine LeO.bind ?_ (fun _ => ?_))
   | exact ih0 _ _ _ _ _
   | exact ih1 _ _ _ _ _ _ _ _
   | exact ih2 _ _ _ _ _ _ _ _
   | exact ih3 _ _ _ _ _ _ _ _
   | exact LeO.none _
   | refine LeO.ite ?_ ?_
   | refine LeO.bind ?_ (fun _ => ?_)
set_option maxHeartbeats 8000000 in
set_option maxRecDepth 100000 in
theorem spec_bkTell.calls (k : Nat) (a0 : ByteArray) (a1 : ByteArray) (r1 : ByteArray) (r2 : ByteArray) (w : World) (h : spec_bkTell.f k a0 a1 = some (r1,r2)) :
  Calls Tryd.prog 32 #[.string a0,.string a1] w fun e w' => e = .returned (.tuple #[.string r1,.string r2]) ∧ Drawn0 w w' := by
 have H : (spec_bkTell.l0 k a0 a1 (⟨#[]⟩ : ByteArray) (⟨#[]⟩ : ByteArray) 97) = some (r1,r2) := h; clear h; have H' := Aside0.mk H; clear H
 go_enter Tryd.func32,Tryd.ntmps32
 go_wp2
 go_loopg [6,7,8] k (fun kq v6 v7 v8 w' => ∃ (x6_1 : ByteArray) (x7_1 : ByteArray) (x8_1 : Int),v6 = .string x6_1 ∧ v7 = .string x7_1 ∧ v8 = .int .u8 x8_1 ∧ Aside0 (spec_bkTell.l0 kq a0 a1 x6_1 x7_1 x8_1 = some (r1,r2)) ∧ Aside0 (kq ≤ k) ∧ Drawn0 w w')
 case atStart => exact ⟨((⟨#[]⟩ : ByteArray)),((⟨#[]⟩ : ByteArray)),(97),(by first | rfl | (simp; done) | (simp [*]; done)),(by first | rfl | (simp; done) | (simp [*]; done)),(by first | rfl | (simp; done) | (simp [*]; done)),H',⟨Nat.le_refl _⟩,by repeat (first | exact Drawn0.refl _ | apply Drawn0.step)⟩
 case round =>
  clear H'; try clear p2
  obtain ⟨x6_1,x7_1,x8_1,rfl,rfl,rfl,HA,HK1,⟨m1,rfl⟩⟩ := hrel
  cases gk with
  | zero => exact absurd HA.out (by simp [spec_bkTell.l0])
  | succ k1 =>
   have H := HA.out; clear HA; simp only [spec_bkTell.l0] at H
   by_cases c3 : x8_1 ≤ 122
   ·
    rw [if_pos c3] at H; have c3b0 : decide (x8_1 ≤ 122) = true := decide_eq_true c3; clear c3; have H' := Aside0.mk H; clear H; go_wp2
    go_loopg [9,11] k1 (fun kq v9 v11 w' => ∃ (x9_2 : Int) (x11_2 : Int),v9 = .int .i64 x9_2 ∧ v11 = .int .i64 x11_2 ∧ Aside0 (spec_bkTell.l1 kq a0 a1 x6_1 x7_1 x8_1 x9_2 0 x11_2 = some (r1,r2)) ∧ Aside0 (kq ≤ k1) ∧ Drawn0 w w')
    case atStart => exact ⟨(0),(0),(by first | rfl | (simp; done) | (simp [*]; done)),(by first | rfl | (simp; done) | (simp [*]; done)),H',⟨Nat.le_refl _⟩,by repeat (first | exact Drawn0.refl _ | apply Drawn0.step)⟩
    case round =>
     clear H'; try clear p2
     try clear c3
     try clear c3b0
     try clear p2
     obtain ⟨x9_2,x11_2,rfl,rfl,HA,HK2,⟨m2,rfl⟩⟩ := hrel
     cases gk with
     | zero => exact absurd HA.out (by simp [spec_bkTell.l1])
     | succ k2 =>
      have H := HA.out; clear HA; simp only [spec_bkTell.l1] at H
      by_cases c4 : x11_2 < (a0.size : Int)
      ·
       rw [if_pos c4] at H; have c4b0 : decide (x11_2 < (a0.size : Int)) = true := decide_eq_true c4; clear c4
       by_cases c5 : 0 ≤ x11_2
       ·
        rw [if_pos c5] at H; have c5b0 : decide (0 ≤ x11_2) = true := decide_eq_true c5; clear c5
        by_cases c7 : (bt a0 x11_2) = x8_1
        ·
         rw [if_pos c7] at H; have c7b0 : ((bt a0 x11_2) == x8_1) = true := beq_iff_eq.mpr c7; have c7b1 : ((bt a0 x11_2) != x8_1) = false := bne_eq_false_iff_eq.mpr c7; clear c7; have H' := Aside0.mk H; clear H; have p6 : 0 ≤ (x11_2 : Int) := of_decide_eq_true (by first | (with_reducible assumption) | assumption); have q6 : x11_2 < (a0.size : Int) := of_decide_eq_true (by first | (with_reducible assumption) | assumption); have hx6 := bt_at a0 x11_2; replace p6 := eq_true p6; replace q6 := eq_true q6; go_wp2
         go_roundg k2
         case measure => have := HK1.out; have := HK2.out; omega
         case rel => exact ⟨(wrap64 (x9_2 + 1)),(wrap64 (x11_2 + 1)),(by first | rfl | (simp; done) | (simp [*]; done)),(by first | rfl | (simp; done) | (simp [*]; done)),H',⟨by have := HK1.out; have := HK2.out; omega⟩,by repeat (first | exact Drawn0.refl _ | apply Drawn0.step)⟩
        ·
         rw [if_neg c7] at H; have c7b0 : ((bt a0 x11_2) == x8_1) = false := beq_eq_false_iff_ne.mpr c7; have c7b1 : ((bt a0 x11_2) != x8_1) = true := bne_iff_ne.mpr c7; have H' := Aside0.mk H; clear H; have p6 : 0 ≤ (x11_2 : Int) := of_decide_eq_true (by first | (with_reducible assumption) | assumption); have q6 : x11_2 < (a0.size : Int) := of_decide_eq_true (by first | (with_reducible assumption) | assumption); have hx6 := bt_at a0 x11_2; replace p6 := eq_true p6; replace q6 := eq_true q6; go_wp2
         go_roundg k2
         case measure => have := HK1.out; have := HK2.out; omega
         case rel => exact ⟨(x9_2),(wrap64 (x11_2 + 1)),(by first | rfl | (simp; done) | (simp [*]; done)),(by first | rfl | (simp; done) | (simp [*]; done)),H',⟨by have := HK1.out; have := HK2.out; omega⟩,by repeat (first | exact Drawn0.refl _ | apply Drawn0.step)⟩
       · rw [if_neg c5] at H; exact absurd H (by simp)
      ·
       rw [if_neg c4] at H; have c4b0 : decide (x11_2 < (a0.size : Int)) = false := decide_eq_false c4; clear c4; have H' := Aside0.mk H; clear H; go_wp2
       go_loopg [10,12] k2 (fun kq v10 v12 w' => ∃ (x10_3 : Int) (x12_3 : Int),v10 = .int .i64 x10_3 ∧ v12 = .int .i64 x12_3 ∧ Aside0 (spec_bkTell.l2 kq a0 a1 x6_1 x7_1 x8_1 x9_2 x10_3 x12_3 = some (r1,r2)) ∧ Aside0 (kq ≤ k2) ∧ Drawn0 w w')
       case atStart => exact ⟨(0),(0),(by first | rfl | (simp; done) | (simp [*]; done)),(by first | rfl | (simp; done) | (simp [*]; done)),H',⟨Nat.le_refl _⟩,by repeat (first | exact Drawn0.refl _ | apply Drawn0.step)⟩
       case round =>
        clear H'; try clear p2
        try clear c3
        try clear c3b0
        try clear c4
        try clear c4b0
        try clear c5
        try clear c5b0
        try clear p6
        try clear q6
        try clear hx6
        try clear c7
        try clear c7b0
        try clear c7b1
        try clear p2
        try clear p6
        try clear q6
        obtain ⟨x10_3,x12_3,rfl,rfl,HA,HK3,⟨m3,rfl⟩⟩ := hrel
        cases gk with
        | zero => exact absurd HA.out (by simp [spec_bkTell.l2])
        | succ k3 =>
         have H := HA.out; clear HA; simp only [spec_bkTell.l2] at H
         by_cases c8 : x12_3 < (a1.size : Int)
         ·
          rw [if_pos c8] at H; have c8b0 : decide (x12_3 < (a1.size : Int)) = true := decide_eq_true c8; clear c8
          by_cases c9 : 0 ≤ x12_3
          ·
           rw [if_pos c9] at H; have c9b0 : decide (0 ≤ x12_3) = true := decide_eq_true c9; clear c9
           by_cases c11 : (bt a1 x12_3) = x8_1
           ·
            rw [if_pos c11] at H; have c11b0 : ((bt a1 x12_3) == x8_1) = true := beq_iff_eq.mpr c11; have c11b1 : ((bt a1 x12_3) != x8_1) = false := bne_eq_false_iff_eq.mpr c11; clear c11; have H' := Aside0.mk H; clear H; have p10 : 0 ≤ (x12_3 : Int) := of_decide_eq_true (by first | (with_reducible assumption) | assumption); have q10 : x12_3 < (a1.size : Int) := of_decide_eq_true (by first | (with_reducible assumption) | assumption); have hx10 := bt_at a1 x12_3; replace p10 := eq_true p10; replace q10 := eq_true q10; go_wp2
            go_roundg k3
            case measure => have := HK1.out; have := HK2.out; have := HK3.out; omega
            case rel => exact ⟨(wrap64 (x10_3 + 1)),(wrap64 (x12_3 + 1)),(by first | rfl | (simp; done) | (simp [*]; done)),(by first | rfl | (simp; done) | (simp [*]; done)),H',⟨by have := HK1.out; have := HK2.out; have := HK3.out; omega⟩,by repeat (first | exact Drawn0.refl _ | apply Drawn0.step)⟩
           ·
            rw [if_neg c11] at H; have c11b0 : ((bt a1 x12_3) == x8_1) = false := beq_eq_false_iff_ne.mpr c11; have c11b1 : ((bt a1 x12_3) != x8_1) = true := bne_iff_ne.mpr c11; have H' := Aside0.mk H; clear H; have p10 : 0 ≤ (x12_3 : Int) := of_decide_eq_true (by first | (with_reducible assumption) | assumption); have q10 : x12_3 < (a1.size : Int) := of_decide_eq_true (by first | (with_reducible assumption) | assumption); have hx10 := bt_at a1 x12_3; replace p10 := eq_true p10; replace q10 := eq_true q10; go_wp2
            go_roundg k3
            case measure => have := HK1.out; have := HK2.out; have := HK3.out; omega
            case rel => exact ⟨(x10_3),(wrap64 (x12_3 + 1)),(by first | rfl | (simp; done) | (simp [*]; done)),(by first | rfl | (simp; done) | (simp [*]; done)),H',⟨by have := HK1.out; have := HK2.out; have := HK3.out; omega⟩,by repeat (first | exact Drawn0.refl _ | apply Drawn0.step)⟩
          · rw [if_neg c9] at H; exact absurd H (by simp)
         ·
          rw [if_neg c8] at H; have c8b0 : decide (x12_3 < (a1.size : Int)) = false := decide_eq_false c8; clear c8; have HC12 := Aside0.mk H; clear H
          go_upto_region 16 with (fail)
          go_cut [43] (fun v43 wc => ∃ (kq : Nat) (x43_11 : Bool),v43 = .bool x43_11 ∧ Aside0 (spec_bkTell.j3 kq a0 a1 x6_1 x7_1 x8_1 x9_2 x10_3 x43_11 = some (r1,r2)) ∧ Aside0 (kq ≤ k3) ∧ Drawn0 w wc)
          case first =>
           have H := HC12.out; clear HC12
           by_cases c13 : x9_2 > 0
           ·
            rw [if_pos c13] at H; have c13b0 : decide (0 < x9_2) = true := decide_eq_true c13; clear c13
            (first | rw [c13b0] | (simp only [i64_w,i32_w]; rw [c13b0]) | skip)
            have H' := Aside0.mk H; clear H; go_wp2
            go_meet
            case rel => exact ⟨_,((x10_3 == 0)),(by first | rfl | (simp; done) | (simp [*]; done)),H',⟨by have := HK1.out; have := HK2.out; have := HK3.out; first | omega | exact Nat.le_refl _⟩,by repeat (first | exact Drawn0.refl _ | apply Drawn0.step)⟩
           ·
            rw [if_neg c13] at H; have c13b0 : decide (0 < x9_2) = false := decide_eq_false c13; clear c13
            (first | rw [c13b0] | (simp only [i64_w,i32_w]; rw [c13b0]) | skip)
            have H' := Aside0.mk H; clear H; go_wp2
            go_meet
            case rel => exact ⟨_,(false),(by first | rfl | (simp; done) | (simp [*]; done)),H',⟨by have := HK1.out; have := HK2.out; have := HK3.out; first | omega | exact Nat.le_refl _⟩,by repeat (first | exact Drawn0.refl _ | apply Drawn0.step)⟩
          case rest =>
           clear HC12; try clear c1
           try clear p1
           try clear q1
           try clear hx1
           try clear p2
           try clear c3
           try clear c3b0
           try clear c4
           try clear c4b0
           try clear c5
           try clear c5b0
           try clear p6
           try clear q6
           try clear hx6
           try clear c7
           try clear c7b0
           try clear c7b1
           try clear c8
           try clear c8b0
           try clear c9
           try clear c9b0
           try clear p10
           try clear q10
           try clear hx10
           try clear c11
           try clear c11b0
           try clear c11b1
           try clear c13
           try clear c13b0
           try clear p10
           try clear p2
           try clear p6
           try clear q10
           try clear q6
           obtain ⟨kq,x43_11,rfl,HA,HJ11,⟨mc11,rfl⟩⟩ := hcut
           cases kq with
           | zero => exact absurd HA.out (by simp [spec_bkTell.j3])
           | succ kj11 =>
            have H := HA.out; clear HA; simp only [spec_bkTell.j3] at H
            by_cases c14 : x43_11 = true
            ·
             subst c14; have H1 : (if x6_1.size + (Utf8.encode (wrap32 (x8_1))).size ≤ 9223372036854775807 then (spec_bkTell.l0 kj11 a0 a1 (x6_1 ++ (Utf8.encode (wrap32 (x8_1)))) x7_1 ((x8_1 + 1) % 256)) else (none)) = some (r1,r2) := by rw [if_pos rfl] at H; exact H
             clear H; have H := H1; clear H1
             by_cases c15 : x6_1.size + (Utf8.encode (wrap32 (x8_1))).size ≤ 9223372036854775807
             ·
              rw [if_pos c15] at H; have c15b0 := eq_true c15; have c15b1 : decide (x6_1.size + (Utf8.encode (wrap32 (x8_1))).size ≤ 9223372036854775807) = true := decide_eq_true c15; try have c15b2 : (9223372036854775807 < x6_1.size + (Utf8.encode (wrap32 (x8_1))).size) = False := eq_false (Nat.not_lt.2 c15)
              have H' := Aside0.mk H; clear H; have hcv16 : ∀ W : World,(convert 21 9 (.int .i32 (wrap32 (x8_1)))).run Tryd.prog W = .ok (.string (Utf8.encode (wrap32 (x8_1)))) W := fun W => run_convert_int_string W 21 9 .i32 (wrap32 (x8_1)) (by rw [Tryd.underlying21]; rfl) Tryd.underlying9
              go_wp2
              go_roundg kj11
              case measure => have := HK1.out; have := HK2.out; have := HK3.out; have := HJ11.out; omega
              case rel => exact ⟨(x6_1 ++ (Utf8.encode (wrap32 (x8_1)))),(x7_1),((x8_1 + 1) % 256),(by first | rfl | (simp; done) | (simp [*]; done)),(by first | rfl | (simp; done) | (simp [*]; done)),(by first | rfl | (simp; done) | (simp [*]; done)),H',⟨by have := HK1.out; have := HK2.out; have := HK3.out; have := HJ11.out; omega⟩,by repeat (first | exact Drawn0.refl _ | apply Drawn0.step)⟩
             · rw [if_neg c15] at H; exact absurd H (by simp)
            ·
             replace c14 := Bool.eq_false_iff.mpr c14; subst c14; have H1 : (if x9_2 > 0 then (if x10_3 = (wrap64 (2 * x9_2)) then (if x7_1.size + (Utf8.encode (wrap32 (x8_1))).size ≤ 9223372036854775807 then (spec_bkTell.l0 kj11 a0 a1 x6_1 (x7_1 ++ (Utf8.encode (wrap32 (x8_1)))) ((x8_1 + 1) % 256)) else (none)) else (spec_bkTell.l0 kj11 a0 a1 x6_1 x7_1 ((x8_1 + 1) % 256))) else (spec_bkTell.l0 kj11 a0 a1 x6_1 x7_1 ((x8_1 + 1) % 256))) = some (r1,r2) := by rw [if_neg (show ¬ (false = true) by decide)] at H; exact H
             clear H; have H := H1; clear H1
             by_cases c17 : x9_2 > 0
             ·
              rw [if_pos c17] at H; have c17b0 : decide (0 < x9_2) = true := decide_eq_true c17; clear c17
              by_cases c18 : x10_3 = (wrap64 (2 * x9_2))
              ·
               rw [if_pos c18] at H; have c18b0 : (x10_3 == (wrap64 (2 * x9_2))) = true := beq_iff_eq.mpr c18; have c18b1 : (x10_3 != (wrap64 (2 * x9_2))) = false := bne_eq_false_iff_eq.mpr c18; clear c18
               by_cases c19 : x7_1.size + (Utf8.encode (wrap32 (x8_1))).size ≤ 9223372036854775807
               ·
                rw [if_pos c19] at H; have c19b0 := eq_true c19; have c19b1 : decide (x7_1.size + (Utf8.encode (wrap32 (x8_1))).size ≤ 9223372036854775807) = true := decide_eq_true c19; try have c19b2 : (9223372036854775807 < x7_1.size + (Utf8.encode (wrap32 (x8_1))).size) = False := eq_false (Nat.not_lt.2 c19)
                have H' := Aside0.mk H; clear H; have hcv20 : ∀ W : World,(convert 21 9 (.int .i32 (wrap32 (x8_1)))).run Tryd.prog W = .ok (.string (Utf8.encode (wrap32 (x8_1)))) W := fun W => run_convert_int_string W 21 9 .i32 (wrap32 (x8_1)) (by rw [Tryd.underlying21]; rfl) Tryd.underlying9
                go_wp2
                go_roundg kj11
                case measure => have := HK1.out; have := HK2.out; have := HK3.out; have := HJ11.out; omega
                case rel => exact ⟨(x6_1),(x7_1 ++ (Utf8.encode (wrap32 (x8_1)))),((x8_1 + 1) % 256),(by first | rfl | (simp; done) | (simp [*]; done)),(by first | rfl | (simp; done) | (simp [*]; done)),(by first | rfl | (simp; done) | (simp [*]; done)),H',⟨by have := HK1.out; have := HK2.out; have := HK3.out; have := HJ11.out; omega⟩,by repeat (first | exact Drawn0.refl _ | apply Drawn0.step)⟩
               · rw [if_neg c19] at H; exact absurd H (by simp)
              ·
               rw [if_neg c18] at H; have c18b0 : (x10_3 == (wrap64 (2 * x9_2))) = false := beq_eq_false_iff_ne.mpr c18; have c18b1 : (x10_3 != (wrap64 (2 * x9_2))) = true := bne_iff_ne.mpr c18; have H' := Aside0.mk H; clear H; go_wp2
               go_roundg kj11
               case measure => have := HK1.out; have := HK2.out; have := HK3.out; have := HJ11.out; omega
               case rel => exact ⟨(x6_1),(x7_1),((x8_1 + 1) % 256),(by first | rfl | (simp; done) | (simp [*]; done)),(by first | rfl | (simp; done) | (simp [*]; done)),(by first | rfl | (simp; done) | (simp [*]; done)),H',⟨by have := HK1.out; have := HK2.out; have := HK3.out; have := HJ11.out; omega⟩,by repeat (first | exact Drawn0.refl _ | apply Drawn0.step)⟩
             ·
              rw [if_neg c17] at H; have c17b0 : decide (0 < x9_2) = false := decide_eq_false c17; clear c17; have H' := Aside0.mk H; clear H; go_wp2
              go_roundg kj11
              case measure => have := HK1.out; have := HK2.out; have := HK3.out; have := HJ11.out; omega
              case rel => exact ⟨(x6_1),(x7_1),((x8_1 + 1) % 256),(by first | rfl | (simp; done) | (simp [*]; done)),(by first | rfl | (simp; done) | (simp [*]; done)),(by first | rfl | (simp; done) | (simp [*]; done)),H',⟨by have := HK1.out; have := HK2.out; have := HK3.out; have := HJ11.out; omega⟩,by repeat (first | exact Drawn0.refl _ | apply Drawn0.step)⟩
   ·
    rw [if_neg c3] at H; have c3b0 : decide (x8_1 ≤ 122) = false := decide_eq_false c3; clear c3; simp only [Option.some.injEq,Prod.mk.injEq] at H; obtain ⟨rfl,rfl⟩ := H; go_wp2
    go_ret2
    exact ⟨by first | rfl | (simp; done) | (simp [*]; done),by repeat (first | exact Drawn0.refl _ | apply Drawn0.step)⟩

end Go.Proofs.YtcidlaabbkimdaaDoor.P

-- printed by xprint.py
namespace Go.Proofs.YtcidlaabbkimdaaDoor.P
open Go.RowKit Go.Proofs.YtcidlaabbkimdaaDoorW.PrintWords Go.Proofs.YtcidlaabbkimdaaDoorW.PrintLast Go.Proofs.YtcidlaabbkimdaaDoorW.PrintMore
attribute [local go_sem] max2_int min2_int max_two min_two max_three min_three max_four min_four   -- for this text's walks alone
set_option linter.unusedVariables false
set_option linter.unusedSimpArgs false

/-! ### spec_bkHalf: function 50 -/
def spec_bkHalf.f (a0 : ByteArray) (a1 : Int) : Option (ByteArray) := if a1 = 0 then (if 0 ≤ (wrap64 ((a0.size : Int) / 2)) then (if (wrap64 ((a0.size : Int) / 2)) ≤ (a0.size : Int) then (some (a0.extract 0 ((wrap64 ((a0.size : Int) / 2)) : Int).toNat)) else (none)) else (none)) else (if 0 ≤ (wrap64 ((a0.size : Int) / 2)) then (if (wrap64 ((a0.size : Int) / 2)) ≤ (a0.size : Int) then (some (a0.extract ((wrap64 ((a0.size : Int) / 2)) : Int).toNat a0.size)) else (none)) else (none))
set_option maxHeartbeats 8000000 in
set_option maxRecDepth 100000 in
theorem spec_bkHalf.calls (a0 : ByteArray) (a1 : Int) (r : ByteArray) (w : World) (h : spec_bkHalf.f a0 a1 = some r) :
  Calls Tryd.prog 50 #[.string a0,.int .i64 a1] w fun e w' => e = .returned (.string r) ∧ Drawn0 w w' := by
 have H : (if a1 = 0 then (if 0 ≤ (wrap64 ((a0.size : Int) / 2)) then (if (wrap64 ((a0.size : Int) / 2)) ≤ (a0.size : Int) then (some (a0.extract 0 ((wrap64 ((a0.size : Int) / 2)) : Int).toNat)) else (none)) else (none)) else (if 0 ≤ (wrap64 ((a0.size : Int) / 2)) then (if (wrap64 ((a0.size : Int) / 2)) ≤ (a0.size : Int) then (some (a0.extract ((wrap64 ((a0.size : Int) / 2)) : Int).toNat a0.size)) else (none)) else (none))) = some r := h; clear h
 by_cases c3 : a1 = 0
 ·
  rw [if_pos c3] at H; have c3b0 : (a1 == 0) = true := beq_iff_eq.mpr c3; have c3b1 : (a1 != 0) = false := bne_eq_false_iff_eq.mpr c3; clear c3; obtain ⟨ji4,hji4⟩ : ∃ j_ : Int,(wrap64 ((a0.size : Int) / 2)) = j_ := ⟨_,rfl⟩; replace H : (if 0 ≤ (ji4) then (if (ji4) ≤ (a0.size : Int) then (some (a0.extract 0 ((ji4) : Int).toNat)) else (none)) else (none)) = some r := by first | (rw [hji4] at H; exact H) | (simp only [hji4] at H ⊢; exact H)
  have hji4w : (IntKind.i64.wrap ((a0.size : Int) / 2)) = ji4 := (i64_w _).trans hji4
  by_cases c5 : 0 ≤ (ji4)
  ·
   rw [if_pos c5] at H; have c5b0 := eq_true c5; have c5b1 : decide (0 ≤ (ji4)) = true := decide_eq_true c5; clear c5
   by_cases c6 : (ji4) ≤ (a0.size : Int)
   ·
    rw [if_pos c6] at H; have c6b0 := eq_true c6; have c6b1 : decide ((ji4) ≤ (a0.size : Int)) = true := decide_eq_true c6; clear c6; obtain rfl := Option.some.inj H
    go_enter Tryd.func50,Tryd.ntmps50
    go_wp2
    go_ret
    exact ⟨by first | rfl | (simp; done) | (simp only [← hji4] <;> (first | rfl | simp)) | (simp [*]; done),by repeat (first | exact Drawn0.refl _ | apply Drawn0.step)⟩
   · rw [if_neg c6] at H; exact absurd H (by simp)
  · rw [if_neg c5] at H; exact absurd H (by simp)
 ·
  rw [if_neg c3] at H; have c3b0 : (a1 == 0) = false := beq_eq_false_iff_ne.mpr c3; have c3b1 : (a1 != 0) = true := bne_iff_ne.mpr c3; obtain ⟨ji7,hji7⟩ : ∃ j_ : Int,(wrap64 ((a0.size : Int) / 2)) = j_ := ⟨_,rfl⟩; replace H : (if 0 ≤ (ji7) then (if (ji7) ≤ (a0.size : Int) then (some (a0.extract ((ji7) : Int).toNat a0.size)) else (none)) else (none)) = some r := by first | (rw [hji7] at H; exact H) | (simp only [hji7] at H ⊢; exact H)
  have hji7w : (IntKind.i64.wrap ((a0.size : Int) / 2)) = ji7 := (i64_w _).trans hji7
  by_cases c8 : 0 ≤ (ji7)
  ·
   rw [if_pos c8] at H; have c8b0 := eq_true c8; have c8b1 : decide (0 ≤ (ji7)) = true := decide_eq_true c8; clear c8
   by_cases c9 : (ji7) ≤ (a0.size : Int)
   ·
    rw [if_pos c9] at H; have c9b0 := eq_true c9; have c9b1 : decide ((ji7) ≤ (a0.size : Int)) = true := decide_eq_true c9; clear c9; obtain rfl := Option.some.inj H
    go_enter Tryd.func50,Tryd.ntmps50
    go_wp2
    go_ret
    exact ⟨by first | rfl | (simp; done) | (simp only [← hji7] <;> (first | rfl | simp)) | (simp [*]; done),by repeat (first | exact Drawn0.refl _ | apply Drawn0.step)⟩
   · rw [if_neg c9] at H; exact absurd H (by simp)
  · rw [if_neg c8] at H; exact absurd H (by simp)

end Go.Proofs.YtcidlaabbkimdaaDoor.P

-- printed by xprint.py
namespace Go.Proofs.YtcidlaabbkimdaaDoor.P
open Go.RowKit Go.Proofs.YtcidlaabbkimdaaDoorW.PrintWords Go.Proofs.YtcidlaabbkimdaaDoorW.PrintLast Go.Proofs.YtcidlaabbkimdaaDoorW.PrintMore
attribute [local go_sem] max2_int min2_int max_two min_two max_three min_three max_four min_four   -- for this text's walks alone
set_option linter.unusedVariables false
set_option linter.unusedSimpArgs false

/-! ### spec_bkText: function 27 -/
def spec_bkText.l0 : Nat → ByteArray → Int → Option (Bool)
 | 0,_,_ => none
 | k + 1,x0,x3 => if x3 < (x0.size : Int) then (if 0 ≤ x3 then (if (bt x0 x3) < 97 then (some false) else (if (bt x0 x3) > 122 then (some false) else (spec_bkText.l0 k x0 (wrap64 (x3 + 1))))) else (none)) else (some true)
def spec_bkText.f (k : Nat) (a0 : ByteArray) : Option (Bool) := if (a0.size : Int) > 20 then (some false) else (spec_bkText.l0 k a0 0)
theorem spec_bkText.mono_l : ∀ k,(∀ y0 y1,LeO (spec_bkText.l0 k y0 y1) (spec_bkText.l0 (k + 1) y0 y1))
 | 0 => by intros; intro r h; simp [spec_bkText.l0] at h
 | k + 1 => by
  have ih0 := spec_bkText.mono_l k
  ·
   intro y0 y1
   unfold spec_bkText.l0
   repeat' first
   | (with_reducible exact ih0 _ _)
   | (with_reducible exact LeO.refl _)
   | (with_reducible exact LeO.none _)
   | (with_reducible refine LeO.ite ?_ ?_)
   | (with_reducible refine LeO.bind ?_ (fun _ => ?_))
   | exact ih0 _ _
   | exact LeO.none _
   | refine LeO.ite ?_ ?_
   | refine LeO.bind ?_ (fun _ => ?_)
theorem spec_bkText.mono : ∀ y0 k,LeO (spec_bkText.f k y0) (spec_bkText.f (k + 1) y0) := by
 intro y0 k; have ih0 := spec_bkText.mono_l k
 unfold spec_bkText.f
 repeat' first
   | (with_reducible exact ih0 _ _)
   | (with_reducible exact LeO.refl _)
   | (with_reducible exact LeO.none _)
   | (with_reducible refine LeO.ite ?_ ?_)
   | (with_reducible refine LeO.bind ?_ (fun _ => ?_))
   | exact ih0 _ _
   | exact LeO.none _
   | refine LeO.ite ?_ ?_
   | refine LeO.bind ?_ (fun _ => ?_)
set_option maxHeartbeats 8000000 in
set_option maxRecDepth 100000 in
theorem spec_bkText.calls (k : Nat) (a0 : ByteArray) (r : Bool) (w : World) (h : spec_bkText.f k a0 = some r) :
  Calls Tryd.prog 27 #[.string a0] w fun e w' => e = .returned (.bool r) ∧ Drawn0 w w' := by
 have H : (if (a0.size : Int) > 20 then (some false) else (spec_bkText.l0 k a0 0)) = some r := h; clear h
 by_cases c2 : (a0.size : Int) > 20
 ·
  rw [if_pos c2] at H; have c2b0 : decide (20 < (a0.size : Int)) = true := decide_eq_true c2; have c2b1 : decide (20 < a0.size) = true := decide_eq_true (by omega); clear c2; obtain rfl := Option.some.inj H
  go_enter Tryd.func27,Tryd.ntmps27
  go_wp2
  go_ret
  exact ⟨by first | rfl | (simp; done) | (simp [*]; done),by repeat (first | exact Drawn0.refl _ | apply Drawn0.step)⟩
 ·
  rw [if_neg c2] at H; have c2b0 : decide (20 < (a0.size : Int)) = false := decide_eq_false c2; have c2b1 : decide (20 < a0.size) = false := decide_eq_false (by omega); clear c2; have H' := Aside0.mk H; clear H
  go_enter Tryd.func27,Tryd.ntmps27
  go_wp2
  go_loopg [3] k (fun kq v3 w' => ∃ (x3_1 : Int),v3 = .int .i64 x3_1 ∧ Aside0 (spec_bkText.l0 kq a0 x3_1 = some r) ∧ Aside0 (kq ≤ k) ∧ Drawn0 w w')
  case atStart => exact ⟨(0),(by first | rfl | (simp; done) | (simp [*]; done)),H',⟨Nat.le_refl _⟩,by repeat (first | exact Drawn0.refl _ | apply Drawn0.step)⟩
  case round =>
   clear H'; try clear c2
   try clear c2b0
   try clear c2b1
   try clear p2
   obtain ⟨x3_1,rfl,HA,HK1,⟨m1,rfl⟩⟩ := hrel
   cases gk with
   | zero => exact absurd HA.out (by simp [spec_bkText.l0])
   | succ k1 =>
    have H := HA.out; clear HA; simp only [spec_bkText.l0] at H
    by_cases c3 : x3_1 < (a0.size : Int)
    ·
     rw [if_pos c3] at H; have c3b0 : decide (x3_1 < (a0.size : Int)) = true := decide_eq_true c3; clear c3
     by_cases c4 : 0 ≤ x3_1
     ·
      rw [if_pos c4] at H; have c4b0 : decide (0 ≤ x3_1) = true := decide_eq_true c4; clear c4
      by_cases c6 : (bt a0 x3_1) < 97
      ·
       rw [if_pos c6] at H; have c6b0 : decide ((bt a0 x3_1) < 97) = true := decide_eq_true c6; clear c6; obtain rfl := Option.some.inj H; have p5 : 0 ≤ (x3_1 : Int) := of_decide_eq_true (by first | (with_reducible assumption) | assumption); have q5 : x3_1 < (a0.size : Int) := of_decide_eq_true (by first | (with_reducible assumption) | assumption); have hx5 := bt_at a0 x3_1; replace p5 := eq_true p5; replace q5 := eq_true q5; go_wp2
       go_ret
       exact ⟨by first | rfl | (simp; done) | (simp [*]; done),by repeat (first | exact Drawn0.refl _ | apply Drawn0.step)⟩
      ·
       rw [if_neg c6] at H; have c6b0 : decide ((bt a0 x3_1) < 97) = false := decide_eq_false c6; clear c6
       by_cases c8 : (bt a0 x3_1) > 122
       ·
        rw [if_pos c8] at H; have c8b0 : decide (122 < (bt a0 x3_1)) = true := decide_eq_true c8; clear c8; obtain rfl := Option.some.inj H; have p5 : 0 ≤ (x3_1 : Int) := of_decide_eq_true (by first | (with_reducible assumption) | assumption); have q5 : x3_1 < (a0.size : Int) := of_decide_eq_true (by first | (with_reducible assumption) | assumption); have hx5 := bt_at a0 x3_1; replace p5 := eq_true p5; replace q5 := eq_true q5; have p7 : 0 ≤ (x3_1 : Int) := of_decide_eq_true (by first | (with_reducible assumption) | assumption); have q7 : x3_1 < (a0.size : Int) := of_decide_eq_true (by first | (with_reducible assumption) | assumption); have hx7 := bt_at a0 x3_1; replace p7 := eq_true p7; replace q7 := eq_true q7; go_wp2
        go_ret
        exact ⟨by first | rfl | (simp; done) | (simp [*]; done),by repeat (first | exact Drawn0.refl _ | apply Drawn0.step)⟩
       ·
        rw [if_neg c8] at H; have c8b0 : decide (122 < (bt a0 x3_1)) = false := decide_eq_false c8; clear c8; have H' := Aside0.mk H; clear H; have p5 : 0 ≤ (x3_1 : Int) := of_decide_eq_true (by first | (with_reducible assumption) | assumption); have q5 : x3_1 < (a0.size : Int) := of_decide_eq_true (by first | (with_reducible assumption) | assumption); have hx5 := bt_at a0 x3_1; replace p5 := eq_true p5; replace q5 := eq_true q5; have p7 : 0 ≤ (x3_1 : Int) := of_decide_eq_true (by first | (with_reducible assumption) | assumption); have q7 : x3_1 < (a0.size : Int) := of_decide_eq_true (by first | (with_reducible assumption) | assumption); have hx7 := bt_at a0 x3_1; replace p7 := eq_true p7; replace q7 := eq_true q7; go_wp2
        go_roundg k1
        case measure => have := HK1.out; omega
        case rel => exact ⟨(wrap64 (x3_1 + 1)),(by first | rfl | (simp; done) | (simp [*]; done)),H',⟨by have := HK1.out; omega⟩,by repeat (first | exact Drawn0.refl _ | apply Drawn0.step)⟩
     · rw [if_neg c4] at H; exact absurd H (by simp)
    ·
     rw [if_neg c3] at H; have c3b0 : decide (x3_1 < (a0.size : Int)) = false := decide_eq_false c3; clear c3; obtain rfl := Option.some.inj H; go_wp2
     go_ret
     exact ⟨by first | rfl | (simp; done) | (simp [*]; done),by repeat (first | exact Drawn0.refl _ | apply Drawn0.step)⟩

end Go.Proofs.YtcidlaabbkimdaaDoor.P

