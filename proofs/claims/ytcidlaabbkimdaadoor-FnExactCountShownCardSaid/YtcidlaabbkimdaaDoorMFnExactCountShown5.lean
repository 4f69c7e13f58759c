/- Part 5 of 5 of the proof of: FnExactCountShownCardSaid: the law 'FnExactCountShown' answers true for every input, and leaves its arguments as they were. The row and its tied card, over the walk of its calls and the pure statement. -/
import Derived.Test.YtcidlaabbkimdaaDoorMFnExactCountShown1
import Derived.Test.YtcidlaabbkimdaaDoorMFnExactCountShown2
import Derived.Test.YtcidlaabbkimdaaDoorMFnExactCountShown3
import Derived.Test.YtcidlaabbkimdaaDoorMFnExactCountShown4
import Derived.Ground.NamesProg
import Derived.Shelf.SlicesE.Compact
import Derived.Lib.ConvBytes
import Derived.Lib.OwnBridge
import Derived.Ground.SlgnProg
import Derived.Laws.IdiomStrings
import Derived.Test.YtcidlaabbkimdaaDoorMFnExactCountShownW
import Derived.Laws.RangeString
import Derived.Below
import Derived.Laws.Slices
import Derived.Laws.Strings
import Derived.Lib.SlTrimSet
import Derived.Lib.Bytealg
import Derived.Sort.LotA
import Derived.Sort.LotB
import Derived.Sort.LotC
import Derived.Sort.Walk13a
import Derived.Sort.LotD4
import Derived.Sort.AssemblyPlain
import Derived.Lib.SlicesCompact
import Derived.WalkKit
import Derived.ProofKit
import Derived.OpenShut
import Derived.ShutString
import Derived.ChangeOld
import Derived.SizedLaws
import Derived.ChangeSlices
import Derived.SliceStrings
import Derived.Lib.SmallJoins
import Derived.LaidLaws
import Derived.LaidHandle
import Derived.LaidMore
import Derived.Test.YtcidlaabbkimdaaDoorRows
import Derived.Test.YtcidlaabbkimdaaDoorCards
import Derived.Test.YtcidlaabbkimdaaDoorTie
import Derived.Handed
import Derived.SevenTiedAt
import Derived.Stop.Joined
-- printed by xprint.py
namespace Go.Proofs.YtcidlaabbkimdaaDoor.P
open Go.RowKit Go.Proofs.YtcidlaabbkimdaaDoorW.PrintWords Go.Proofs.YtcidlaabbkimdaaDoorW.PrintLast Go.Proofs.YtcidlaabbkimdaaDoorW.PrintMore
attribute [local go_sem] max2_int min2_int max_two min_two max_three min_three max_four min_four   -- for this text's walks alone
set_option linter.unusedVariables false
set_option linter.unusedSimpArgs false

/-! ### slices_reverseRangeOrdered_byte: function 80 -/
def slices_reverseRangeOrdered_byte.l0 : Nat → List Int → Int → Int → Option (List Int)
 | 0,_,_,_ => none
 | k + 1,x0,x6,x7 => if x6 < x7 then (if 0 ≤ x7 then (if x7 < (x0.length : Int) then (if 0 ≤ x6 then (if x6 < (x0.length : Int) then (slices_reverseRangeOrdered_byte.l0 k ((x0.set (x6 : Int).toNat (rd x0 x7)).set (x7 : Int).toNat (rd x0 x6)) (wrap64 (x6 + 1)) (wrap64 (x7 - 1))) else (none)) else (none)) else (none)) else (none)) else (some x0)
def slices_reverseRangeOrdered_byte.f (k : Nat) (l0 : List Int) (a1 : Int) (a2 : Int) : Option (List Int) := slices_reverseRangeOrdered_byte.l0 k l0 a1 (wrap64 (a2 - 1))
theorem slices_reverseRangeOrdered_byte.mono_l : ∀ k,(∀ y0 y1 y2,LeO (slices_reverseRangeOrdered_byte.l0 k y0 y1 y2) (slices_reverseRangeOrdered_byte.l0 (k + 1) y0 y1 y2))
 | 0 => by intros; intro r h; simp [slices_reverseRangeOrdered_byte.l0] at h
 | k + 1 => by
  have ih0 := slices_reverseRangeOrdered_byte.mono_l k
  ·
   intro y0 y1 y2
   unfold slices_reverseRangeOrdered_byte.l0
   repeat' first
   | (with_reducible exact ih0 _ _ _)
   | (with_reducible exact LeO.refl _)
   | (with_reducible exact LeO.none _)
   | (with_reducible refine LeO.ite ?_ ?_)
   | (with_reducible refine LeO.bind ?_ (fun _ => ?_))
   | exact ih0 _ _ _
   | exact LeO.none _
   | refine LeO.ite ?_ ?_
   | refine LeO.bind ?_ (fun _ => ?_)
theorem slices_reverseRangeOrdered_byte.mono : ∀ y0 y1 y2 k,LeO (slices_reverseRangeOrdered_byte.f k y0 y1 y2) (slices_reverseRangeOrdered_byte.f (k + 1) y0 y1 y2) := by
 intro y0 y1 y2 k; have ih0 := slices_reverseRangeOrdered_byte.mono_l k
 unfold slices_reverseRangeOrdered_byte.f
 repeat' first
   | (with_reducible exact ih0 _ _ _)
   | (with_reducible exact LeO.refl _)
   | (with_reducible exact LeO.none _)
   | (with_reducible refine LeO.ite ?_ ?_)
   | (with_reducible refine LeO.bind ?_ (fun _ => ?_))
   | exact ih0 _ _ _
   | exact LeO.none _
   | refine LeO.ite ?_ ?_
   | refine LeO.bind ?_ (fun _ => ?_)
def slices_reverseRangeOrdered_byte.T3 : Bool × List (List Nat × List Nat) := (true,[([],[]),([],[]),([],[]),([],[]),([],[]),([],[]),([4,5],[4,5]),([6],[6]),([],[]),([],[]),([8,9],[8,9]),([10],[10]),([0,1,0,1,4,5,6,7,11],[0,1]),([12,7,0,1,4,5,6,7,11],[7,12]),([2,3,0,1,2,3,4,5,6,7,8,9,10,11,12,13],[2,3]),([14,11,13,0,1,2,3,4,5,6,7,8,9,10,11,12,13],[11,14])])
def slices_reverseRangeOrdered_byte.B3 : List Nat := [0,0,0,0,0,0,48,112,0,0,768,1792,4083,8179,16383,32767]
theorem slices_reverseRangeOrdered_byte.tab3 : rtab .any (opsOf Tryd.f80 3) = slices_reverseRangeOrdered_byte.T3 := by kernel_rfl
theorem slices_reverseRangeOrdered_byte.bits3 : waitsOk slices_reverseRangeOrdered_byte.T3.2 slices_reverseRangeOrdered_byte.B3 = true := by kernel_rfl
set_option maxHeartbeats 8000000 in
set_option maxRecDepth 100000 in
theorem slices_reverseRangeOrdered_byte.calls (k : Nat) (P0_ : Nat → Prop) (u9000_ : Value) (l0 : List Int) (a1 : Int) (a2 : Int) (r : List Int) (w0 w : World) (hB : Below w0.heap.size w0 w) (ho0 : BR w w0.heap.size P0_ u9000_ l0) (h : slices_reverseRangeOrdered_byte.f k l0 a1 a2 = some r) :
  Calls Tryd.prog 80 #[u9000_,.int .i64 a1,.int .i64 a2] w fun e w' => e = .returned (.tuple #[]) ∧ BR w' w0.heap.size (fun k_ => (P0_ k_ ∨ w.heap.size ≤ k_)) u9000_ r ∧ Below w0.heap.size w0 w' ∧ Kept w w' (fun k_ => P0_ k_) := by
 have HO0 := Aside0.mk (show BR w w0.heap.size (fun k_ => (P0_ k_ ∨ w.heap.size ≤ k_)) u9000_ l0 from BR_mono ho0 (fun k_ hk => (.inl hk))); have HK := Aside0.mk (Kept.refl w (fun k_ => P0_ k_)); have HW0 := Aside0.mk hB.size; have HB := Aside0.mk hB; clear hB; have H : (slices_reverseRangeOrdered_byte.l0 k l0 a1 (wrap64 (a2 - 1))) = some r := h; clear h; have H' := Aside0.mk H; clear H
 go_enter Tryd.func80,Tryd.ntmps80
 go_wp2
 go_loopg [6,7] k (fun kq v6 v7 w' => ∃ (x0_1 : List Int) (x6_1 : Int) (x7_1 : Int),v6 = .int .i64 x6_1 ∧ v7 = .int .i64 x7_1 ∧ Aside0 (slices_reverseRangeOrdered_byte.l0 kq x0_1 x6_1 x7_1 = some r) ∧ Aside0 (kq ≤ k) ∧ Aside0 (BR w' w0.heap.size (fun k_ => (P0_ k_ ∨ w.heap.size ≤ k_)) u9000_ x0_1) ∧ Aside0 (Kept w w' (fun k_ => P0_ k_)) ∧ Aside0 (Below w0.heap.size w0 w'))
 case atStart => exact ⟨(l0),(a1),(wrap64 (a2 - 1)),(by first | rfl | (simp; done) | (simp [*]; done)),(by first | rfl | (simp; done) | (simp [*]; done)),H',⟨Nat.le_refl _⟩,⟨by (with_reducible repeat (first | apply BR_alloc | apply BR_drewN | apply BR_drew)); exact HO0.out⟩,⟨by repeat (first | (with_reducible first | exact HK.out | apply Kept.alloc | apply Kept.drewN | apply Kept.drew) | exact HK.out)⟩,⟨by repeat (first | (with_reducible first | exact HB.out | apply below_alloc | apply pw_below_drewN | apply below_drew1) | exact HB.out)⟩⟩
 case round =>
  clear H'; try clear p2
  obtain ⟨x0_1,x6_1,x7_1,rfl,rfl,HA,HK1,HO_0,HK,HB⟩ := hrel
  cases gk with
  | zero => exact absurd HA.out (by simp [slices_reverseRangeOrdered_byte.l0])
  | succ k1 =>
   have H := HA.out; clear HA; simp only [slices_reverseRangeOrdered_byte.l0] at H
   by_cases c4 : x6_1 < x7_1
   ·
    rw [if_pos c4] at H; have c4b0 : decide (x6_1 < x7_1) = true := decide_eq_true c4; clear c4
    by_cases c5 : 0 ≤ x7_1
    ·
     rw [if_pos c5] at H; have c5b0 : decide (0 ≤ x7_1) = true := decide_eq_true c5; clear c5
     by_cases c6 : x7_1 < (x0_1.length : Int)
     ·
      rw [if_pos c6] at H; have c6b0 : decide (x7_1 < (x0_1.length : Int)) = true := decide_eq_true c6; clear c6
      by_cases c7 : 0 ≤ x6_1
      ·
       rw [if_pos c7] at H; have c7b0 : decide (0 ≤ x6_1) = true := decide_eq_true c7; clear c7
       by_cases c8 : x6_1 < (x0_1.length : Int)
       ·
        rw [if_pos c8] at H; have c8b0 : decide (x6_1 < (x0_1.length : Int)) = true := decide_eq_true c8; clear c8; obtain ⟨y103,hy103⟩ : ∃ y_ : List Int,y_ = (x0_1.set (x6_1 : Int).toNat (rd x0_1 x7_1)) := ⟨_,rfl⟩; replace H : (slices_reverseRangeOrdered_byte.l0 k1 (y103.set (x7_1 : Int).toNat (rd x0_1 x6_1)) (wrap64 (x6_1 + 1)) (wrap64 (x7_1 - 1))) = some r := by first | (rw [hy103]; with_reducible exact H) | (have H2_ := (Option.bind_some _ _).symm.trans H; rw [hy103]; with_reducible exact H2_) | (have H2_ := (Option.bind_some _ _).symm.trans H; with_reducible exact H2_) | with_reducible exact H | (rw [hy103]; exact H) | exact H
        have Ny103 := Aside0.mk hy103; clear hy103; obtain ⟨y104,hy104⟩ : ∃ y_ : List Int,y_ = (y103.set (x7_1 : Int).toNat (rd x0_1 x6_1)) := ⟨_,rfl⟩; replace H : (slices_reverseRangeOrdered_byte.l0 k1 y104 (wrap64 (x6_1 + 1)) (wrap64 (x7_1 - 1))) = some r := by first | (rw [hy104]; with_reducible exact H) | (have H2_ := (Option.bind_some _ _).symm.trans H; rw [hy104]; with_reducible exact H2_) | (have H2_ := (Option.bind_some _ _).symm.trans H; with_reducible exact H2_) | with_reducible exact H | (rw [hy104]; exact H) | exact H
        have Ny104 := Aside0.mk hy104; clear hy104; have H' := Aside0.mk H; clear H; try go_wp2
        have n0_ := Aside0.mk (BR_drew HO_0.out); have n1_ := Aside0.mk (Kept.drew HK.out); have n2_ := Aside0.mk (below_drew1 HB.out); clear HO_0; clear HK; clear HB; have HO_0 := n0_; have HK := n1_; have HB := n2_; clear n0_ n1_ n2_; obtain ⟨Ao12,co12,eo12⟩ := BR_slice HO_0.out
        (first | subst eo12 | (injection eo12 with f1_ f2_ f3_; have f4_ := f1_.symm; have f5_ := f3_.symm; clear f1_ f2_ f3_; subst f4_; subst f5_))
        have p101 : 0 ≤ (x7_1 : Int) := of_decide_eq_true (by first | (with_reducible assumption) | assumption); have q101 : x7_1 < (x0_1.length : Int) := of_decide_eq_true (by first | (with_reducible assumption) | assumption); obtain ⟨ad101,e101,hx101_0⟩ := Kd.at_int (BR_reads' HO_0.out).2.2 x7_1 p101 q101
        cases e101
        replace p101 := eq_true p101; replace q101 := eq_true q101; have p102 : 0 ≤ (x6_1 : Int) := of_decide_eq_true (by first | (with_reducible assumption) | assumption); have q102 : x6_1 < (x0_1.length : Int) := of_decide_eq_true (by first | (with_reducible assumption) | assumption); obtain ⟨ad102,e102,hx102_0⟩ := Kd.at_int (BR_reads' HO_0.out).2.2 x6_1 p102 q102; obtain rfl : ad101 = ad102 := (by injection e102); replace p102 := eq_true p102; replace q102 := eq_true q102; have p9 : 0 ≤ (x6_1 : Int) := of_decide_eq_true (by first | (with_reducible assumption) | assumption); have q9 : (x6_1 : Int) < ((x0_1.length : Int) : Int) := of_decide_eq_true (by first | (with_reducible assumption) | assumption); obtain ⟨go9,co9,eo9,gb9,gl9,cl9,HG9⟩ := BR_form HO_0.out (by omega)
        (first | cases eo9 | (injection eo9 with ea_ en_ ec_; (first | subst ea_ | (injection ea_ with ea_; subst ea_)); subst ec_; clear en_))
        have GB9 := Aside0.mk gb9; have GG9 := Aside0.mk HG9; clear gb9 gl9 HG9; have HMgo9 := Aside0.mk (show (P0_ go9 ∨ w.heap.size ≤ go9) from (HO_0.out.1 _ rfl))
        (first | simp only [add_plain] at hx101_0 | skip)
        (first | simp only [add_plain] at hx102_0 | skip)
        obtain ⟨hx9_0,hf9_0⟩ := BR_celln 0 HO_0.out (x6_1 : Int) p9 q9; replace p9 := eq_true p9; replace q9 := eq_true q9; have HP13 := BR_putn HO_0.out (x6_1 : Int) (rd x0_1 x7_1); rw [← Ny103.out] at HP13; have HQ13 := Aside0.mk HP13; clear HP13; have p10 : 0 ≤ (x7_1 : Int) := of_decide_eq_true (by first | (with_reducible assumption) | assumption); have q10 : (x7_1 : Int) < ((x0_1.length : Int) : Int) := of_decide_eq_true (by first | (with_reducible assumption) | assumption); obtain ⟨hx10_0,hf10_0⟩ := BR_celln 0 HQ13.out (x7_1 : Int) p10 q10; replace p10 := eq_true p10; replace q10 := eq_true q10; have HP14 := BR_putn HQ13.out (x7_1 : Int) (rd x0_1 x6_1); rw [← Ny104.out] at HP14; have HQ14 := Aside0.mk HP14; clear HP14; refine start_ (n := 16) (S := fun w' => w'.cell? ⟨go9,(x7_1).toNat,none⟩ = some (.int .u8 (rd x0_1 x7_1)) ∧ w'.cell? ⟨go9,(x6_1).toNat,none⟩ = some (.int .u8 (rd x0_1 x6_1))) (ds := [13,15]) #[false,false,false,false,false,false,false,false,false,false,false,false,false,false,false,false] (by kernel_rfl) rfl rfl ⟨hx101_0,hx102_0⟩ (fun hHeld => ?_); refine with_tabW slices_reverseRangeOrdered_byte.tab3 slices_reverseRangeOrdered_byte.bits3 (fun HT_ HW_ => ?_)
        generalize wr.drew = w11 at HO_0 HK HB GG9 HQ13 HQ14 hf10_0 hf9_0 hx101_0 hx102_0 hx10_0 hx9_0 hHeld ⊢; refine pure_ (i := 0) (N := some 14) (v := ?_) (a' := ?_) #[true,false,false,false,false,false,false,false,false,false,false,false,false,false,false,false] rfl rfl (any_of HT_.out (by kernel_rfl)) (fun _ _ _ h => h) (Or.inl ⟨by rfl,?_⟩) ?_ ?_; rotate_left
        · intro w'; go_simp; with_reducible rfl
        rotate_left
        · simp only [Act.put,List.setIfInBounds_toArray,List.set_cons_zero,List.set_cons_succ,i64_w,i32_w]; rfl
        refine pure_ (i := 1) (N := some 15) (v := ?_) (a' := ?_) #[true,true,false,false,false,false,false,false,false,false,false,false,false,false,false,false] rfl rfl (any_of HT_.out (by kernel_rfl)) (fun _ _ _ h => h) (Or.inl ⟨by rfl,?_⟩) ?_ ?_; rotate_left
        · intro w'; go_simp; with_reducible rfl
        rotate_left
        · simp only [Act.put,List.setIfInBounds_toArray,List.set_cons_zero,List.set_cons_succ,i64_w,i32_w]; rfl
        refine pure_ (i := 2) (N := some 16) (v := ?_) (a' := ?_) #[true,true,true,false,false,false,false,false,false,false,false,false,false,false,false,false] rfl rfl (any_of HT_.out (by kernel_rfl)) (fun _ _ _ h => h) (Or.inl ⟨by rfl,?_⟩) ?_ ?_; rotate_left
        · intro w'; go_simp; with_reducible rfl
        rotate_left
        · simp only [Act.put,List.setIfInBounds_toArray,List.set_cons_zero,List.set_cons_succ,i64_w,i32_w]; rfl
        refine pure_ (i := 3) (N := some 17) (v := ?_) (a' := ?_) #[true,true,true,true,false,false,false,false,false,false,false,false,false,false,false,false] rfl rfl (any_of HT_.out (by kernel_rfl)) (fun _ _ _ h => h) (Or.inl ⟨by rfl,?_⟩) ?_ ?_; rotate_left
        · intro w'; go_simp; with_reducible rfl
        rotate_left
        · simp only [Act.put,List.setIfInBounds_toArray,List.set_cons_zero,List.set_cons_succ,i64_w,i32_w]; rfl
        refine pure_ (i := 4) (N := some 18) (v := ?_) (a' := ?_) #[true,true,true,true,true,false,false,false,false,false,false,false,false,false,false,false] rfl rfl (any_of HT_.out (by kernel_rfl)) (fun _ _ _ h => h) (Or.inl ⟨by rfl,?_⟩) ?_ ?_; rotate_left
        · intro w'; go_simp; with_reducible rfl
        rotate_left
        · simp only [Act.put,List.setIfInBounds_toArray,List.set_cons_zero,List.set_cons_succ,i64_w,i32_w]; rfl
        refine pure_ (i := 5) (N := some 19) (v := ?_) (a' := ?_) #[true,true,true,true,true,true,false,false,false,false,false,false,false,false,false,false] rfl rfl (any_of HT_.out (by kernel_rfl)) (fun _ _ _ h => h) (Or.inl ⟨by rfl,?_⟩) ?_ ?_; rotate_left
        · intro w'; go_simp; with_reducible rfl
        rotate_left
        · simp only [Act.put,List.setIfInBounds_toArray,List.set_cons_zero,List.set_cons_succ,i64_w,i32_w]; rfl
        refine pure_ (i := 6) (N := some 20) (v := ?_) (a' := ?_) #[true,true,true,true,true,true,true,false,false,false,false,false,false,false,false,false] rfl rfl (any_of HT_.out (by kernel_rfl)) (fun _ _ _ h => h) (Or.inl ⟨by rfl,?_⟩) ?_ ?_; rotate_left
        · intro w'; go_simp; with_reducible rfl
        rotate_left
        · simp only [Act.put,List.setIfInBounds_toArray,List.set_cons_zero,List.set_cons_succ,i64_w,i32_w]; rfl
        refine pure_ (i := 8) (N := some 22) (v := ?_) (a' := ?_) #[true,true,true,true,true,true,true,false,true,false,false,false,false,false,false,false] rfl rfl (any_of HT_.out (by kernel_rfl)) (fun _ _ _ h => h) (Or.inl ⟨by rfl,?_⟩) ?_ ?_; rotate_left
        · intro w'; go_simp; with_reducible rfl
        rotate_left
        · simp only [Act.put,List.setIfInBounds_toArray,List.set_cons_zero,List.set_cons_succ,i64_w,i32_w]; rfl
        refine pure_ (i := 9) (N := some 23) (v := ?_) (a' := ?_) #[true,true,true,true,true,true,true,false,true,true,false,false,false,false,false,false] rfl rfl (any_of HT_.out (by kernel_rfl)) (fun _ _ _ h => h) (Or.inl ⟨by rfl,?_⟩) ?_ ?_; rotate_left
        · intro w'; go_simp; with_reducible rfl
        rotate_left
        · simp only [Act.put,List.setIfInBounds_toArray,List.set_cons_zero,List.set_cons_succ,i64_w,i32_w]; rfl
        refine pure_ (i := 10) (N := some 24) (v := ?_) (a' := ?_) #[true,true,true,true,true,true,true,false,true,true,true,false,false,false,false,false] rfl rfl (any_of HT_.out (by kernel_rfl)) (fun _ _ _ h => h) (Or.inl ⟨by rfl,?_⟩) ?_ ?_; rotate_left
        · intro w'; go_simp; with_reducible rfl
        rotate_left
        · simp only [Act.put,List.setIfInBounds_toArray,List.set_cons_zero,List.set_cons_succ,i64_w,i32_w]; rfl
        refine take_ (i := 7) (N := some 21) (v := ?_) (a' := ?_) #[true,true,true,true,true,true,true,true,true,true,true,false,false,false,false,false] rfl rfl (take_ofW HT_.out HW_.out (by kernel_rfl)) (fun _ _ _ h => h) (Or.inl ⟨by rfl,?_⟩) hHeld ?_ ?_; rotate_left
        · rintro w' ⟨s0,s1⟩; go_simp; with_reducible rfl
        rotate_left
        · simp only [Act.put,List.setIfInBounds_toArray,List.set_cons_zero,List.set_cons_succ,i64_w,i32_w]; rfl
        refine take_ (i := 11) (N := some 25) (v := ?_) (a' := ?_) #[true,true,true,true,true,true,true,true,true,true,true,true,false,false,false,false] rfl rfl (take_ofW HT_.out HW_.out (by kernel_rfl)) (fun _ _ _ h => h) (Or.inl ⟨by rfl,?_⟩) hHeld ?_ ?_; rotate_left
        · rintro w' ⟨s0,s1⟩; go_simp; with_reducible rfl
        rotate_left
        · simp only [Act.put,List.setIfInBounds_toArray,List.set_cons_zero,List.set_cons_succ,i64_w,i32_w]; rfl
        refine pure_ (i := 12) (N := some 26) (v := ?_) (a' := ?_) #[true,true,true,true,true,true,true,true,true,true,true,true,true,false,false,false] rfl rfl (any_of HT_.out (by kernel_rfl)) (fun _ _ _ h => h) (Or.inl ⟨by rfl,?_⟩) ?_ ?_; rotate_left
        · intro w'; go_simp; with_reducible rfl
        rotate_left
        · simp only [Act.put,List.setIfInBounds_toArray,List.set_cons_zero,List.set_cons_succ,i64_w,i32_w]; rfl
        refine last_ (i := 13) (N := none) #[true,true,true,true,true,true,true,true,true,true,true,true,true,true,false,false] rfl rfl (one_of HT_.out (by kernel_rfl)) (by decide) (fun K hK => ?_); refine skip_ (w1 := ?_) (by rfl) rfl ?_ ?_; rotate_left
        · go_simp; rfl
        refine hK.out _ _ ?_; clear hK K; refine pure_ (i := 14) (N := some 27) (v := ?_) (a' := ?_) #[true,true,true,true,true,true,true,true,true,true,true,true,true,true,true,false] rfl rfl (any_of HT_.out (by kernel_rfl)) (fun _ _ _ h => h) (Or.inl ⟨by rfl,?_⟩) ?_ ?_; rotate_left
        · intro w'; go_simp; with_reducible rfl
        rotate_left
        · simp only [Act.put,List.setIfInBounds_toArray,List.set_cons_zero,List.set_cons_succ,i64_w,i32_w]; rfl
        refine last_ (i := 15) (N := none) #[true,true,true,true,true,true,true,true,true,true,true,true,true,true,true,true] rfl rfl (one_of HT_.out (by kernel_rfl)) (by decide) (fun K hK => ?_); refine skip_ (w1 := ?_) (by rfl) rfl ?_ ?_; rotate_left
        · go_simp; rfl
        refine hK.out _ _ ?_; clear hK K; refine done_ (done_of HT_.out (by kernel_rfl)) ?_; try go_wp2
        go_roundg k1
        case measure => have := HK1.out; omega
        case rel => exact ⟨(y104),(wrap64 (x6_1 + 1)),(wrap64 (x7_1 - 1)),(by first | rfl | (simp; done) | (simp [*]; done)),(by first | rfl | (simp; done) | (simp [*]; done)),H',⟨by have := HK1.out; omega⟩,⟨by (with_reducible repeat (first | apply BR_alloc | apply BR_drewN | apply BR_drew)); exact HQ14.out⟩,⟨by repeat (first | (with_reducible first | exact HK.out | apply Kept.alloc | apply Kept.drewN | apply Kept.drew | refine Kept.setCell ?_ HMgo9.out _ | refine Kept.setCell ?_ HMgo9.out _) | exact HK.out)⟩,⟨by repeat (first | (with_reducible first | exact HB.out | apply below_alloc | apply pw_below_drewN | apply below_drew1 | refine below_set ?_ GB9.out | refine below_set ?_ GB9.out) | exact HB.out)⟩⟩
       · rw [if_neg c8] at H; exact absurd H (by simp)
      · rw [if_neg c7] at H; exact absurd H (by simp)
     · rw [if_neg c6] at H; exact absurd H (by simp)
    · rw [if_neg c5] at H; exact absurd H (by simp)
   ·
    rw [if_neg c4] at H; have c4b0 : decide (x6_1 < x7_1) = false := decide_eq_false c4; clear c4; obtain rfl := Option.some.inj H; go_wp2
    first | go_end0 | ((try simp only [Exit.inBlock,Exit.then]); refine bodyPost_ret (results_none rfl _ _ _) rfl ?_)
    exact ⟨by first | rfl | (simp [errW_none,errW_some] <;> rfl) | (simp [*,errW_none,errW_some] <;> rfl),by (with_reducible repeat (first | apply BR_alloc | apply BR_drewN | apply BR_drew)); exact HO_0.out,by repeat (first | (with_reducible first | exact HB.out | apply below_alloc | apply pw_below_drewN | apply below_drew1) | exact HB.out),by repeat (first | (with_reducible first | exact HK.out | apply Kept.alloc | apply Kept.drewN | apply Kept.drew) | exact HK.out)⟩

end Go.Proofs.YtcidlaabbkimdaaDoor.P

-- printed by xprint.py
namespace Go.Proofs.YtcidlaabbkimdaaDoor.P
open Go.RowKit Go.Proofs.YtcidlaabbkimdaaDoorW.PrintWords Go.Proofs.YtcidlaabbkimdaaDoorW.PrintLast Go.Proofs.YtcidlaabbkimdaaDoorW.PrintMore
attribute [local go_sem] max2_int min2_int max_two min_two max_three min_three max_four min_four   -- for this text's walks alone
set_option linter.unusedVariables false
set_option linter.unusedSimpArgs false

/-! ### slices_pdqsortOrdered_byte: function 61 -/
mutual
def slices_pdqsortOrdered_byte.l0 : Nat → List Int → Int → Int → Int → Bool → Bool → Option (List Int)
 | 0,_,_,_,_,_,_ => none
 | k + 1,x0,x1,x2,x3,x8,x9 => if (wrap64 (x2 - x1)) ≤ 12 then ((slices_insertionSortOrdered_byte.f k x0 x1 x2).bind fun t101 => (some t101)) else (if x3 = 0 then ((slices_heapSortOrdered_byte.f k x0 x1 x2).bind fun t102 => (some t102)) else (if x8 = true then (slices_pdqsortOrdered_byte.j1 k x0 x1 x2 x3 x8 x9 (wrap64 (x2 - x1))) else ((slices_breakPatternsOrdered_byte.f x0 x1 x2).bind fun t103 => (slices_pdqsortOrdered_byte.j1 k t103 x1 x2 (wrap64 (x3 - 1)) x8 x9 (wrap64 (x2 - x1))))))
def slices_pdqsortOrdered_byte.j1 : Nat → List Int → Int → Int → Int → Bool → Bool → Int → Option (List Int)
 | 0,_,_,_,_,_,_,_ => none
 | k + 1,x0,x1,x2,x3,x8,x9,x10 => (slices_choosePivotOrdered_byte.f x0 x1 x2).bind fun bt104 => (if bt104.2 = 2 then ((slices_reverseRangeOrdered_byte.f k x0 x1 x2).bind fun t106 => (slices_pdqsortOrdered_byte.j2 k t106 x1 x2 x3 x8 x9 x10 (wrap64 ((wrap64 (x2 - 1)) - (wrap64 (bt104.1 - x1)))) 1)) else (slices_pdqsortOrdered_byte.j2 k x0 x1 x2 x3 x8 x9 x10 bt104.1 bt104.2))
def slices_pdqsortOrdered_byte.j2 : Nat → List Int → Int → Int → Int → Bool → Bool → Int → Int → Int → Option (List Int)
 | 0,_,_,_,_,_,_,_,_,_ => none
 | k + 1,x0,x1,x2,x3,x8,x9,x10,x11,x12 => if x8 = true then (if x9 = true then (slices_pdqsortOrdered_byte.j3 k x0 x1 x2 x3 x8 x9 x10 x11 (x12 == 1)) else (slices_pdqsortOrdered_byte.j3 k x0 x1 x2 x3 x8 x9 x10 x11 false)) else (slices_pdqsortOrdered_byte.j3 k x0 x1 x2 x3 x8 x9 x10 x11 false)
def slices_pdqsortOrdered_byte.j3 : Nat → List Int → Int → Int → Int → Bool → Bool → Int → Int → Bool → Option (List Int)
 | 0,_,_,_,_,_,_,_,_,_ => none
 | k + 1,x0,x1,x2,x3,x8,x9,x10,x11,x68 => if x68 = true then ((slices_partialInsertionSortOrdered_byte.f k x0 x1 x2).bind fun bt107 => (if bt107.1 = true then (some bt107.2) else (slices_pdqsortOrdered_byte.j4 k bt107.2 x1 x2 x3 x8 x9 x10 x11))) else (slices_pdqsortOrdered_byte.j4 k x0 x1 x2 x3 x8 x9 x10 x11)
def slices_pdqsortOrdered_byte.j4 : Nat → List Int → Int → Int → Int → Bool → Bool → Int → Int → Option (List Int)
 | 0,_,_,_,_,_,_,_,_ => none
 | k + 1,x0,x1,x2,x3,x8,x9,x10,x11 => if x1 > 0 then (if 0 ≤ (wrap64 (x1 - 1)) then (if (wrap64 (x1 - 1)) < (x0.length : Int) then (if 0 ≤ x11 then (if x11 < (x0.length : Int) then ((cmp_Less_byte.f (rd x0 (wrap64 (x1 - 1))) (rd x0 x11)).bind fun t111 => (slices_pdqsortOrdered_byte.j5 k x0 x1 x2 x3 x8 x9 x10 x11 (!t111))) else (none)) else (none)) else (none)) else (none)) else (slices_pdqsortOrdered_byte.j5 k x0 x1 x2 x3 x8 x9 x10 x11 false)
def slices_pdqsortOrdered_byte.j5 : Nat → List Int → Int → Int → Int → Bool → Bool → Int → Int → Bool → Option (List Int)
 | 0,_,_,_,_,_,_,_,_,_ => none
 | k + 1,x0,x1,x2,x3,x8,x9,x10,x11,x87 => if x87 = true then ((slices_partitionEqualOrdered_byte.f k x0 x1 x2 x11).bind fun bt112 => (slices_pdqsortOrdered_byte.l0 k bt112.2 bt112.1 x2 x3 x8 x9)) else ((slices_partitionOrdered_byte.f k x0 x1 x2 x11).bind fun bt114 => (if (wrap64 (bt114.1 - x1)) < (wrap64 (x2 - bt114.1)) then ((slices_pdqsortOrdered_byte.f k bt114.2.2 x1 bt114.1 x3).bind fun t117 => (slices_pdqsortOrdered_byte.l0 k t117 (wrap64 (bt114.1 + 1)) x2 x3 (decide ((wrap64 (bt114.1 - x1)) ≥ (wrap64 (Int.tdiv x10 8)))) bt114.2.1)) else ((slices_pdqsortOrdered_byte.f k bt114.2.2 (wrap64 (bt114.1 + 1)) x2 x3).bind fun t118 => (slices_pdqsortOrdered_byte.l0 k t118 x1 bt114.1 x3 (decide ((wrap64 (x2 - bt114.1)) ≥ (wrap64 (Int.tdiv x10 8)))) bt114.2.1))))
def slices_pdqsortOrdered_byte.f : Nat → List Int → Int → Int → Int → Option (List Int)
 | 0,_,_,_,_ => none
 | k + 1,l0,a1,a2,a3 => slices_pdqsortOrdered_byte.l0 k l0 a1 a2 a3 true true
end
theorem slices_pdqsortOrdered_byte.mono_l : ∀ k,(∀ y0 y1 y2 y3,LeO (slices_pdqsortOrdered_byte.f k y0 y1 y2 y3) (slices_pdqsortOrdered_byte.f (k + 1) y0 y1 y2 y3)) ∧ (∀ y0 y1 y2 y3 y4 y5,LeO (slices_pdqsortOrdered_byte.l0 k y0 y1 y2 y3 y4 y5) (slices_pdqsortOrdered_byte.l0 (k + 1) y0 y1 y2 y3 y4 y5)) ∧ (∀ y0 y1 y2 y3 y4 y5 y6,LeO (slices_pdqsortOrdered_byte.j1 k y0 y1 y2 y3 y4 y5 y6) (slices_pdqsortOrdered_byte.j1 (k + 1) y0 y1 y2 y3 y4 y5 y6)) ∧ (∀ y0 y1 y2 y3 y4 y5 y6 y7 y8,LeO (slices_pdqsortOrdered_byte.j2 k y0 y1 y2 y3 y4 y5 y6 y7 y8) (slices_pdqsortOrdered_byte.j2 (k + 1) y0 y1 y2 y3 y4 y5 y6 y7 y8)) ∧ (∀ y0 y1 y2 y3 y4 y5 y6 y7 y8,LeO (slices_pdqsortOrdered_byte.j3 k y0 y1 y2 y3 y4 y5 y6 y7 y8) (slices_pdqsortOrdered_byte.j3 (k + 1) y0 y1 y2 y3 y4 y5 y6 y7 y8)) ∧ (∀ y0 y1 y2 y3 y4 y5 y6 y7,LeO (slices_pdqsortOrdered_byte.j4 k y0 y1 y2 y3 y4 y5 y6 y7) (slices_pdqsortOrdered_byte.j4 (k + 1) y0 y1 y2 y3 y4 y5 y6 y7)) ∧ (∀ y0 y1 y2 y3 y4 y5 y6 y7 y8,LeO (slices_pdqsortOrdered_byte.j5 k y0 y1 y2 y3 y4 y5 y6 y7 y8) (slices_pdqsortOrdered_byte.j5 (k + 1) y0 y1 y2 y3 y4 y5 y6 y7 y8))
 | 0 => ⟨by intros; intro r h; simp [slices_pdqsortOrdered_byte.f] at h,by intros; intro r h; simp [slices_pdqsortOrdered_byte.l0] at h,by intros; intro r h; simp [slices_pdqsortOrdered_byte.j1] at h,by intros; intro r h; simp [slices_pdqsortOrdered_byte.j2] at h,by intros; intro r h; simp [slices_pdqsortOrdered_byte.j3] at h,by intros; intro r h; simp [slices_pdqsortOrdered_byte.j4] at h,by intros; intro r h; simp [slices_pdqsortOrdered_byte.j5] at h⟩
 | k + 1 => by
  obtain ⟨ih0,ih1,ih2,ih3,ih4,ih5,ih6⟩ := slices_pdqsortOrdered_byte.mono_l k; refine ⟨?_,?_,?_,?_,?_,?_,?_⟩
  ·
   intro y0 y1 y2 y3
   unfold slices_pdqsortOrdered_byte.f
   repeat' first
   | (with_reducible exact ih0 _ _ _ _)
   | (with_reducible exact ih1 _ _ _ _ _ _)
   | (with_reducible exact ih2 _ _ _ _ _ _ _)
   | (with_reducible exact ih3 _ _ _ _ _ _ _ _ _)
   | (with_reducible exact ih4 _ _ _ _ _ _ _ _ _)
   | (with_reducible exact ih5 _ _ _ _ _ _ _ _)
   | (with_reducible exact ih6 _ _ _ _ _ _ _ _ _)
   | (with_reducible exact slices_heapSortOrdered_byte.mono _ _ _ _)
   | (with_reducible exact slices_insertionSortOrdered_byte.mono _ _ _ _)
   | (with_reducible exact slices_partialInsertionSortOrdered_byte.mono _ _ _ _)
   | (with_reducible exact slices_partitionEqualOrdered_byte.mono _ _ _ _ _)
   | (with_reducible exact slices_partitionOrdered_byte.mono _ _ _ _ _)
   | (with_reducible exact slices_reverseRangeOrdered_byte.mono _ _ _ _)
   | (with_reducible exact LeO.refl _)
   | (with_reducible exact LeO.none _)
   | (with_reducible refine LeO.ite ?_ ?_)
   | (with_reducible refine LeO.bind ?_ (fun _ => ?_))
   | exact ih0 _ _ _ _
   | exact ih1 _ _ _ _ _ _
   | exact ih2 _ _ _ _ _ _ _
   | exact ih3 _ _ _ _ _ _ _ _ _
   | exact ih4 _ _ _ _ _ _ _ _ _
   | exact ih5 _ _ _ _ _ _ _ _
   | exact ih6 _ _ _ _ _ _ _ _ _
   | exact slices_heapSortOrdered_byte.mono _ _ _ _
   | exact slices_insertionSortOrdered_byte.mono _ _ _ _
   | exact slices_partialInsertionSortOrdered_byte.mono _ _ _ _
   | exact slices_partitionEqualOrdered_byte.mono _ _ _ _ _
   | exact slices_partitionOrdered_byte.mono _ _ _ _ _
   | exact slices_reverseRangeOrdered_byte.mono _ _ _ _
   | exact LeO.none _
   | refine LeO.ite ?_ ?_
   | refine LeO.bind ?_ (fun _ => ?_)
  ·
   intro y0 y1 y2 y3 y4 y5
   unfold slices_pdqsortOrdered_byte.l0
   repeat' first
   | (with_reducible exact ih0 _ _ _ _)
   | (with_reducible exact ih1 _ _ _ _ _ _)
   | (with_reducible exact ih2 _ _ _ _ _ _ _)
   | (with_reducible exact ih3 _ _ _ _ _ _ _ _ _)
   | (with_reducible exact ih4 _ _ _ _ _ _ _ _ _)
   | (with_reducible exact ih5 _ _ _ _ _ _ _ _)
   | (with_reducible exact ih6 _ _ _ _ _ _ _ _ _)
   | (with_reducible exact slices_heapSortOrdered_byte.mono _ _ _ _)
   | (with_reducible exact slices_insertionSortOrdered_byte.mono _ _ _ _)
   | (with_reducible exact slices_partialInsertionSortOrdered_byte.mono _ _ _ _)
   | (with_reducible exact slices_partitionEqualOrdered_byte.mono _ _ _ _ _)
   | (with_reducible exact slices_partitionOrdered_byte.mono _ _ _ _ _)
   | (with_reducible exact slices_reverseRangeOrdered_byte.mono _ _ _ _)
   | (with_reducible exact LeO.refl _)
   | (with_reducible exact LeO.none _)
   | (with_reducible refine LeO.ite ?_ ?_)
   | (with_reducible refine LeO.bind ?_ (fun _ => ?_))
   | exact ih0 _ _ _ _
   | exact ih1 _ _ _ _ _ _
   | exact ih2 _ _ _ _ _ _ _
   | exact ih3 _ _ _ _ _ _ _ _ _
   | exact ih4 _ _ _ _ _ _ _ _ _
   | exact ih5 _ _ _ _ _ _ _ _
   | exact ih6 _ _ _ _ _ _ _ _ _
   | exact slices_heapSortOrdered_byte.mono _ _ _ _
   | exact slices_insertionSortOrdered_byte.mono _ _ _ _
   | exact slices_partialInsertionSortOrdered_byte.mono _ _ _ _
   | exact slices_partitionEqualOrdered_byte.mono _ _ _ _ _
   | exact slices_partitionOrdered_byte.mono _ _ _ _ _
   | exact slices_reverseRangeOrdered_byte.mono _ _ _ _
   | exact LeO.none _
   | refine LeO.ite ?_ ?_
   | refine LeO.bind ?_ (fun _ => ?_)
  ·
   intro y0 y1 y2 y3 y4 y5 y6
   unfold slices_pdqsortOrdered_byte.j1
   repeat' first
   | (with_reducible exact ih0 _ _ _ _)
   | (with_reducible exact ih1 _ _ _ _ _ _)
   | (with_reducible exact ih2 _ _ _ _ _ _ _)
   | (with_reducible exact ih3 _ _ _ _ _ _ _ _ _)
   | (with_reducible exact ih4 _ _ _ _ _ _ _ _ _)
   | (with_reducible exact ih5 _ _ _ _ _ _ _ _)
   | (with_reducible exact ih6 _ _ _ _ _ _ _ _ _)
   | (with_reducible exact slices_heapSortOrdered_byte.mono _ _ _ _)
   | (with_reducible exact slices_insertionSortOrdered_byte.mono _ _ _ _)
   | (with_reducible exact slices_partialInsertionSortOrdered_byte.mono _ _ _ _)
   | (with_reducible exact slices_partitionEqualOrdered_byte.mono _ _ _ _ _)
   | (with_reducible exact slices_partitionOrdered_byte.mono _ _ _ _ _)
   | (with_reducible exact slices_reverseRangeOrdered_byte.mono _ _ _ _)
   | (with_reducible exact LeO.refl _)
   | (with_reducible exact LeO.none _)
   | (with_reducible refine LeO.ite ?_ ?_)
   | (with_reducible refine LeO.bind ?_ (fun _ => ?_))
   | exact ih0 _ _ _ _
   | exact ih1 _ _ _ _ _ _
   | exact ih2 _ _ _ _ _ _ _
   | exact ih3 _ _ _ _ _ _ _ _ _
   | exact ih4 _ _ _ _ _ _ _ _ _
   | exact ih5 _ _ _ _ _ _ _ _
   | exact ih6 _ _ _ _ _ _ _ _ _
   | exact slices_heapSortOrdered_byte.mono _ _ _ _
   | exact slices_insertionSortOrdered_byte.mono _ _ _ _
   | exact slices_partialInsertionSortOrdered_byte.mono _ _ _ _
   | exact slices_partitionEqualOrdered_byte.mono _ _ _ _ _
   | exact slices_partitionOrdered_byte.mono _ _ _ _ _
   | exact slices_reverseRangeOrdered_byte.mono _ _ _ _
   | exact LeO.none _
   | refine LeO.ite ?_ ?_
   | refine LeO.bind ?_ (fun _ => ?_)
  ·
   intro y0 y1 y2 y3 y4 y5 y6 y7 y8
   unfold slices_pdqsortOrdered_byte.j2
   repeat' first
   | (with_reducible exact ih0 _ _ _ _)
   | (with_reducible exact ih1 _ _ _ _ _ _)
   | (with_reducible exact ih2 _ _ _ _ _ _ _)
   | (with_reducible exact ih3 _ _ _ _ _ _ _ _ _)
   | (with_reducible exact ih4 _ _ _ _ _ _ _ _ _)
   | (with_reducible exact ih5 _ _ _ _ _ _ _ _)
   | (with_reducible exact ih6 _ _ _ _ _ _ _ _ _)
   | (with_reducible exact slices_heapSortOrdered_byte.mono _ _ _ _)
   | (with_reducible exact slices_insertionSortOrdered_byte.mono _ _ _ _)
   | (with_reducible exact slices_partialInsertionSortOrdered_byte.mono _ _ _ _)
   | (with_reducible exact slices_partitionEqualOrdered_byte.mono _ _ _ _ _)
   | (with_reducible exact slices_partitionOrdered_byte.mono _ _ _ _ _)
   | (with_reducible exact slices_reverseRangeOrdered_byte.mono _ _ _ _)
   | (with_reducible exact LeO.refl _)
   | (with_reducible exact LeO.none _)
   | (with_reducible refine LeO.ite ?_ ?_)
   | (with_reducible refine LeO.bind ?_ (fun _ => ?_))
   | exact ih0 _ _ _ _
   | exact ih1 _ _ _ _ _ _
   | exact ih2 _ _ _ _ _ _ _
   | exact ih3 _ _ _ _ _ _ _ _ _
   | exact ih4 _ _ _ _ _ _ _ _ _
   | exact ih5 _ _ _ _ _ _ _ _
   | exact ih6 _ _ _ _ _ _ _ _ _
   | exact slices_heapSortOrdered_byte.mono _ _ _ _
   | exact slices_insertionSortOrdered_byte.mono _ _ _ _
   | exact slices_partialInsertionSortOrdered_byte.mono _ _ _ _
   | exact slices_partitionEqualOrdered_byte.mono _ _ _ _ _
   | exact slices_partitionOrdered_byte.mono _ _ _ _ _
   | exact slices_reverseRangeOrdered_byte.mono _ _ _ _
   | exact LeO.none _
   | refine LeO.ite ?_ ?_
   | refine LeO.bind ?_ (fun _ => ?_)
  ·
   intro y0 y1 y2 y3 y4 y5 y6 y7 y8
   unfold slices_pdqsortOrdered_byte.j3
   repeat' first
   | (with_reducible exact ih0 _ _ _ _)
   | (with_reducible exact ih1 _ _ _ _ _ _)
   | (with_reducible exact ih2 _ _ _ _ _ _ _)
   | (with_reducible exact ih3 _ _ _ _ _ _ _ _ _)
   | (with_reducible exact ih4 _ _ _ _ _ _ _ _ _)
   | (with_reducible exact ih5 _ _ _ _ _ _ _ _)
   | (with_reducible exact ih6 _ _ _ _ _ _ _ _ _)
   | (with_reducible exact slices_heapSortOrdered_byte.mono _ _ _ _)
   | (with_reducible exact slices_insertionSortOrdered_byte.mono _ _ _ _)
   | (with_reducible exact slices_partialInsertionSortOrdered_byte.mono _ _ _ _)
   | (with_reducible exact slices_partitionEqualOrdered_byte.mono _ _ _ _ _)
   | (with_reducible exact slices_partitionOrdered_byte.mono _ _ _ _ _)
   | (with_reducible exact slices_reverseRangeOrdered_byte.mono _ _ _ _)
   | (with_reducible exact LeO.refl _)
   | (with_reducible exact LeO.none _)
   | (with_reducible refine LeO.ite ?_ ?_)
   | (with_reducible refine LeO.bind ?_ (fun _ => ?_))
   | exact ih0 _ _ _ _
   | exact ih1 _ _ _ _ _ _
   | exact ih2 _ _ _ _ _ _ _
   | exact ih3 _ _ _ _ _ _ _ _ _
   | exact ih4 _ _ _ _ _ _ _ _ _
   | exact ih5 _ _ _ _ _ _ _ _
   | exact ih6 _ _ _ _ _ _ _ _ _
   | exact slices_heapSortOrdered_byte.mono _ _ _ _
   | exact slices_insertionSortOrdered_byte.mono _ _ _ _
   | exact slices_partialInsertionSortOrdered_byte.mono _ _ _ _
   | exact slices_partitionEqualOrdered_byte.mono _ _ _ _ _
   | exact slices_partitionOrdered_byte.mono _ _ _ _ _
   | exact slices_reverseRangeOrdered_byte.mono _ _ _ _
   | exact LeO.none _
   | refine LeO.ite ?_ ?_
   | refine LeO.bind ?_ (fun _ => ?_)
  ·
   intro y0 y1 y2 y3 y4 y5 y6 y7
   unfold slices_pdqsortOrdered_byte.j4
   repeat' first
   | (with_reducible exact ih0 _ _ _ _)
   | (with_reducible exact ih1 _ _ _ _ _ _)
   | (with_reducible exact ih2 _ _ _ _ _ _ _)
   | (with_reducible exact ih3 _ _ _ _ _ _ _ _ _)
   | (with_reducible exact ih4 _ _ _ _ _ _ _ _ _)
   | (with_reducible exact ih5 _ _ _ _ _ _ _ _)
   | (with_reducible exact ih6 _ _ _ _ _ _ _ _ _)
   | (with_reducible exact slices_heapSortOrdered_byte.mono _ _ _ _)
   | (with_reducible exact slices_insertionSortOrdered_byte.mono _ _ _ _)
   | (with_reducible exact slices_partialInsertionSortOrdered_byte.mono _ _ _ _)
   | (with_reducible exact slices_partitionEqualOrdered_byte.mono _ _ _ _ _)
   | (with_reducible exact slices_partitionOrdered_byte.mono _ _ _ _ _)
   | (with_reducible exact slices_reverseRangeOrdered_byte.mono _ _ _ _)
   | (with_reducible exact LeO.refl _)
   | (with_reducible exact LeO.none _)
   | (with_reducible refine LeO.ite ?_ ?_)
   | (with_reducible refine LeO.bind ?_ (fun _ => ?_))
   | exact ih0 _ _ _ _
   | exact ih1 _ _ _ _ _ _
   | exact ih2 _ _ _ _ _ _ _
   | exact ih3 _ _ _ _ _ _ _ _ _
   | exact ih4 _ _ _ _ _ _ _ _ _
   | exact ih5 _ _ _ _ _ _ _ _
   | exact ih6 _ _ _ _ _ _ _ _ _
   | exact slices_heapSortOrdered_byte.mono _ _ _ _
   | exact slices_insertionSortOrdered_byte.mono _ _ _ _
   | exact slices_partialInsertionSortOrdered_byte.mono _ _ _ _
   | exact slices_partitionEqualOrdered_byte.mono _ _ _ _ _
   | exact slices_partitionOrdered_byte.mono _ _ _ _ _
   | exact slices_reverseRangeOrdered_byte.mono _ _ _ _
   | exact LeO.none _
   | refine LeO.ite ?_ ?_
   | refine LeO.bind ?_ (fun _ => ?_)
  ·
   intro y0 y1 y2 y3 y4 y5 y6 y7 y8
   unfold slices_pdqsortOrdered_byte.j5
   repeat' first
   | (with_reducible exact ih0 _ _ _ _)
   | (with_reducible exact ih1 _ _ _ _ _ _)
   | (with_reducible exact ih2 _ _ _ _ _ _ _)
   | (with_reducible exact ih3 _ _ _ _ _ _ _ _ _)
   | (with_reducible exact ih4 _ _ _ _ _ _ _ _ _)
   | (with_reducible exact ih5 _ _ _ _ _ _ _ _)
   | (with_reducible exact ih6 _ _ _ _ _ _ _ _ _)
   | (with_reducible exact slices_heapSortOrdered_byte.mono _ _ _ _)
   | (with_reducible exact slices_insertionSortOrdered_byte.mono _ _ _ _)
   | (with_reducible exact slices_partialInsertionSortOrdered_byte.mono _ _ _ _)
   | (with_reducible exact slices_partitionEqualOrdered_byte.mono _ _ _ _ _)
   | (with_reducible exact slices_partitionOrdered_byte.mono _ _ _ _ _)
   | (with_reducible exact slices_reverseRangeOrdered_byte.mono _ _ _ _)
   | (with_reducible exact LeO.refl _)
   | (with_reducible exact LeO.none _)
   | (with_reducible refine LeO.ite ?_ ?_)
   | (with_reducible refine LeO.bind ?_ (fun _ => ?_))
   | exact ih0 _ _ _ _
   | exact ih1 _ _ _ _ _ _
   | exact ih2 _ _ _ _ _ _ _
   | exact ih3 _ _ _ _ _ _ _ _ _
   | exact ih4 _ _ _ _ _ _ _ _ _
   | exact ih5 _ _ _ _ _ _ _ _
   | exact ih6 _ _ _ _ _ _ _ _ _
   | exact slices_heapSortOrdered_byte.mono _ _ _ _
   | exact slices_insertionSortOrdered_byte.mono _ _ _ _
   | exact slices_partialInsertionSortOrdered_byte.mono _ _ _ _
   | exact slices_partitionEqualOrdered_byte.mono _ _ _ _ _
   | exact slices_partitionOrdered_byte.mono _ _ _ _ _
   | exact slices_reverseRangeOrdered_byte.mono _ _ _ _
   | exact LeO.none _
   | refine LeO.ite ?_ ?_
   | refine LeO.bind ?_ (fun _ => ?_)
theorem slices_pdqsortOrdered_byte.mono : ∀ y0 y1 y2 y3 k,LeO (slices_pdqsortOrdered_byte.f k y0 y1 y2 y3) (slices_pdqsortOrdered_byte.f (k + 1) y0 y1 y2 y3) := by
 intro y0 y1 y2 y3 k; obtain ⟨ih0,ih1,ih2,ih3,ih4,ih5,ih6⟩ := slices_pdqsortOrdered_byte.mono_l k; exact ih0 y0 y1 y2 y3
set_option maxHeartbeats 8000000 in
set_option maxRecDepth 100000 in
theorem slices_pdqsortOrdered_byte.calls (k : Nat) : ∀ (P0_ : Nat → Prop) (u9000_ : Value) (l0 : List Int) (a1 : Int) (a2 : Int) (a3 : Int) (r : List Int) (w0 w : World) (hB : Below w0.heap.size w0 w) (ho0 : BR w w0.heap.size P0_ u9000_ l0) (h : slices_pdqsortOrdered_byte.f k l0 a1 a2 a3 = some r),
  Calls Tryd.prog 61 #[u9000_,.int .i64 a1,.int .i64 a2,.int .i64 a3] w fun e w' => e = .returned (.tuple #[]) ∧ BR w' w0.heap.size (fun k_ => (P0_ k_ ∨ w.heap.size ≤ k_)) u9000_ r ∧ Below w0.heap.size w0 w' ∧ Kept w w' (fun k_ => P0_ k_) := by
 induction k using Nat.strongRecOn with
 | _ k ih =>
 intro P0_ u9000_ l0 a1 a2 a3 r w0 w hB ho0 h
 cases k with
 | zero => exact absurd h (by simp [slices_pdqsortOrdered_byte.f])
 | succ k =>
 simp only [slices_pdqsortOrdered_byte.f] at h; have HO0 := Aside0.mk (show BR w w0.heap.size (fun k_ => (P0_ k_ ∨ w.heap.size ≤ k_)) u9000_ l0 from BR_mono ho0 (fun k_ hk => (.inl hk))); have HK := Aside0.mk (Kept.refl w (fun k_ => P0_ k_)); have HW0 := Aside0.mk hB.size; have HB := Aside0.mk hB; clear hB; have H : (slices_pdqsortOrdered_byte.l0 k l0 a1 a2 a3 true true) = some r := h; clear h; have H' := Aside0.mk H; clear H
 go_enter Tryd.func61,Tryd.ntmps61
 go_wp2
 repeat (go_quiet (fail); try go_wp2)
 go_loopg [1,2,3,8,9] k (fun kq v1 v2 v3 v8 v9 w' => ∃ (x0_1 : List Int) (x1_1 : Int) (x2_1 : Int) (x3_1 : Int) (x8_1 : Bool) (x9_1 : Bool),v1 = .int .i64 x1_1 ∧ v2 = .int .i64 x2_1 ∧ v3 = .int .i64 x3_1 ∧ v8 = .bool x8_1 ∧ v9 = .bool x9_1 ∧ Aside0 (slices_pdqsortOrdered_byte.l0 kq x0_1 x1_1 x2_1 x3_1 x8_1 x9_1 = some r) ∧ Aside0 (kq ≤ k) ∧ Aside0 (BR w' w0.heap.size (fun k_ => (P0_ k_ ∨ w.heap.size ≤ k_)) u9000_ x0_1) ∧ Aside0 (Kept w w' (fun k_ => P0_ k_)) ∧ Aside0 (Below w0.heap.size w0 w'))
 case atStart => exact ⟨(l0),(a1),(a2),(a3),(true),(true),(by first | rfl | (simp; done) | (simp [*]; done)),(by first | rfl | (simp; done) | (simp [*]; done)),(by first | rfl | (simp; done) | (simp [*]; done)),(by first | rfl | (simp; done) | (simp [*]; done)),(by first | rfl | (simp; done) | (simp [*]; done)),H',⟨Nat.le_refl _⟩,⟨by (with_reducible repeat (first | apply BR_alloc | apply BR_drewN | apply BR_drew)); exact HO0.out⟩,⟨by repeat (first | (with_reducible first | exact HK.out | apply Kept.alloc | apply Kept.drewN | apply Kept.drew) | exact HK.out)⟩,⟨by repeat (first | (with_reducible first | exact HB.out | apply below_alloc | apply pw_below_drewN | apply below_drew1) | exact HB.out)⟩⟩
 case round =>
  clear H'; try clear p2
  obtain ⟨x0_1,x1_1,x2_1,x3_1,x8_1,x9_1,rfl,rfl,rfl,rfl,rfl,HA,HK1,HO_0,HK,HB⟩ := hrel
  cases gk with
  | zero => exact absurd HA.out (by simp [slices_pdqsortOrdered_byte.l0])
  | succ k1 =>
   have H := HA.out; clear HA; simp only [slices_pdqsortOrdered_byte.l0] at H
   by_cases c5 : (wrap64 (x2_1 - x1_1)) ≤ 12
   ·
    rw [if_pos c5] at H; have c5b0 : decide ((wrap64 (x2_1 - x1_1)) ≤ 12) = true := decide_eq_true c5; clear c5; replace H := Option.bind_eq_some_iff.mp H; obtain ⟨t101,A60,H⟩ := H; replace H : (some t101) = some r := H; have A6 := Aside0.mk A60; clear A60; obtain rfl := Option.some.inj H; obtain ⟨Ao7,co7,eo7⟩ := BR_slice HO_0.out; subst eo7; go_wp2_with (first | (go_at_call 76; (with_reducible refine (slices_insertionSortOrdered_byte.calls k1 (fun k_ => some k_ = (.slice Ao7 x0_1.length co7 : Value).ownBlock) (.slice Ao7 x0_1.length co7) x0_1 x1_1 x2_1 t101 w0 _ ?side1 ?side2 A6.out).mono ?_); (case side1 => repeat (first | (with_reducible first | exact HB.out | apply below_alloc | apply pw_below_drewN | apply below_drew1) | exact HB.out)); (case side2 => exact BR_tight rfl HO_0.out); rintro e w8 ⟨rfl,hy0,hb,hkp⟩; have n0_ := Aside0.mk (BR_reok rfl hy0 (fun k_ e_ => HO_0.out.1 k_ e_)); have n1_ := Aside0.mk (Kept.then_ (S := (fun k_ => P0_ k_)) (by repeat (first | (with_reducible first | exact HK.out | apply Kept.alloc | apply Kept.drewN | apply Kept.drew) | exact HK.out)) hkp (fun k_ hs_ => (fun e_ => (HO_0.out.1 k_ e_.symm)) hs_)); have n2_ := Aside0.mk (hb); clear HO_0; clear HK; clear HB; have HO_0 := n0_; have HK := n1_; have HB := n2_; clear n0_ n1_ n2_; (try clear hb); (try clear hkp); (try clear hy0)))
    repeat (go_quiet (first | (go_at_call 76; (with_reducible refine (slices_insertionSortOrdered_byte.calls k1 (fun k_ => some k_ = (.slice Ao7 x0_1.length co7 : Value).ownBlock) (.slice Ao7 x0_1.length co7) x0_1 x1_1 x2_1 t101 w0 _ ?side1 ?side2 A6.out).mono ?_); (case side1 => repeat (first | (with_reducible first | exact HB.out | apply below_alloc | apply pw_below_drewN | apply below_drew1) | exact HB.out)); (case side2 => exact BR_tight rfl HO_0.out); rintro e w8 ⟨rfl,hy0,hb,hkp⟩; have n0_ := Aside0.mk (BR_reok rfl hy0 (fun k_ e_ => HO_0.out.1 k_ e_)); have n1_ := Aside0.mk (Kept.then_ (S := (fun k_ => P0_ k_)) (by repeat (first | (with_reducible first | exact HK.out | apply Kept.alloc | apply Kept.drewN | apply Kept.drew) | exact HK.out)) hkp (fun k_ hs_ => (fun e_ => (HO_0.out.1 k_ e_.symm)) hs_)); have n2_ := Aside0.mk (hb); clear HO_0; clear HK; clear HB; have HO_0 := n0_; have HK := n1_; have HB := n2_; clear n0_ n1_ n2_; (try clear hb); (try clear hkp); (try clear hy0))); try go_wp2_with (first | (go_at_call 76; (with_reducible refine (slices_insertionSortOrdered_byte.calls k1 (fun k_ => some k_ = (.slice Ao7 x0_1.length co7 : Value).ownBlock) (.slice Ao7 x0_1.length co7) x0_1 x1_1 x2_1 t101 w0 _ ?side1 ?side2 A6.out).mono ?_); (case side1 => repeat (first | (with_reducible first | exact HB.out | apply below_alloc | apply pw_below_drewN | apply below_drew1) | exact HB.out)); (case side2 => exact BR_tight rfl HO_0.out); rintro e w8 ⟨rfl,hy0,hb,hkp⟩; have n0_ := Aside0.mk (BR_reok rfl hy0 (fun k_ e_ => HO_0.out.1 k_ e_)); have n1_ := Aside0.mk (Kept.then_ (S := (fun k_ => P0_ k_)) (by repeat (first | (with_reducible first | exact HK.out | apply Kept.alloc | apply Kept.drewN | apply Kept.drew) | exact HK.out)) hkp (fun k_ hs_ => (fun e_ => (HO_0.out.1 k_ e_.symm)) hs_)); have n2_ := Aside0.mk (hb); clear HO_0; clear HK; clear HB; have HO_0 := n0_; have HK := n1_; have HB := n2_; clear n0_ n1_ n2_; (try clear hb); (try clear hkp); (try clear hy0))))
    first | go_end0 | ((try simp only [Exit.inBlock,Exit.then]); refine bodyPost_ret (results_none rfl _ _ _) rfl ?_)
    exact ⟨by first | rfl | (simp [errW_none,errW_some] <;> rfl) | (simp [*,errW_none,errW_some] <;> rfl),by (with_reducible repeat (first | apply BR_alloc | apply BR_drewN | apply BR_drew)); exact HO_0.out,by repeat (first | (with_reducible first | exact HB.out | apply below_alloc | apply pw_below_drewN | apply below_drew1) | exact HB.out),by repeat (first | (with_reducible first | exact HK.out | apply Kept.alloc | apply Kept.drewN | apply Kept.drew) | exact HK.out)⟩
   ·
    rw [if_neg c5] at H; have c5b0 : decide ((wrap64 (x2_1 - x1_1)) ≤ 12) = false := decide_eq_false c5; clear c5
    by_cases c9 : x3_1 = 0
    ·
     rw [if_pos c9] at H; have c9b0 : (x3_1 == 0) = true := beq_iff_eq.mpr c9; have c9b1 : (x3_1 != 0) = false := bne_eq_false_iff_eq.mpr c9; clear c9; replace H := Option.bind_eq_some_iff.mp H; obtain ⟨t102,A100,H⟩ := H; replace H : (some t102) = some r := H; have A10 := Aside0.mk A100; clear A100; obtain rfl := Option.some.inj H; obtain ⟨Ao11,co11,eo11⟩ := BR_slice HO_0.out; subst eo11; go_wp2_with (first | (go_at_call 77; (with_reducible refine (slices_heapSortOrdered_byte.calls k1 (fun k_ => some k_ = (.slice Ao11 x0_1.length co11 : Value).ownBlock) (.slice Ao11 x0_1.length co11) x0_1 x1_1 x2_1 t102 w0 _ ?side1 ?side2 A10.out).mono ?_); (case side1 => repeat (first | (with_reducible first | exact HB.out | apply below_alloc | apply pw_below_drewN | apply below_drew1) | exact HB.out)); (case side2 => exact BR_tight rfl HO_0.out); rintro e w12 ⟨rfl,hy0,hb,hkp⟩; have n0_ := Aside0.mk (BR_reok rfl hy0 (fun k_ e_ => HO_0.out.1 k_ e_)); have n1_ := Aside0.mk (Kept.then_ (S := (fun k_ => P0_ k_)) (by repeat (first | (with_reducible first | exact HK.out | apply Kept.alloc | apply Kept.drewN | apply Kept.drew) | exact HK.out)) hkp (fun k_ hs_ => (fun e_ => (HO_0.out.1 k_ e_.symm)) hs_)); have n2_ := Aside0.mk (hb); clear HO_0; clear HK; clear HB; have HO_0 := n0_; have HK := n1_; have HB := n2_; clear n0_ n1_ n2_; (try clear hb); (try clear hkp); (try clear hy0)))
     repeat (go_quiet (first | (go_at_call 77; (with_reducible refine (slices_heapSortOrdered_byte.calls k1 (fun k_ => some k_ = (.slice Ao11 x0_1.length co11 : Value).ownBlock) (.slice Ao11 x0_1.length co11) x0_1 x1_1 x2_1 t102 w0 _ ?side1 ?side2 A10.out).mono ?_); (case side1 => repeat (first | (with_reducible first | exact HB.out | apply below_alloc | apply pw_below_drewN | apply below_drew1) | exact HB.out)); (case side2 => exact BR_tight rfl HO_0.out); rintro e w12 ⟨rfl,hy0,hb,hkp⟩; have n0_ := Aside0.mk (BR_reok rfl hy0 (fun k_ e_ => HO_0.out.1 k_ e_)); have n1_ := Aside0.mk (Kept.then_ (S := (fun k_ => P0_ k_)) (by repeat (first | (with_reducible first | exact HK.out | apply Kept.alloc | apply Kept.drewN | apply Kept.drew) | exact HK.out)) hkp (fun k_ hs_ => (fun e_ => (HO_0.out.1 k_ e_.symm)) hs_)); have n2_ := Aside0.mk (hb); clear HO_0; clear HK; clear HB; have HO_0 := n0_; have HK := n1_; have HB := n2_; clear n0_ n1_ n2_; (try clear hb); (try clear hkp); (try clear hy0))); try go_wp2_with (first | (go_at_call 77; (with_reducible refine (slices_heapSortOrdered_byte.calls k1 (fun k_ => some k_ = (.slice Ao11 x0_1.length co11 : Value).ownBlock) (.slice Ao11 x0_1.length co11) x0_1 x1_1 x2_1 t102 w0 _ ?side1 ?side2 A10.out).mono ?_); (case side1 => repeat (first | (with_reducible first | exact HB.out | apply below_alloc | apply pw_below_drewN | apply below_drew1) | exact HB.out)); (case side2 => exact BR_tight rfl HO_0.out); rintro e w12 ⟨rfl,hy0,hb,hkp⟩; have n0_ := Aside0.mk (BR_reok rfl hy0 (fun k_ e_ => HO_0.out.1 k_ e_)); have n1_ := Aside0.mk (Kept.then_ (S := (fun k_ => P0_ k_)) (by repeat (first | (with_reducible first | exact HK.out | apply Kept.alloc | apply Kept.drewN | apply Kept.drew) | exact HK.out)) hkp (fun k_ hs_ => (fun e_ => (HO_0.out.1 k_ e_.symm)) hs_)); have n2_ := Aside0.mk (hb); clear HO_0; clear HK; clear HB; have HO_0 := n0_; have HK := n1_; have HB := n2_; clear n0_ n1_ n2_; (try clear hb); (try clear hkp); (try clear hy0))))
     first | go_end0 | ((try simp only [Exit.inBlock,Exit.then]); refine bodyPost_ret (results_none rfl _ _ _) rfl ?_)
     exact ⟨by first | rfl | (simp [errW_none,errW_some] <;> rfl) | (simp [*,errW_none,errW_some] <;> rfl),by (with_reducible repeat (first | apply BR_alloc | apply BR_drewN | apply BR_drew)); exact HO_0.out,by repeat (first | (with_reducible first | exact HB.out | apply below_alloc | apply pw_below_drewN | apply below_drew1) | exact HB.out),by repeat (first | (with_reducible first | exact HK.out | apply Kept.alloc | apply Kept.drewN | apply Kept.drew) | exact HK.out)⟩
    ·
     rw [if_neg c9] at H; have c9b0 : (x3_1 == 0) = false := beq_eq_false_iff_ne.mpr c9; have c9b1 : (x3_1 != 0) = true := bne_iff_ne.mpr c9; have HC13 := Aside0.mk H; clear H
     go_upto_if 35 with (fail)
     repeat (go_quiet (fail); go_upto_if 35 with (fail))
     go_cut [3] (fun v3 wc => ∃ (kq : Nat) (x0_12 : List Int) (x3_12 : Int),v3 = .int .i64 x3_12 ∧ Aside0 (slices_pdqsortOrdered_byte.j1 kq x0_12 x1_1 x2_1 x3_12 x8_1 x9_1 (wrap64 (x2_1 - x1_1)) = some r) ∧ Aside0 (kq ≤ k1) ∧ Aside0 (BR wc w0.heap.size (fun k_ => (P0_ k_ ∨ w.heap.size ≤ k_)) u9000_ x0_12) ∧ Aside0 (Kept w wc (fun k_ => P0_ k_)) ∧ Aside0 (Below w0.heap.size w0 wc))
     case first =>
      have H := HC13.out; clear HC13
      by_cases c14 : x8_1 = true
      ·
       subst c14; have H1 : (slices_pdqsortOrdered_byte.j1 k1 x0_1 x1_1 x2_1 x3_1 true x9_1 (wrap64 (x2_1 - x1_1))) = some r := by rw [if_pos rfl] at H; exact H
       clear H; have H := H1; clear H1; have H' := Aside0.mk H; clear H; go_wp2
       repeat (go_quiet (fail); try go_wp2)
       go_meet
       case rel => exact ⟨_,(x0_1),(x3_1),(by first | rfl | (simp; done) | (simp [*]; done)),H',⟨by have := HK1.out; first | omega | exact Nat.le_refl _⟩,⟨by (with_reducible repeat (first | apply BR_alloc | apply BR_drewN | apply BR_drew)); exact HO_0.out⟩,⟨by repeat (first | (with_reducible first | exact HK.out | apply Kept.alloc | apply Kept.drewN | apply Kept.drew) | exact HK.out)⟩,⟨by repeat (first | (with_reducible first | exact HB.out | apply below_alloc | apply pw_below_drewN | apply below_drew1) | exact HB.out)⟩⟩
      ·
       replace c14 := Bool.eq_false_iff.mpr c14; subst c14; have H1 : ((slices_breakPatternsOrdered_byte.f x0_1 x1_1 x2_1).bind fun t103 => (slices_pdqsortOrdered_byte.j1 k1 t103 x1_1 x2_1 (wrap64 (x3_1 - 1)) false x9_1 (wrap64 (x2_1 - x1_1)))) = some r := by rw [if_neg (show ¬ (false = true) by decide)] at H; exact H
       clear H; have H := H1; clear H1; replace H := Option.bind_eq_some_iff.mp H; obtain ⟨t103,A150,H⟩ := H; replace H : (slices_pdqsortOrdered_byte.j1 k1 t103 x1_1 x2_1 (wrap64 (x3_1 - 1)) false x9_1 (wrap64 (x2_1 - x1_1))) = some r := H; have A15 := Aside0.mk A150; clear A150; have H' := Aside0.mk H; clear H; obtain ⟨Ao16,co16,eo16⟩ := BR_slice HO_0.out; subst eo16; go_wp2_with (first | (go_at_call 78; (with_reducible refine (slices_breakPatternsOrdered_byte.calls (fun k_ => some k_ = (.slice Ao16 x0_1.length co16 : Value).ownBlock) (.slice Ao16 x0_1.length co16) x0_1 x1_1 x2_1 t103 w0 _ ?side1 ?side2 A15.out).mono ?_); (case side1 => repeat (first | (with_reducible first | exact HB.out | apply below_alloc | apply pw_below_drewN | apply below_drew1) | exact HB.out)); (case side2 => exact BR_tight rfl HO_0.out); rintro e w17 ⟨rfl,hy0,hb,hkp⟩; have n0_ := Aside0.mk (BR_reok rfl hy0 (fun k_ e_ => HO_0.out.1 k_ e_)); have n1_ := Aside0.mk (Kept.then_ (S := (fun k_ => P0_ k_)) (by repeat (first | (with_reducible first | exact HK.out | apply Kept.alloc | apply Kept.drewN | apply Kept.drew) | exact HK.out)) hkp (fun k_ hs_ => (fun e_ => (HO_0.out.1 k_ e_.symm)) hs_)); have n2_ := Aside0.mk (hb); clear HO_0; clear HK; clear HB; have HO_0 := n0_; have HK := n1_; have HB := n2_; clear n0_ n1_ n2_; (try clear hb); (try clear hkp); (try clear hy0)))
       repeat (go_quiet (first | (go_at_call 78; (with_reducible refine (slices_breakPatternsOrdered_byte.calls (fun k_ => some k_ = (.slice Ao16 x0_1.length co16 : Value).ownBlock) (.slice Ao16 x0_1.length co16) x0_1 x1_1 x2_1 t103 w0 _ ?side1 ?side2 A15.out).mono ?_); (case side1 => repeat (first | (with_reducible first | exact HB.out | apply below_alloc | apply pw_below_drewN | apply below_drew1) | exact HB.out)); (case side2 => exact BR_tight rfl HO_0.out); rintro e w17 ⟨rfl,hy0,hb,hkp⟩; have n0_ := Aside0.mk (BR_reok rfl hy0 (fun k_ e_ => HO_0.out.1 k_ e_)); have n1_ := Aside0.mk (Kept.then_ (S := (fun k_ => P0_ k_)) (by repeat (first | (with_reducible first | exact HK.out | apply Kept.alloc | apply Kept.drewN | apply Kept.drew) | exact HK.out)) hkp (fun k_ hs_ => (fun e_ => (HO_0.out.1 k_ e_.symm)) hs_)); have n2_ := Aside0.mk (hb); clear HO_0; clear HK; clear HB; have HO_0 := n0_; have HK := n1_; have HB := n2_; clear n0_ n1_ n2_; (try clear hb); (try clear hkp); (try clear hy0))); try go_wp2_with (first | (go_at_call 78; (with_reducible refine (slices_breakPatternsOrdered_byte.calls (fun k_ => some k_ = (.slice Ao16 x0_1.length co16 : Value).ownBlock) (.slice Ao16 x0_1.length co16) x0_1 x1_1 x2_1 t103 w0 _ ?side1 ?side2 A15.out).mono ?_); (case side1 => repeat (first | (with_reducible first | exact HB.out | apply below_alloc | apply pw_below_drewN | apply below_drew1) | exact HB.out)); (case side2 => exact BR_tight rfl HO_0.out); rintro e w17 ⟨rfl,hy0,hb,hkp⟩; have n0_ := Aside0.mk (BR_reok rfl hy0 (fun k_ e_ => HO_0.out.1 k_ e_)); have n1_ := Aside0.mk (Kept.then_ (S := (fun k_ => P0_ k_)) (by repeat (first | (with_reducible first | exact HK.out | apply Kept.alloc | apply Kept.drewN | apply Kept.drew) | exact HK.out)) hkp (fun k_ hs_ => (fun e_ => (HO_0.out.1 k_ e_.symm)) hs_)); have n2_ := Aside0.mk (hb); clear HO_0; clear HK; clear HB; have HO_0 := n0_; have HK := n1_; have HB := n2_; clear n0_ n1_ n2_; (try clear hb); (try clear hkp); (try clear hy0))))
       go_meet
       case rel => exact ⟨_,(t103),(wrap64 (x3_1 - 1)),(by first | rfl | (simp; done) | (simp [*]; done)),H',⟨by have := HK1.out; first | omega | exact Nat.le_refl _⟩,⟨by (with_reducible repeat (first | apply BR_alloc | apply BR_drewN | apply BR_drew)); exact HO_0.out⟩,⟨by repeat (first | (with_reducible first | exact HK.out | apply Kept.alloc | apply Kept.drewN | apply Kept.drew) | exact HK.out)⟩,⟨by repeat (first | (with_reducible first | exact HB.out | apply below_alloc | apply pw_below_drewN | apply below_drew1) | exact HB.out)⟩⟩
     case rest =>
      clear HC13; try clear c1
      try clear p2
      try clear c5
      try clear c5b0
      try clear c6
      try clear p6
      try clear c9
      try clear c9b0
      try clear c9b1
      try clear c14
      try clear p2
      obtain ⟨kq,x0_12,x3_12,rfl,HA,HJ12,HO_0,HK,HB⟩ := hcut
      cases kq with
      | zero => exact absurd HA.out (by simp [slices_pdqsortOrdered_byte.j1])
      | succ kj12 =>
       have H := HA.out; clear HA; simp only [slices_pdqsortOrdered_byte.j1] at H; replace H := Option.bind_eq_some_iff.mp H; obtain ⟨⟨t104,t105⟩,A180,H⟩ := H; replace H : (if t105 = 2 then ((slices_reverseRangeOrdered_byte.f kj12 x0_12 x1_1 x2_1).bind fun t106 => (slices_pdqsortOrdered_byte.j2 kj12 t106 x1_1 x2_1 x3_12 x8_1 x9_1 (wrap64 (x2_1 - x1_1)) (wrap64 ((wrap64 (x2_1 - 1)) - (wrap64 (t104 - x1_1)))) 1)) else (slices_pdqsortOrdered_byte.j2 kj12 x0_12 x1_1 x2_1 x3_12 x8_1 x9_1 (wrap64 (x2_1 - x1_1)) t104 t105)) = some r := H; have A18 := Aside0.mk A180; clear A180; have HC19 := Aside0.mk H; clear H; obtain ⟨Ao20,co20,eo20⟩ := BR_slice HO_0.out; subst eo20
       go_upto_if 50 with (first | (go_at_call 79; (with_reducible refine (slices_choosePivotOrdered_byte.calls _ _ x0_12 x1_1 x2_1 t104 t105 _ ?side1 ?side2 A18.out).mono ?_); (case side1 => repeat (first | exact (BR_reads' HO_0.out).2.2 | (with_reducible refine Kd.C_alloc ?_ _) | (with_reducible refine Kd.C_drewN ?_ _) | (with_reducible refine Kd.C_drew ?_))); (case side2 => exact (BR_reads' HO_0.out).2.1); rintro e w21 ⟨rfl,hb⟩; have n0_ := Aside0.mk (BR_below (by (with_reducible repeat (first | apply BR_alloc | apply BR_drewN | apply BR_drew)); exact HO_0.out) hb); have n1_ := Aside0.mk (Kept.below (S := (fun k_ => P0_ k_)) (by repeat (first | (with_reducible first | exact HK.out | apply Kept.alloc | apply Kept.drewN | apply Kept.drew) | exact HK.out)) hb); have n2_ := Aside0.mk (below_step (by repeat (first | (with_reducible first | exact HB.out | apply below_alloc | apply pw_below_drewN | apply below_drew1) | exact HB.out)) hb); clear HO_0; clear HK; clear HB; have HO_0 := n0_; have HK := n1_; have HB := n2_; clear n0_ n1_ n2_; (try clear hb); (try clear hb2); (try clear hk); (try clear hi)))
       repeat (go_quiet (first | (go_at_call 79; (with_reducible refine (slices_choosePivotOrdered_byte.calls _ _ x0_12 x1_1 x2_1 t104 t105 _ ?side1 ?side2 A18.out).mono ?_); (case side1 => repeat (first | exact (BR_reads' HO_0.out).2.2 | (with_reducible refine Kd.C_alloc ?_ _) | (with_reducible refine Kd.C_drewN ?_ _) | (with_reducible refine Kd.C_drew ?_))); (case side2 => exact (BR_reads' HO_0.out).2.1); rintro e w21 ⟨rfl,hb⟩; have n0_ := Aside0.mk (BR_below (by (with_reducible repeat (first | apply BR_alloc | apply BR_drewN | apply BR_drew)); exact HO_0.out) hb); have n1_ := Aside0.mk (Kept.below (S := (fun k_ => P0_ k_)) (by repeat (first | (with_reducible first | exact HK.out | apply Kept.alloc | apply Kept.drewN | apply Kept.drew) | exact HK.out)) hb); have n2_ := Aside0.mk (below_step (by repeat (first | (with_reducible first | exact HB.out | apply below_alloc | apply pw_below_drewN | apply below_drew1) | exact HB.out)) hb); clear HO_0; clear HK; clear HB; have HO_0 := n0_; have HK := n1_; have HB := n2_; clear n0_ n1_ n2_; (try clear hb); (try clear hb2); (try clear hk); (try clear hi))); go_upto_if 50 with (first | (go_at_call 79; (with_reducible refine (slices_choosePivotOrdered_byte.calls _ _ x0_12 x1_1 x2_1 t104 t105 _ ?side1 ?side2 A18.out).mono ?_); (case side1 => repeat (first | exact (BR_reads' HO_0.out).2.2 | (with_reducible refine Kd.C_alloc ?_ _) | (with_reducible refine Kd.C_drewN ?_ _) | (with_reducible refine Kd.C_drew ?_))); (case side2 => exact (BR_reads' HO_0.out).2.1); rintro e w21 ⟨rfl,hb⟩; have n0_ := Aside0.mk (BR_below (by (with_reducible repeat (first | apply BR_alloc | apply BR_drewN | apply BR_drew)); exact HO_0.out) hb); have n1_ := Aside0.mk (Kept.below (S := (fun k_ => P0_ k_)) (by repeat (first | (with_reducible first | exact HK.out | apply Kept.alloc | apply Kept.drewN | apply Kept.drew) | exact HK.out)) hb); have n2_ := Aside0.mk (below_step (by repeat (first | (with_reducible first | exact HB.out | apply below_alloc | apply pw_below_drewN | apply below_drew1) | exact HB.out)) hb); clear HO_0; clear HK; clear HB; have HO_0 := n0_; have HK := n1_; have HB := n2_; clear n0_ n1_ n2_; (try clear hb); (try clear hb2); (try clear hk); (try clear hi))))
       (try simp only [Act.put,List.setIfInBounds_toArray,List.set_cons_zero,List.set_cons_succ])
       go_cut [11,12] (fun v11 v12 wc => ∃ (kq : Nat) (x0_18 : List Int) (x11_18 : Int) (x12_18 : Int),v11 = .int .i64 x11_18 ∧ v12 = .int .i64 x12_18 ∧ Aside0 (slices_pdqsortOrdered_byte.j2 kq x0_18 x1_1 x2_1 x3_12 x8_1 x9_1 (wrap64 (x2_1 - x1_1)) x11_18 x12_18 = some r) ∧ Aside0 (kq ≤ kj12) ∧ Aside0 (BR wc w0.heap.size (fun k_ => (P0_ k_ ∨ w.heap.size ≤ k_)) (.slice Ao20 x0_12.length co20) x0_18) ∧ Aside0 (Kept w wc (fun k_ => P0_ k_)) ∧ Aside0 (Below w0.heap.size w0 wc))
       case first =>
        have H := HC19.out; clear HC19
        by_cases c22 : t105 = 2
        ·
         rw [if_pos c22] at H; have c22b0 : (t105 == 2) = true := beq_iff_eq.mpr c22; have c22b1 : (t105 != 2) = false := bne_eq_false_iff_eq.mpr c22; clear c22
         (first | rw [c22b0] | (simp only [i64_w,i32_w]; rw [c22b0]) | skip)
         replace H := Option.bind_eq_some_iff.mp H; obtain ⟨t106,A230,H⟩ := H; replace H : (slices_pdqsortOrdered_byte.j2 kj12 t106 x1_1 x2_1 x3_12 x8_1 x9_1 (wrap64 (x2_1 - x1_1)) (wrap64 ((wrap64 (x2_1 - 1)) - (wrap64 (t104 - x1_1)))) 1) = some r := H; have A23 := Aside0.mk A230; clear A230; have H' := Aside0.mk H; clear H; go_wp2_with (first | (go_at_call 80; (with_reducible refine (slices_reverseRangeOrdered_byte.calls kj12 (fun k_ => some k_ = (.slice Ao20 x0_12.length co20 : Value).ownBlock) (.slice Ao20 x0_12.length co20) x0_12 x1_1 x2_1 t106 w0 _ ?side1 ?side2 A23.out).mono ?_); (case side1 => repeat (first | (with_reducible first | exact HB.out | apply below_alloc | apply pw_below_drewN | apply below_drew1) | exact HB.out)); (case side2 => exact BR_tight rfl HO_0.out); rintro e w24 ⟨rfl,hy0,hb,hkp⟩; have n0_ := Aside0.mk (BR_reok rfl hy0 (fun k_ e_ => HO_0.out.1 k_ e_)); have n1_ := Aside0.mk (Kept.then_ (S := (fun k_ => P0_ k_)) (by repeat (first | (with_reducible first | exact HK.out | apply Kept.alloc | apply Kept.drewN | apply Kept.drew) | exact HK.out)) hkp (fun k_ hs_ => (fun e_ => (HO_0.out.1 k_ e_.symm)) hs_)); have n2_ := Aside0.mk (hb); clear HO_0; clear HK; clear HB; have HO_0 := n0_; have HK := n1_; have HB := n2_; clear n0_ n1_ n2_; (try clear hb); (try clear hkp); (try clear hy0)))
         repeat (go_quiet (first | (go_at_call 80; (with_reducible refine (slices_reverseRangeOrdered_byte.calls kj12 (fun k_ => some k_ = (.slice Ao20 x0_12.length co20 : Value).ownBlock) (.slice Ao20 x0_12.length co20) x0_12 x1_1 x2_1 t106 w0 _ ?side1 ?side2 A23.out).mono ?_); (case side1 => repeat (first | (with_reducible first | exact HB.out | apply below_alloc | apply pw_below_drewN | apply below_drew1) | exact HB.out)); (case side2 => exact BR_tight rfl HO_0.out); rintro e w24 ⟨rfl,hy0,hb,hkp⟩; have n0_ := Aside0.mk (BR_reok rfl hy0 (fun k_ e_ => HO_0.out.1 k_ e_)); have n1_ := Aside0.mk (Kept.then_ (S := (fun k_ => P0_ k_)) (by repeat (first | (with_reducible first | exact HK.out | apply Kept.alloc | apply Kept.drewN | apply Kept.drew) | exact HK.out)) hkp (fun k_ hs_ => (fun e_ => (HO_0.out.1 k_ e_.symm)) hs_)); have n2_ := Aside0.mk (hb); clear HO_0; clear HK; clear HB; have HO_0 := n0_; have HK := n1_; have HB := n2_; clear n0_ n1_ n2_; (try clear hb); (try clear hkp); (try clear hy0))); try go_wp2_with (first | (go_at_call 80; (with_reducible refine (slices_reverseRangeOrdered_byte.calls kj12 (fun k_ => some k_ = (.slice Ao20 x0_12.length co20 : Value).ownBlock) (.slice Ao20 x0_12.length co20) x0_12 x1_1 x2_1 t106 w0 _ ?side1 ?side2 A23.out).mono ?_); (case side1 => repeat (first | (with_reducible first | exact HB.out | apply below_alloc | apply pw_below_drewN | apply below_drew1) | exact HB.out)); (case side2 => exact BR_tight rfl HO_0.out); rintro e w24 ⟨rfl,hy0,hb,hkp⟩; have n0_ := Aside0.mk (BR_reok rfl hy0 (fun k_ e_ => HO_0.out.1 k_ e_)); have n1_ := Aside0.mk (Kept.then_ (S := (fun k_ => P0_ k_)) (by repeat (first | (with_reducible first | exact HK.out | apply Kept.alloc | apply Kept.drewN | apply Kept.drew) | exact HK.out)) hkp (fun k_ hs_ => (fun e_ => (HO_0.out.1 k_ e_.symm)) hs_)); have n2_ := Aside0.mk (hb); clear HO_0; clear HK; clear HB; have HO_0 := n0_; have HK := n1_; have HB := n2_; clear n0_ n1_ n2_; (try clear hb); (try clear hkp); (try clear hy0))))
         go_meet
         case rel => exact ⟨_,(t106),(wrap64 ((wrap64 (x2_1 - 1)) - (wrap64 (t104 - x1_1)))),(1),(by first | rfl | (simp; done) | (simp [*]; done)),(by first | rfl | (simp; done) | (simp [*]; done)),H',⟨by have := HK1.out; have := HJ12.out; first | omega | exact Nat.le_refl _⟩,⟨by (with_reducible repeat (first | apply BR_alloc | apply BR_drewN | apply BR_drew)); exact HO_0.out⟩,⟨by repeat (first | (with_reducible first | exact HK.out | apply Kept.alloc | apply Kept.drewN | apply Kept.drew) | exact HK.out)⟩,⟨by repeat (first | (with_reducible first | exact HB.out | apply below_alloc | apply pw_below_drewN | apply below_drew1) | exact HB.out)⟩⟩
        ·
         rw [if_neg c22] at H; have c22b0 : (t105 == 2) = false := beq_eq_false_iff_ne.mpr c22; have c22b1 : (t105 != 2) = true := bne_iff_ne.mpr c22
         (first | rw [c22b0] | (simp only [i64_w,i32_w]; rw [c22b0]) | skip)
         have H' := Aside0.mk H; clear H; go_wp2
         repeat (go_quiet (fail); try go_wp2)
         go_meet
         case rel => exact ⟨_,(x0_12),(t104),(t105),(by first | rfl | (simp; done) | (simp [*]; done)),(by first | rfl | (simp; done) | (simp [*]; done)),H',⟨by have := HK1.out; have := HJ12.out; first | omega | exact Nat.le_refl _⟩,⟨by (with_reducible repeat (first | apply BR_alloc | apply BR_drewN | apply BR_drew)); exact HO_0.out⟩,⟨by repeat (first | (with_reducible first | exact HK.out | apply Kept.alloc | apply Kept.drewN | apply Kept.drew) | exact HK.out)⟩,⟨by repeat (first | (with_reducible first | exact HB.out | apply below_alloc | apply pw_below_drewN | apply below_drew1) | exact HB.out)⟩⟩
       case rest =>
        clear HC19; try clear c1
        try clear c2
        try clear p2
        try clear c5
        try clear c5b0
        try clear c6
        try clear p6
        try clear c9
        try clear c9b0
        try clear c9b1
        try clear c14
        try clear c22
        try clear c22b0
        try clear c22b1
        try clear p2
        try clear p6
        obtain ⟨kq,x0_18,x11_18,x12_18,rfl,rfl,HA,HJ18,HO_0,HK,HB⟩ := hcut; have hl0_18 := (BR_reads' HO_0.out).1; rw [hl0_18] at HO_0
        (try simp only [hl0_18])
        cases kq with
        | zero => exact absurd HA.out (by simp [slices_pdqsortOrdered_byte.j2])
        | succ kj18 =>
         have H := HA.out; clear HA; simp only [slices_pdqsortOrdered_byte.j2] at H; have HC25 := Aside0.mk H; clear H
         go_upto_region 15 with (fail)
         repeat (go_quiet (fail); go_upto_region 15 with (fail))
         go_cut [68] (fun v68 wc => ∃ (kq : Nat) (x68_24 : Bool),v68 = .bool x68_24 ∧ Aside0 (slices_pdqsortOrdered_byte.j3 kq x0_18 x1_1 x2_1 x3_12 x8_1 x9_1 (wrap64 (x2_1 - x1_1)) x11_18 x68_24 = some r) ∧ Aside0 (kq ≤ kj18) ∧ Aside0 (BR wc w0.heap.size (fun k_ => (P0_ k_ ∨ w.heap.size ≤ k_)) (.slice Ao20 x0_18.length co20) x0_18) ∧ Aside0 (Kept w wc (fun k_ => P0_ k_)) ∧ Aside0 (Below w0.heap.size w0 wc))
         case first =>
          have H := HC25.out; clear HC25
          by_cases c26 : x8_1 = true
          ·
           subst c26; have H1 : (if x9_1 = true then (slices_pdqsortOrdered_byte.j3 kj18 x0_18 x1_1 x2_1 x3_12 true x9_1 (wrap64 (x2_1 - x1_1)) x11_18 (x12_18 == 1)) else (slices_pdqsortOrdered_byte.j3 kj18 x0_18 x1_1 x2_1 x3_12 true x9_1 (wrap64 (x2_1 - x1_1)) x11_18 false)) = some r := by rw [if_pos rfl] at H; exact H
           clear H; have H := H1; clear H1
           by_cases c27 : x9_1 = true
           ·
            subst c27; have H1 : (slices_pdqsortOrdered_byte.j3 kj18 x0_18 x1_1 x2_1 x3_12 true true (wrap64 (x2_1 - x1_1)) x11_18 (x12_18 == 1)) = some r := by rw [if_pos rfl] at H; exact H
            clear H; have H := H1; clear H1; have H' := Aside0.mk H; clear H; go_wp2
            repeat (go_quiet (fail); try go_wp2)
            go_meet
            case rel => exact ⟨_,((x12_18 == 1)),(by first | rfl | (simp; done) | (simp [*]; done)),H',⟨by have := HK1.out; have := HJ12.out; have := HJ18.out; first | omega | exact Nat.le_refl _⟩,⟨by (try simp only [hl0_18]); (with_reducible repeat (first | apply BR_alloc | apply BR_drewN | apply BR_drew)); exact HO_0.out⟩,⟨by repeat (first | (with_reducible first | exact HK.out | apply Kept.alloc | apply Kept.drewN | apply Kept.drew) | exact HK.out)⟩,⟨by repeat (first | (with_reducible first | exact HB.out | apply below_alloc | apply pw_below_drewN | apply below_drew1) | exact HB.out)⟩⟩
           ·
            replace c27 := Bool.eq_false_iff.mpr c27; subst c27; have H1 : (slices_pdqsortOrdered_byte.j3 kj18 x0_18 x1_1 x2_1 x3_12 true false (wrap64 (x2_1 - x1_1)) x11_18 false) = some r := by rw [if_neg (show ¬ (false = true) by decide)] at H; exact H
            clear H; have H := H1; clear H1; have H' := Aside0.mk H; clear H; go_wp2
            repeat (go_quiet (fail); try go_wp2)
            go_meet
            case rel => exact ⟨_,(false),(by first | rfl | (simp; done) | (simp [*]; done)),H',⟨by have := HK1.out; have := HJ12.out; have := HJ18.out; first | omega | exact Nat.le_refl _⟩,⟨by (try simp only [hl0_18]); (with_reducible repeat (first | apply BR_alloc | apply BR_drewN | apply BR_drew)); exact HO_0.out⟩,⟨by repeat (first | (with_reducible first | exact HK.out | apply Kept.alloc | apply Kept.drewN | apply Kept.drew) | exact HK.out)⟩,⟨by repeat (first | (with_reducible first | exact HB.out | apply below_alloc | apply pw_below_drewN | apply below_drew1) | exact HB.out)⟩⟩
          ·
           replace c26 := Bool.eq_false_iff.mpr c26; subst c26; have H1 : (slices_pdqsortOrdered_byte.j3 kj18 x0_18 x1_1 x2_1 x3_12 false x9_1 (wrap64 (x2_1 - x1_1)) x11_18 false) = some r := by rw [if_neg (show ¬ (false = true) by decide)] at H; exact H
           clear H; have H := H1; clear H1; have H' := Aside0.mk H; clear H; go_wp2
           repeat (go_quiet (fail); try go_wp2)
           go_meet
           case rel => exact ⟨_,(false),(by first | rfl | (simp; done) | (simp [*]; done)),H',⟨by have := HK1.out; have := HJ12.out; have := HJ18.out; first | omega | exact Nat.le_refl _⟩,⟨by (try simp only [hl0_18]); (with_reducible repeat (first | apply BR_alloc | apply BR_drewN | apply BR_drew)); exact HO_0.out⟩,⟨by repeat (first | (with_reducible first | exact HK.out | apply Kept.alloc | apply Kept.drewN | apply Kept.drew) | exact HK.out)⟩,⟨by repeat (first | (with_reducible first | exact HB.out | apply below_alloc | apply pw_below_drewN | apply below_drew1) | exact HB.out)⟩⟩
         case rest =>
          clear HC25; try clear c1
          try clear c2
          try clear p2
          try clear c5
          try clear c5b0
          try clear c6
          try clear p6
          try clear c9
          try clear c9b0
          try clear c9b1
          try clear c14
          try clear c22
          try clear c22b0
          try clear c22b1
          try clear c26
          try clear c27
          try clear p2
          try clear p6
          obtain ⟨kq,x68_24,rfl,HA,HJ24,HO_0,HK,HB⟩ := hcut
          cases kq with
          | zero => exact absurd HA.out (by simp [slices_pdqsortOrdered_byte.j3])
          | succ kj24 =>
           have H := HA.out; clear HA; simp only [slices_pdqsortOrdered_byte.j3] at H; have HC28 := Aside0.mk H; clear H
           go_upto_if 68 with (fail)
           repeat (go_quiet (fail); go_upto_if 68 with (fail))
           go_cut [] (fun wc => ∃ (kq : Nat) (x0_27 : List Int),Aside0 (slices_pdqsortOrdered_byte.j4 kq x0_27 x1_1 x2_1 x3_12 x8_1 x9_1 (wrap64 (x2_1 - x1_1)) x11_18 = some r) ∧ Aside0 (kq ≤ kj24) ∧ Aside0 (BR wc w0.heap.size (fun k_ => (P0_ k_ ∨ w.heap.size ≤ k_)) (.slice Ao20 x0_18.length co20) x0_27) ∧ Aside0 (Kept w wc (fun k_ => P0_ k_)) ∧ Aside0 (Below w0.heap.size w0 wc))
           case first =>
            have H := HC28.out; clear HC28
            by_cases c29 : x68_24 = true
            ·
             subst c29; have H1 : ((slices_partialInsertionSortOrdered_byte.f kj24 x0_18 x1_1 x2_1).bind fun bt107 => (if bt107.1 = true then (some bt107.2) else (slices_pdqsortOrdered_byte.j4 kj24 bt107.2 x1_1 x2_1 x3_12 x8_1 x9_1 (wrap64 (x2_1 - x1_1)) x11_18))) = some r := by rw [if_pos rfl] at H; exact H
             clear H; have H := H1; clear H1; replace H := Option.bind_eq_some_iff.mp H; obtain ⟨⟨t107,t108⟩,A300,H⟩ := H; replace H : (if t107 = true then (some t108) else (slices_pdqsortOrdered_byte.j4 kj24 t108 x1_1 x2_1 x3_12 x8_1 x9_1 (wrap64 (x2_1 - x1_1)) x11_18)) = some r := H; have A30 := Aside0.mk A300; clear A300
             by_cases c31 : t107 = true
             ·
              subst c31; have H1 : (some t108) = some r := by rw [if_pos rfl] at H; exact H
              clear H; have H := H1; clear H1; obtain rfl := Option.some.inj H; go_wp2_with (first | (go_at_call 81; (with_reducible refine (slices_partialInsertionSortOrdered_byte.calls kj24 (fun k_ => some k_ = (.slice Ao20 x0_18.length co20 : Value).ownBlock) (.slice Ao20 x0_18.length co20) x0_18 x1_1 x2_1 true t108 w0 _ ?side1 ?side2 A30.out).mono ?_); (case side1 => repeat (first | (with_reducible first | exact HB.out | apply below_alloc | apply pw_below_drewN | apply below_drew1) | exact HB.out)); (case side2 => exact BR_tight rfl HO_0.out); rintro e w32 ⟨rfl,hy0,hb,hkp⟩; have n0_ := Aside0.mk (BR_reok rfl hy0 (fun k_ e_ => HO_0.out.1 k_ e_)); have n1_ := Aside0.mk (Kept.then_ (S := (fun k_ => P0_ k_)) (by repeat (first | (with_reducible first | exact HK.out | apply Kept.alloc | apply Kept.drewN | apply Kept.drew) | exact HK.out)) hkp (fun k_ hs_ => (fun e_ => (HO_0.out.1 k_ e_.symm)) hs_)); have n2_ := Aside0.mk (hb); clear HO_0; clear HK; clear HB; have HO_0 := n0_; have HK := n1_; have HB := n2_; clear n0_ n1_ n2_; (try clear hb); (try clear hkp); (try clear hy0)))
              repeat (go_quiet (first | (go_at_call 81; (with_reducible refine (slices_partialInsertionSortOrdered_byte.calls kj24 (fun k_ => some k_ = (.slice Ao20 x0_18.length co20 : Value).ownBlock) (.slice Ao20 x0_18.length co20) x0_18 x1_1 x2_1 true t108 w0 _ ?side1 ?side2 A30.out).mono ?_); (case side1 => repeat (first | (with_reducible first | exact HB.out | apply below_alloc | apply pw_below_drewN | apply below_drew1) | exact HB.out)); (case side2 => exact BR_tight rfl HO_0.out); rintro e w32 ⟨rfl,hy0,hb,hkp⟩; have n0_ := Aside0.mk (BR_reok rfl hy0 (fun k_ e_ => HO_0.out.1 k_ e_)); have n1_ := Aside0.mk (Kept.then_ (S := (fun k_ => P0_ k_)) (by repeat (first | (with_reducible first | exact HK.out | apply Kept.alloc | apply Kept.drewN | apply Kept.drew) | exact HK.out)) hkp (fun k_ hs_ => (fun e_ => (HO_0.out.1 k_ e_.symm)) hs_)); have n2_ := Aside0.mk (hb); clear HO_0; clear HK; clear HB; have HO_0 := n0_; have HK := n1_; have HB := n2_; clear n0_ n1_ n2_; (try clear hb); (try clear hkp); (try clear hy0))); try go_wp2_with (first | (go_at_call 81; (with_reducible refine (slices_partialInsertionSortOrdered_byte.calls kj24 (fun k_ => some k_ = (.slice Ao20 x0_18.length co20 : Value).ownBlock) (.slice Ao20 x0_18.length co20) x0_18 x1_1 x2_1 true t108 w0 _ ?side1 ?side2 A30.out).mono ?_); (case side1 => repeat (first | (with_reducible first | exact HB.out | apply below_alloc | apply pw_below_drewN | apply below_drew1) | exact HB.out)); (case side2 => exact BR_tight rfl HO_0.out); rintro e w32 ⟨rfl,hy0,hb,hkp⟩; have n0_ := Aside0.mk (BR_reok rfl hy0 (fun k_ e_ => HO_0.out.1 k_ e_)); have n1_ := Aside0.mk (Kept.then_ (S := (fun k_ => P0_ k_)) (by repeat (first | (with_reducible first | exact HK.out | apply Kept.alloc | apply Kept.drewN | apply Kept.drew) | exact HK.out)) hkp (fun k_ hs_ => (fun e_ => (HO_0.out.1 k_ e_.symm)) hs_)); have n2_ := Aside0.mk (hb); clear HO_0; clear HK; clear HB; have HO_0 := n0_; have HK := n1_; have HB := n2_; clear n0_ n1_ n2_; (try clear hb); (try clear hkp); (try clear hy0))))
              first | go_end0 | ((try simp only [Exit.inBlock,Exit.then]); refine bodyPost_ret (results_none rfl _ _ _) rfl ?_)
              exact ⟨by first | rfl | (simp [errW_none,errW_some] <;> rfl) | (simp [*,errW_none,errW_some] <;> rfl),(by first | exact (by (with_reducible repeat (first | apply BR_alloc | apply BR_drewN | apply BR_drew)); exact HO_0.out) | (simp only [hl0_18]; exact (by (with_reducible repeat (first | apply BR_alloc | apply BR_drewN | apply BR_drew)); exact HO_0.out))),by repeat (first | (with_reducible first | exact HB.out | apply below_alloc | apply pw_below_drewN | apply below_drew1) | exact HB.out),by repeat (first | (with_reducible first | exact HK.out | apply Kept.alloc | apply Kept.drewN | apply Kept.drew) | exact HK.out)⟩
             ·
              replace c31 := Bool.eq_false_iff.mpr c31; subst c31; have H1 : (slices_pdqsortOrdered_byte.j4 kj24 t108 x1_1 x2_1 x3_12 x8_1 x9_1 (wrap64 (x2_1 - x1_1)) x11_18) = some r := by rw [if_neg (show ¬ (false = true) by decide)] at H; exact H
              clear H; have H := H1; clear H1; have H' := Aside0.mk H; clear H; go_wp2_with (first | (go_at_call 81; (with_reducible refine (slices_partialInsertionSortOrdered_byte.calls kj24 (fun k_ => some k_ = (.slice Ao20 x0_18.length co20 : Value).ownBlock) (.slice Ao20 x0_18.length co20) x0_18 x1_1 x2_1 false t108 w0 _ ?side1 ?side2 A30.out).mono ?_); (case side1 => repeat (first | (with_reducible first | exact HB.out | apply below_alloc | apply pw_below_drewN | apply below_drew1) | exact HB.out)); (case side2 => exact BR_tight rfl HO_0.out); rintro e w33 ⟨rfl,hy0,hb,hkp⟩; have n0_ := Aside0.mk (BR_reok rfl hy0 (fun k_ e_ => HO_0.out.1 k_ e_)); have n1_ := Aside0.mk (Kept.then_ (S := (fun k_ => P0_ k_)) (by repeat (first | (with_reducible first | exact HK.out | apply Kept.alloc | apply Kept.drewN | apply Kept.drew) | exact HK.out)) hkp (fun k_ hs_ => (fun e_ => (HO_0.out.1 k_ e_.symm)) hs_)); have n2_ := Aside0.mk (hb); clear HO_0; clear HK; clear HB; have HO_0 := n0_; have HK := n1_; have HB := n2_; clear n0_ n1_ n2_; (try clear hb); (try clear hkp); (try clear hy0)))
              repeat (go_quiet (first | (go_at_call 81; (with_reducible refine (slices_partialInsertionSortOrdered_byte.calls kj24 (fun k_ => some k_ = (.slice Ao20 x0_18.length co20 : Value).ownBlock) (.slice Ao20 x0_18.length co20) x0_18 x1_1 x2_1 false t108 w0 _ ?side1 ?side2 A30.out).mono ?_); (case side1 => repeat (first | (with_reducible first | exact HB.out | apply below_alloc | apply pw_below_drewN | apply below_drew1) | exact HB.out)); (case side2 => exact BR_tight rfl HO_0.out); rintro e w33 ⟨rfl,hy0,hb,hkp⟩; have n0_ := Aside0.mk (BR_reok rfl hy0 (fun k_ e_ => HO_0.out.1 k_ e_)); have n1_ := Aside0.mk (Kept.then_ (S := (fun k_ => P0_ k_)) (by repeat (first | (with_reducible first | exact HK.out | apply Kept.alloc | apply Kept.drewN | apply Kept.drew) | exact HK.out)) hkp (fun k_ hs_ => (fun e_ => (HO_0.out.1 k_ e_.symm)) hs_)); have n2_ := Aside0.mk (hb); clear HO_0; clear HK; clear HB; have HO_0 := n0_; have HK := n1_; have HB := n2_; clear n0_ n1_ n2_; (try clear hb); (try clear hkp); (try clear hy0))); try go_wp2_with (first | (go_at_call 81; (with_reducible refine (slices_partialInsertionSortOrdered_byte.calls kj24 (fun k_ => some k_ = (.slice Ao20 x0_18.length co20 : Value).ownBlock) (.slice Ao20 x0_18.length co20) x0_18 x1_1 x2_1 false t108 w0 _ ?side1 ?side2 A30.out).mono ?_); (case side1 => repeat (first | (with_reducible first | exact HB.out | apply below_alloc | apply pw_below_drewN | apply below_drew1) | exact HB.out)); (case side2 => exact BR_tight rfl HO_0.out); rintro e w33 ⟨rfl,hy0,hb,hkp⟩; have n0_ := Aside0.mk (BR_reok rfl hy0 (fun k_ e_ => HO_0.out.1 k_ e_)); have n1_ := Aside0.mk (Kept.then_ (S := (fun k_ => P0_ k_)) (by repeat (first | (with_reducible first | exact HK.out | apply Kept.alloc | apply Kept.drewN | apply Kept.drew) | exact HK.out)) hkp (fun k_ hs_ => (fun e_ => (HO_0.out.1 k_ e_.symm)) hs_)); have n2_ := Aside0.mk (hb); clear HO_0; clear HK; clear HB; have HO_0 := n0_; have HK := n1_; have HB := n2_; clear n0_ n1_ n2_; (try clear hb); (try clear hkp); (try clear hy0))))
              go_meet
              case rel => exact ⟨_,(t108),H',⟨by have := HK1.out; have := HJ12.out; have := HJ18.out; have := HJ24.out; first | omega | exact Nat.le_refl _⟩,⟨by (try simp only [hl0_18]); (with_reducible repeat (first | apply BR_alloc | apply BR_drewN | apply BR_drew)); exact HO_0.out⟩,⟨by repeat (first | (with_reducible first | exact HK.out | apply Kept.alloc | apply Kept.drewN | apply Kept.drew) | exact HK.out)⟩,⟨by repeat (first | (with_reducible first | exact HB.out | apply below_alloc | apply pw_below_drewN | apply below_drew1) | exact HB.out)⟩⟩
            ·
             replace c29 := Bool.eq_false_iff.mpr c29; subst c29; have H1 : (slices_pdqsortOrdered_byte.j4 kj24 x0_18 x1_1 x2_1 x3_12 x8_1 x9_1 (wrap64 (x2_1 - x1_1)) x11_18) = some r := by rw [if_neg (show ¬ (false = true) by decide)] at H; exact H
             clear H; have H := H1; clear H1; have H' := Aside0.mk H; clear H; go_wp2
             repeat (go_quiet (fail); try go_wp2)
             go_meet
             case rel => exact ⟨_,(x0_18),H',⟨by have := HK1.out; have := HJ12.out; have := HJ18.out; have := HJ24.out; first | omega | exact Nat.le_refl _⟩,⟨by (try simp only [hl0_18]); (with_reducible repeat (first | apply BR_alloc | apply BR_drewN | apply BR_drew)); exact HO_0.out⟩,⟨by repeat (first | (with_reducible first | exact HK.out | apply Kept.alloc | apply Kept.drewN | apply Kept.drew) | exact HK.out)⟩,⟨by repeat (first | (with_reducible first | exact HB.out | apply below_alloc | apply pw_below_drewN | apply below_drew1) | exact HB.out)⟩⟩
           case rest =>
            clear HC28; try clear c1
            try clear c2
            try clear p2
            try clear c3
            try clear c5
            try clear c5b0
            try clear c6
            try clear p6
            try clear c9
            try clear c9b0
            try clear c9b1
            try clear c14
            try clear c22
            try clear c22b0
            try clear c22b1
            try clear c26
            try clear c27
            try clear c29
            try clear c31
            try clear p2
            try clear p6
            obtain ⟨kq,x0_27,HA,HJ27,HO_0,HK,HB⟩ := hcut; have hl0_27 := (BR_reads' HO_0.out).1; rw [hl0_27] at HO_0
            (try simp only [hl0_27])
            cases kq with
            | zero => exact absurd HA.out (by simp [slices_pdqsortOrdered_byte.j4])
            | succ kj27 =>
             have H := HA.out; clear HA; simp only [slices_pdqsortOrdered_byte.j4] at H; have HC34 := Aside0.mk H; clear H
             go_upto_region 17 with (fail)
             repeat (go_quiet (fail); go_upto_region 17 with (fail))
             go_cut [87] (fun v87 wc => ∃ (kq : Nat) (x87_33 : Bool),v87 = .bool x87_33 ∧ Aside0 (slices_pdqsortOrdered_byte.j5 kq x0_27 x1_1 x2_1 x3_12 x8_1 x9_1 (wrap64 (x2_1 - x1_1)) x11_18 x87_33 = some r) ∧ Aside0 (kq ≤ kj27) ∧ Aside0 (BR wc w0.heap.size (fun k_ => (P0_ k_ ∨ w.heap.size ≤ k_)) (.slice Ao20 x0_27.length co20) x0_27) ∧ Aside0 (Kept w wc (fun k_ => P0_ k_)) ∧ Aside0 (Below w0.heap.size w0 wc))
             case first =>
              have H := HC34.out; clear HC34
              by_cases c35 : x1_1 > 0
              ·
               rw [if_pos c35] at H; have c35b0 : decide (0 < x1_1) = true := decide_eq_true c35; clear c35
               (first | rw [c35b0] | (simp only [i64_w,i32_w]; rw [c35b0]) | skip)
               obtain ⟨ji36,hji36⟩ : ∃ j_ : Int,(wrap64 (x1_1 - 1)) = j_ := ⟨_,rfl⟩; replace H : (if 0 ≤ (ji36) then (if (ji36) < (x0_27.length : Int) then (if 0 ≤ x11_18 then (if x11_18 < (x0_27.length : Int) then ((cmp_Less_byte.f (rd x0_27 (ji36)) (rd x0_27 x11_18)).bind fun t111 => (slices_pdqsortOrdered_byte.j5 kj27 x0_27 x1_1 x2_1 x3_12 x8_1 x9_1 (wrap64 (x2_1 - x1_1)) x11_18 (!t111))) else (none)) else (none)) else (none)) else (none)) = some r := by first | (rw [hji36] at H; exact H) | (simp only [hji36] at H ⊢; exact H)
               have hji36w : (IntKind.i64.wrap (x1_1 - 1)) = ji36 := (i64_w _).trans hji36
               by_cases c37 : 0 ≤ (ji36)
               ·
                rw [if_pos c37] at H; have c37b0 : decide (0 ≤ (ji36)) = true := decide_eq_true c37; clear c37
                by_cases c38 : (ji36) < (x0_27.length : Int)
                ·
                 rw [if_pos c38] at H; have c38b0 : decide ((ji36) < (x0_27.length : Int)) = true := decide_eq_true c38
                 (try (have c38b0_ := c38b0; rw [hl0_18] at c38b0_))
                 (try (have c38b0_ := c38b0; rw [hl0_27] at c38b0_))
                 clear c38
                 by_cases c39 : 0 ≤ x11_18
                 ·
                  rw [if_pos c39] at H; have c39b0 : decide (0 ≤ x11_18) = true := decide_eq_true c39; clear c39
                  by_cases c40 : x11_18 < (x0_27.length : Int)
                  ·
                   rw [if_pos c40] at H; have c40b0 : decide (x11_18 < (x0_27.length : Int)) = true := decide_eq_true c40
                   (try (have c40b0_ := c40b0; rw [hl0_18] at c40b0_))
                   (try (have c40b0_ := c40b0; rw [hl0_27] at c40b0_))
                   clear c40; replace H := Option.bind_eq_some_iff.mp H; obtain ⟨t111,A410,H⟩ := H; replace H : (slices_pdqsortOrdered_byte.j5 kj27 x0_27 x1_1 x2_1 x3_12 x8_1 x9_1 (wrap64 (x2_1 - x1_1)) x11_18 (!t111)) = some r := H; have A41 := Aside0.mk A410; clear A410; have H' := Aside0.mk H; clear H; have p109 : 0 ≤ ((ji36) : Int) := of_decide_eq_true (by first | (with_reducible assumption) | assumption); have q109 : (ji36) < (x0_27.length : Int) := of_decide_eq_true (by first | (with_reducible assumption) | assumption); obtain ⟨ad109,e109,hx109_0⟩ := Kd.at_int (BR_reads' HO_0.out).2.2 (ji36) p109 q109
                   cases e109
                   replace p109 := eq_true p109; replace q109 := eq_true q109; have p110 : 0 ≤ (x11_18 : Int) := of_decide_eq_true (by first | (with_reducible assumption) | assumption); have q110 : x11_18 < (x0_27.length : Int) := of_decide_eq_true (by first | (with_reducible assumption) | assumption); obtain ⟨ad110,e110,hx110_0⟩ := Kd.at_int (BR_reads' HO_0.out).2.2 x11_18 p110 q110; obtain rfl : ad109 = ad110 := (by injection e110); replace p110 := eq_true p110; replace q110 := eq_true q110; go_wp2_with (first | (go_at_call 82; (with_reducible refine (cmp_Less_byte.calls (rd x0_27 (ji36)) (rd x0_27 x11_18) t111 _ A41.out).mono ?_); rintro e w' ⟨rfl,⟨nd,rfl⟩⟩; (try first | exact ⟨rfl,_,World.drewN_drewN _ _ _⟩ | exact ⟨rfl,_,Eq.trans (World.drewN_drewN _ _ _) (congrArg (World.drewN _) (Nat.add_assoc _ _ _))⟩)))
                   repeat (go_quiet (first | (go_at_call 82; (with_reducible refine (cmp_Less_byte.calls (rd x0_27 (ji36)) (rd x0_27 x11_18) t111 _ A41.out).mono ?_); rintro e w' ⟨rfl,⟨nd,rfl⟩⟩; (try first | exact ⟨rfl,_,World.drewN_drewN _ _ _⟩ | exact ⟨rfl,_,Eq.trans (World.drewN_drewN _ _ _) (congrArg (World.drewN _) (Nat.add_assoc _ _ _))⟩))); try go_wp2_with (first | (go_at_call 82; (with_reducible refine (cmp_Less_byte.calls (rd x0_27 (ji36)) (rd x0_27 x11_18) t111 _ A41.out).mono ?_); rintro e w' ⟨rfl,⟨nd,rfl⟩⟩; (try first | exact ⟨rfl,_,World.drewN_drewN _ _ _⟩ | exact ⟨rfl,_,Eq.trans (World.drewN_drewN _ _ _) (congrArg (World.drewN _) (Nat.add_assoc _ _ _))⟩))))
                   go_meet
                   case rel => exact ⟨_,(!t111),(by first | rfl | (simp; done) | (simp [*]; done)),H',⟨by have := HK1.out; have := HJ12.out; have := HJ18.out; have := HJ24.out; have := HJ27.out; first | omega | exact Nat.le_refl _⟩,⟨by (try simp only [hl0_18]); (try simp only [hl0_27]); (with_reducible repeat (first | apply BR_alloc | apply BR_drewN | apply BR_drew)); exact HO_0.out⟩,⟨by repeat (first | (with_reducible first | exact HK.out | apply Kept.alloc | apply Kept.drewN | apply Kept.drew) | exact HK.out)⟩,⟨by repeat (first | (with_reducible first | exact HB.out | apply below_alloc | apply pw_below_drewN | apply below_drew1) | exact HB.out)⟩⟩
                  · rw [if_neg c40] at H; exact absurd H (by simp)
                 · rw [if_neg c39] at H; exact absurd H (by simp)
                · rw [if_neg c38] at H; exact absurd H (by simp)
               · rw [if_neg c37] at H; exact absurd H (by simp)
              ·
               rw [if_neg c35] at H; have c35b0 : decide (0 < x1_1) = false := decide_eq_false c35; clear c35
               (first | rw [c35b0] | (simp only [i64_w,i32_w]; rw [c35b0]) | skip)
               have H' := Aside0.mk H; clear H; go_wp2
               repeat (go_quiet (fail); try go_wp2)
               go_meet
               case rel => exact ⟨_,(false),(by first | rfl | (simp; done) | (simp [*]; done)),H',⟨by have := HK1.out; have := HJ12.out; have := HJ18.out; have := HJ24.out; have := HJ27.out; first | omega | exact Nat.le_refl _⟩,⟨by (try simp only [hl0_18]); (try simp only [hl0_27]); (with_reducible repeat (first | apply BR_alloc | apply BR_drewN | apply BR_drew)); exact HO_0.out⟩,⟨by repeat (first | (with_reducible first | exact HK.out | apply Kept.alloc | apply Kept.drewN | apply Kept.drew) | exact HK.out)⟩,⟨by repeat (first | (with_reducible first | exact HB.out | apply below_alloc | apply pw_below_drewN | apply below_drew1) | exact HB.out)⟩⟩
             case rest =>
              clear HC34; try clear c1
              try clear p1
              try clear q1
              try clear hx1
              try clear c2
              try clear p2
              try clear c3
              try clear c4
              try clear c5
              try clear c5b0
              try clear c6
              try clear p6
              try clear c9
              try clear c9b0
              try clear c9b1
              try clear p10
              try clear q10
              try clear hx10
              try clear p11
              try clear q11
              try clear hx11
              try clear c14
              try clear c22
              try clear c22b0
              try clear c22b1
              try clear c26
              try clear c27
              try clear c29
              try clear c31
              try clear c35
              try clear c35b0
              try clear c37
              try clear c37b0
              try clear c38
              try clear c38b0
              try clear c39
              try clear c39b0
              try clear c40
              try clear c40b0
              try clear hx109_0
              try clear hx110_0
              try clear p109
              try clear p110
              try clear p2
              try clear p6
              try clear q109
              try clear q110
              obtain ⟨kq,x87_33,rfl,HA,HJ33,HO_0,HK,HB⟩ := hcut
              cases kq with
              | zero => exact absurd HA.out (by simp [slices_pdqsortOrdered_byte.j5])
              | succ kj33 =>
               have H := HA.out; clear HA; simp only [slices_pdqsortOrdered_byte.j5] at H
               by_cases c42 : x87_33 = true
               ·
                subst c42; have H1 : ((slices_partitionEqualOrdered_byte.f kj33 x0_27 x1_1 x2_1 x11_18).bind fun bt112 => (slices_pdqsortOrdered_byte.l0 kj33 bt112.2 bt112.1 x2_1 x3_12 x8_1 x9_1)) = some r := by rw [if_pos rfl] at H; exact H
                clear H; have H := H1; clear H1; replace H := Option.bind_eq_some_iff.mp H; obtain ⟨⟨t112,t113⟩,A430,H⟩ := H; replace H : (slices_pdqsortOrdered_byte.l0 kj33 t113 t112 x2_1 x3_12 x8_1 x9_1) = some r := H; have A43 := Aside0.mk A430; clear A430; have H' := Aside0.mk H; clear H; go_wp2_with (first | (go_at_call 83; (with_reducible refine (slices_partitionEqualOrdered_byte.calls kj33 (fun k_ => some k_ = (.slice Ao20 x0_27.length co20 : Value).ownBlock) (.slice Ao20 x0_27.length co20) x0_27 x1_1 x2_1 x11_18 t112 t113 w0 _ ?side1 ?side2 A43.out).mono ?_); (case side1 => repeat (first | (with_reducible first | exact HB.out | apply below_alloc | apply pw_below_drewN | apply below_drew1) | exact HB.out)); (case side2 => exact BR_tight rfl HO_0.out); rintro e w44 ⟨rfl,hy0,hb,hkp⟩; have n0_ := Aside0.mk (BR_reok rfl hy0 (fun k_ e_ => HO_0.out.1 k_ e_)); have n1_ := Aside0.mk (Kept.then_ (S := (fun k_ => P0_ k_)) (by repeat (first | (with_reducible first | exact HK.out | apply Kept.alloc | apply Kept.drewN | apply Kept.drew) | exact HK.out)) hkp (fun k_ hs_ => (fun e_ => (HO_0.out.1 k_ e_.symm)) hs_)); have n2_ := Aside0.mk (hb); clear HO_0; clear HK; clear HB; have HO_0 := n0_; have HK := n1_; have HB := n2_; clear n0_ n1_ n2_; (try clear hb); (try clear hkp); (try clear hy0)))
                repeat (go_quiet (first | (go_at_call 83; (with_reducible refine (slices_partitionEqualOrdered_byte.calls kj33 (fun k_ => some k_ = (.slice Ao20 x0_27.length co20 : Value).ownBlock) (.slice Ao20 x0_27.length co20) x0_27 x1_1 x2_1 x11_18 t112 t113 w0 _ ?side1 ?side2 A43.out).mono ?_); (case side1 => repeat (first | (with_reducible first | exact HB.out | apply below_alloc | apply pw_below_drewN | apply below_drew1) | exact HB.out)); (case side2 => exact BR_tight rfl HO_0.out); rintro e w44 ⟨rfl,hy0,hb,hkp⟩; have n0_ := Aside0.mk (BR_reok rfl hy0 (fun k_ e_ => HO_0.out.1 k_ e_)); have n1_ := Aside0.mk (Kept.then_ (S := (fun k_ => P0_ k_)) (by repeat (first | (with_reducible first | exact HK.out | apply Kept.alloc | apply Kept.drewN | apply Kept.drew) | exact HK.out)) hkp (fun k_ hs_ => (fun e_ => (HO_0.out.1 k_ e_.symm)) hs_)); have n2_ := Aside0.mk (hb); clear HO_0; clear HK; clear HB; have HO_0 := n0_; have HK := n1_; have HB := n2_; clear n0_ n1_ n2_; (try clear hb); (try clear hkp); (try clear hy0))); try go_wp2_with (first | (go_at_call 83; (with_reducible refine (slices_partitionEqualOrdered_byte.calls kj33 (fun k_ => some k_ = (.slice Ao20 x0_27.length co20 : Value).ownBlock) (.slice Ao20 x0_27.length co20) x0_27 x1_1 x2_1 x11_18 t112 t113 w0 _ ?side1 ?side2 A43.out).mono ?_); (case side1 => repeat (first | (with_reducible first | exact HB.out | apply below_alloc | apply pw_below_drewN | apply below_drew1) | exact HB.out)); (case side2 => exact BR_tight rfl HO_0.out); rintro e w44 ⟨rfl,hy0,hb,hkp⟩; have n0_ := Aside0.mk (BR_reok rfl hy0 (fun k_ e_ => HO_0.out.1 k_ e_)); have n1_ := Aside0.mk (Kept.then_ (S := (fun k_ => P0_ k_)) (by repeat (first | (with_reducible first | exact HK.out | apply Kept.alloc | apply Kept.drewN | apply Kept.drew) | exact HK.out)) hkp (fun k_ hs_ => (fun e_ => (HO_0.out.1 k_ e_.symm)) hs_)); have n2_ := Aside0.mk (hb); clear HO_0; clear HK; clear HB; have HO_0 := n0_; have HK := n1_; have HB := n2_; clear n0_ n1_ n2_; (try clear hb); (try clear hkp); (try clear hy0))))
                (try simp only [← hl0_18,← hl0_27])
                go_roundg kj33
                case measure => have := HK1.out; have := HJ12.out; have := HJ18.out; have := HJ24.out; have := HJ27.out; have := HJ33.out; omega
                case rel => exact ⟨(t113),(t112),(x2_1),(x3_12),(x8_1),(x9_1),(by first | rfl | (simp; done) | (simp [*]; done)),(by first | rfl | (simp; done) | (simp [*]; done)),(by first | rfl | (simp; done) | (simp [*]; done)),(by first | rfl | (simp; done) | (simp [*]; done)),(by first | rfl | (simp; done) | (simp [*]; done)),H',⟨by have := HK1.out; have := HJ12.out; have := HJ18.out; have := HJ24.out; have := HJ27.out; have := HJ33.out; omega⟩,⟨by (try simp only [hl0_18]); (try simp only [hl0_27]); (with_reducible repeat (first | apply BR_alloc | apply BR_drewN | apply BR_drew)); exact HO_0.out⟩,⟨by repeat (first | (with_reducible first | exact HK.out | apply Kept.alloc | apply Kept.drewN | apply Kept.drew) | exact HK.out)⟩,⟨by repeat (first | (with_reducible first | exact HB.out | apply below_alloc | apply pw_below_drewN | apply below_drew1) | exact HB.out)⟩⟩
               ·
                replace c42 := Bool.eq_false_iff.mpr c42; subst c42; have H1 : ((slices_partitionOrdered_byte.f kj33 x0_27 x1_1 x2_1 x11_18).bind fun bt114 => (if (wrap64 (bt114.1 - x1_1)) < (wrap64 (x2_1 - bt114.1)) then ((slices_pdqsortOrdered_byte.f kj33 bt114.2.2 x1_1 bt114.1 x3_12).bind fun t117 => (slices_pdqsortOrdered_byte.l0 kj33 t117 (wrap64 (bt114.1 + 1)) x2_1 x3_12 (decide ((wrap64 (bt114.1 - x1_1)) ≥ (wrap64 (Int.tdiv (wrap64 (x2_1 - x1_1)) 8)))) bt114.2.1)) else ((slices_pdqsortOrdered_byte.f kj33 bt114.2.2 (wrap64 (bt114.1 + 1)) x2_1 x3_12).bind fun t118 => (slices_pdqsortOrdered_byte.l0 kj33 t118 x1_1 bt114.1 x3_12 (decide ((wrap64 (x2_1 - bt114.1)) ≥ (wrap64 (Int.tdiv (wrap64 (x2_1 - x1_1)) 8)))) bt114.2.1)))) = some r := by rw [if_neg (show ¬ (false = true) by decide)] at H; exact H
                clear H; have H := H1; clear H1; replace H := Option.bind_eq_some_iff.mp H; obtain ⟨⟨t114,t115,t116⟩,A450,H⟩ := H; replace H : (if (wrap64 (t114 - x1_1)) < (wrap64 (x2_1 - t114)) then ((slices_pdqsortOrdered_byte.f kj33 t116 x1_1 t114 x3_12).bind fun t117 => (slices_pdqsortOrdered_byte.l0 kj33 t117 (wrap64 (t114 + 1)) x2_1 x3_12 (decide ((wrap64 (t114 - x1_1)) ≥ (wrap64 (Int.tdiv (wrap64 (x2_1 - x1_1)) 8)))) t115)) else ((slices_pdqsortOrdered_byte.f kj33 t116 (wrap64 (t114 + 1)) x2_1 x3_12).bind fun t118 => (slices_pdqsortOrdered_byte.l0 kj33 t118 x1_1 t114 x3_12 (decide ((wrap64 (x2_1 - t114)) ≥ (wrap64 (Int.tdiv (wrap64 (x2_1 - x1_1)) 8)))) t115))) = some r := H; have A45 := Aside0.mk A450; clear A450
                by_cases c46 : (wrap64 (t114 - x1_1)) < (wrap64 (x2_1 - t114))
                ·
                 rw [if_pos c46] at H; have c46b0 : decide ((wrap64 (t114 - x1_1)) < (wrap64 (x2_1 - t114))) = true := decide_eq_true c46; clear c46; replace H := Option.bind_eq_some_iff.mp H; obtain ⟨t117,A470,H⟩ := H; replace H : (slices_pdqsortOrdered_byte.l0 kj33 t117 (wrap64 (t114 + 1)) x2_1 x3_12 (decide ((wrap64 (t114 - x1_1)) ≥ (wrap64 (Int.tdiv (wrap64 (x2_1 - x1_1)) 8)))) t115) = some r := H; have A47 := Aside0.mk A470; clear A470; have H' := Aside0.mk H; clear H; go_wp2_with (first | (go_at_call 84; (with_reducible refine (slices_partitionOrdered_byte.calls kj33 (fun k_ => some k_ = (.slice Ao20 x0_27.length co20 : Value).ownBlock) (.slice Ao20 x0_27.length co20) x0_27 x1_1 x2_1 x11_18 t114 t115 t116 w0 _ ?side1 ?side2 A45.out).mono ?_); (case side1 => repeat (first | (with_reducible first | exact HB.out | apply below_alloc | apply pw_below_drewN | apply below_drew1) | exact HB.out)); (case side2 => exact BR_tight rfl HO_0.out); rintro e w48 ⟨rfl,hy0,hb,hkp⟩; have n0_ := Aside0.mk (BR_reok rfl hy0 (fun k_ e_ => HO_0.out.1 k_ e_)); have n1_ := Aside0.mk (Kept.then_ (S := (fun k_ => P0_ k_)) (by repeat (first | (with_reducible first | exact HK.out | apply Kept.alloc | apply Kept.drewN | apply Kept.drew) | exact HK.out)) hkp (fun k_ hs_ => (fun e_ => (HO_0.out.1 k_ e_.symm)) hs_)); have n2_ := Aside0.mk (hb); clear HO_0; clear HK; clear HB; have HO_0 := n0_; have HK := n1_; have HB := n2_; clear n0_ n1_ n2_; (try clear hb); (try clear hkp); (try clear hy0)) | (go_at_call 61; (with_reducible refine (ih kj33 (by have := HK1.out; have := HJ12.out; have := HJ18.out; have := HJ24.out; have := HJ27.out; have := HJ33.out; omega) (fun k_ => some k_ = (.slice Ao20 x0_27.length co20 : Value).ownBlock) (.slice Ao20 x0_27.length co20) t116 x1_1 t114 x3_12 t117 w0 _ ?side1 ?side2 A47.out).mono ?_); (case side1 => repeat (first | (with_reducible first | exact HB.out | apply below_alloc | apply pw_below_drewN | apply below_drew1) | exact HB.out)); (case side2 => exact BR_tight rfl HO_0.out); rintro e w49 ⟨rfl,hy0,hb,hkp⟩; have n0_ := Aside0.mk (BR_reok rfl hy0 (fun k_ e_ => HO_0.out.1 k_ e_)); have n1_ := Aside0.mk (Kept.then_ (S := (fun k_ => P0_ k_)) (by repeat (first | (with_reducible first | exact HK.out | apply Kept.alloc | apply Kept.drewN | apply Kept.drew) | exact HK.out)) hkp (fun k_ hs_ => (fun e_ => (HO_0.out.1 k_ e_.symm)) hs_)); have n2_ := Aside0.mk (hb); clear HO_0; clear HK; clear HB; have HO_0 := n0_; have HK := n1_; have HB := n2_; clear n0_ n1_ n2_; (try clear hb); (try clear hkp); (try clear hy0)))
                 repeat (go_quiet (first | (go_at_call 84; (with_reducible refine (slices_partitionOrdered_byte.calls kj33 (fun k_ => some k_ = (.slice Ao20 x0_27.length co20 : Value).ownBlock) (.slice Ao20 x0_27.length co20) x0_27 x1_1 x2_1 x11_18 t114 t115 t116 w0 _ ?side1 ?side2 A45.out).mono ?_); (case side1 => repeat (first | (with_reducible first | exact HB.out | apply below_alloc | apply pw_below_drewN | apply below_drew1) | exact HB.out)); (case side2 => exact BR_tight rfl HO_0.out); rintro e w48 ⟨rfl,hy0,hb,hkp⟩; have n0_ := Aside0.mk (BR_reok rfl hy0 (fun k_ e_ => HO_0.out.1 k_ e_)); have n1_ := Aside0.mk (Kept.then_ (S := (fun k_ => P0_ k_)) (by repeat (first | (with_reducible first | exact HK.out | apply Kept.alloc | apply Kept.drewN | apply Kept.drew) | exact HK.out)) hkp (fun k_ hs_ => (fun e_ => (HO_0.out.1 k_ e_.symm)) hs_)); have n2_ := Aside0.mk (hb); clear HO_0; clear HK; clear HB; have HO_0 := n0_; have HK := n1_; have HB := n2_; clear n0_ n1_ n2_; (try clear hb); (try clear hkp); (try clear hy0)) | (go_at_call 61; (with_reducible refine (ih kj33 (by have := HK1.out; have := HJ12.out; have := HJ18.out; have := HJ24.out; have := HJ27.out; have := HJ33.out; omega) (fun k_ => some k_ = (.slice Ao20 x0_27.length co20 : Value).ownBlock) (.slice Ao20 x0_27.length co20) t116 x1_1 t114 x3_12 t117 w0 _ ?side1 ?side2 A47.out).mono ?_); (case side1 => repeat (first | (with_reducible first | exact HB.out | apply below_alloc | apply pw_below_drewN | apply below_drew1) | exact HB.out)); (case side2 => exact BR_tight rfl HO_0.out); rintro e w49 ⟨rfl,hy0,hb,hkp⟩; have n0_ := Aside0.mk (BR_reok rfl hy0 (fun k_ e_ => HO_0.out.1 k_ e_)); have n1_ := Aside0.mk (Kept.then_ (S := (fun k_ => P0_ k_)) (by repeat (first | (with_reducible first | exact HK.out | apply Kept.alloc | apply Kept.drewN | apply Kept.drew) | exact HK.out)) hkp (fun k_ hs_ => (fun e_ => (HO_0.out.1 k_ e_.symm)) hs_)); have n2_ := Aside0.mk (hb); clear HO_0; clear HK; clear HB; have HO_0 := n0_; have HK := n1_; have HB := n2_; clear n0_ n1_ n2_; (try clear hb); (try clear hkp); (try clear hy0))); try go_wp2_with (first | (go_at_call 84; (with_reducible refine (slices_partitionOrdered_byte.calls kj33 (fun k_ => some k_ = (.slice Ao20 x0_27.length co20 : Value).ownBlock) (.slice Ao20 x0_27.length co20) x0_27 x1_1 x2_1 x11_18 t114 t115 t116 w0 _ ?side1 ?side2 A45.out).mono ?_); (case side1 => repeat (first | (with_reducible first | exact HB.out | apply below_alloc | apply pw_below_drewN | apply below_drew1) | exact HB.out)); (case side2 => exact BR_tight rfl HO_0.out); rintro e w48 ⟨rfl,hy0,hb,hkp⟩; have n0_ := Aside0.mk (BR_reok rfl hy0 (fun k_ e_ => HO_0.out.1 k_ e_)); have n1_ := Aside0.mk (Kept.then_ (S := (fun k_ => P0_ k_)) (by repeat (first | (with_reducible first | exact HK.out | apply Kept.alloc | apply Kept.drewN | apply Kept.drew) | exact HK.out)) hkp (fun k_ hs_ => (fun e_ => (HO_0.out.1 k_ e_.symm)) hs_)); have n2_ := Aside0.mk (hb); clear HO_0; clear HK; clear HB; have HO_0 := n0_; have HK := n1_; have HB := n2_; clear n0_ n1_ n2_; (try clear hb); (try clear hkp); (try clear hy0)) | (go_at_call 61; (with_reducible refine (ih kj33 (by have := HK1.out; have := HJ12.out; have := HJ18.out; have := HJ24.out; have := HJ27.out; have := HJ33.out; omega) (fun k_ => some k_ = (.slice Ao20 x0_27.length co20 : Value).ownBlock) (.slice Ao20 x0_27.length co20) t116 x1_1 t114 x3_12 t117 w0 _ ?side1 ?side2 A47.out).mono ?_); (case side1 => repeat (first | (with_reducible first | exact HB.out | apply below_alloc | apply pw_below_drewN | apply below_drew1) | exact HB.out)); (case side2 => exact BR_tight rfl HO_0.out); rintro e w49 ⟨rfl,hy0,hb,hkp⟩; have n0_ := Aside0.mk (BR_reok rfl hy0 (fun k_ e_ => HO_0.out.1 k_ e_)); have n1_ := Aside0.mk (Kept.then_ (S := (fun k_ => P0_ k_)) (by repeat (first | (with_reducible first | exact HK.out | apply Kept.alloc | apply Kept.drewN | apply Kept.drew) | exact HK.out)) hkp (fun k_ hs_ => (fun e_ => (HO_0.out.1 k_ e_.symm)) hs_)); have n2_ := Aside0.mk (hb); clear HO_0; clear HK; clear HB; have HO_0 := n0_; have HK := n1_; have HB := n2_; clear n0_ n1_ n2_; (try clear hb); (try clear hkp); (try clear hy0))))
                 (try simp only [← hl0_18,← hl0_27])
                 go_roundg kj33
                 case measure => have := HK1.out; have := HJ12.out; have := HJ18.out; have := HJ24.out; have := HJ27.out; have := HJ33.out; omega
                 case rel => exact ⟨(t117),(wrap64 (t114 + 1)),(x2_1),(x3_12),(decide ((wrap64 (t114 - x1_1)) ≥ (wrap64 (Int.tdiv (wrap64 (x2_1 - x1_1)) 8)))),(t115),(by first | rfl | (simp; done) | (simp [*]; done)),(by first | rfl | (simp; done) | (simp [*]; done)),(by first | rfl | (simp; done) | (simp [*]; done)),(by first | rfl | (simp; done) | (simp [*]; done)),(by first | rfl | (simp; done) | (simp [*]; done)),H',⟨by have := HK1.out; have := HJ12.out; have := HJ18.out; have := HJ24.out; have := HJ27.out; have := HJ33.out; omega⟩,⟨by (try simp only [hl0_18]); (try simp only [hl0_27]); (with_reducible repeat (first | apply BR_alloc | apply BR_drewN | apply BR_drew)); exact HO_0.out⟩,⟨by repeat (first | (with_reducible first | exact HK.out | apply Kept.alloc | apply Kept.drewN | apply Kept.drew) | exact HK.out)⟩,⟨by repeat (first | (with_reducible first | exact HB.out | apply below_alloc | apply pw_below_drewN | apply below_drew1) | exact HB.out)⟩⟩
                ·
                 rw [if_neg c46] at H; have c46b0 : decide ((wrap64 (t114 - x1_1)) < (wrap64 (x2_1 - t114))) = false := decide_eq_false c46; clear c46; replace H := Option.bind_eq_some_iff.mp H; obtain ⟨t118,A500,H⟩ := H; replace H : (slices_pdqsortOrdered_byte.l0 kj33 t118 x1_1 t114 x3_12 (decide ((wrap64 (x2_1 - t114)) ≥ (wrap64 (Int.tdiv (wrap64 (x2_1 - x1_1)) 8)))) t115) = some r := H; have A50 := Aside0.mk A500; clear A500; have H' := Aside0.mk H; clear H; go_wp2_with (first | (go_at_call 84; (with_reducible refine (slices_partitionOrdered_byte.calls kj33 (fun k_ => some k_ = (.slice Ao20 x0_27.length co20 : Value).ownBlock) (.slice Ao20 x0_27.length co20) x0_27 x1_1 x2_1 x11_18 t114 t115 t116 w0 _ ?side1 ?side2 A45.out).mono ?_); (case side1 => repeat (first | (with_reducible first | exact HB.out | apply below_alloc | apply pw_below_drewN | apply below_drew1) | exact HB.out)); (case side2 => exact BR_tight rfl HO_0.out); rintro e w51 ⟨rfl,hy0,hb,hkp⟩; have n0_ := Aside0.mk (BR_reok rfl hy0 (fun k_ e_ => HO_0.out.1 k_ e_)); have n1_ := Aside0.mk (Kept.then_ (S := (fun k_ => P0_ k_)) (by repeat (first | (with_reducible first | exact HK.out | apply Kept.alloc | apply Kept.drewN | apply Kept.drew) | exact HK.out)) hkp (fun k_ hs_ => (fun e_ => (HO_0.out.1 k_ e_.symm)) hs_)); have n2_ := Aside0.mk (hb); clear HO_0; clear HK; clear HB; have HO_0 := n0_; have HK := n1_; have HB := n2_; clear n0_ n1_ n2_; (try clear hb); (try clear hkp); (try clear hy0)) | (go_at_call 61; (with_reducible refine (ih kj33 (by have := HK1.out; have := HJ12.out; have := HJ18.out; have := HJ24.out; have := HJ27.out; have := HJ33.out; omega) (fun k_ => some k_ = (.slice Ao20 x0_27.length co20 : Value).ownBlock) (.slice Ao20 x0_27.length co20) t116 (wrap64 (t114 + 1)) x2_1 x3_12 t118 w0 _ ?side1 ?side2 A50.out).mono ?_); (case side1 => repeat (first | (with_reducible first | exact HB.out | apply below_alloc | apply pw_below_drewN | apply below_drew1) | exact HB.out)); (case side2 => exact BR_tight rfl HO_0.out); rintro e w52 ⟨rfl,hy0,hb,hkp⟩; have n0_ := Aside0.mk (BR_reok rfl hy0 (fun k_ e_ => HO_0.out.1 k_ e_)); have n1_ := Aside0.mk (Kept.then_ (S := (fun k_ => P0_ k_)) (by repeat (first | (with_reducible first | exact HK.out | apply Kept.alloc | apply Kept.drewN | apply Kept.drew) | exact HK.out)) hkp (fun k_ hs_ => (fun e_ => (HO_0.out.1 k_ e_.symm)) hs_)); have n2_ := Aside0.mk (hb); clear HO_0; clear HK; clear HB; have HO_0 := n0_; have HK := n1_; have HB := n2_; clear n0_ n1_ n2_; (try clear hb); (try clear hkp); (try clear hy0)))
                 repeat (go_quiet (first | (go_at_call 84; (with_reducible refine (slices_partitionOrdered_byte.calls kj33 (fun k_ => some k_ = (.slice Ao20 x0_27.length co20 : Value).ownBlock) (.slice Ao20 x0_27.length co20) x0_27 x1_1 x2_1 x11_18 t114 t115 t116 w0 _ ?side1 ?side2 A45.out).mono ?_); (case side1 => repeat (first | (with_reducible first | exact HB.out | apply below_alloc | apply pw_below_drewN | apply below_drew1) | exact HB.out)); (case side2 => exact BR_tight rfl HO_0.out); rintro e w51 ⟨rfl,hy0,hb,hkp⟩; have n0_ := Aside0.mk (BR_reok rfl hy0 (fun k_ e_ => HO_0.out.1 k_ e_)); have n1_ := Aside0.mk (Kept.then_ (S := (fun k_ => P0_ k_)) (by repeat (first | (with_reducible first | exact HK.out | apply Kept.alloc | apply Kept.drewN | apply Kept.drew) | exact HK.out)) hkp (fun k_ hs_ => (fun e_ => (HO_0.out.1 k_ e_.symm)) hs_)); have n2_ := Aside0.mk (hb); clear HO_0; clear HK; clear HB; have HO_0 := n0_; have HK := n1_; have HB := n2_; clear n0_ n1_ n2_; (try clear hb); (try clear hkp); (try clear hy0)) | (go_at_call 61; (with_reducible refine (ih kj33 (by have := HK1.out; have := HJ12.out; have := HJ18.out; have := HJ24.out; have := HJ27.out; have := HJ33.out; omega) (fun k_ => some k_ = (.slice Ao20 x0_27.length co20 : Value).ownBlock) (.slice Ao20 x0_27.length co20) t116 (wrap64 (t114 + 1)) x2_1 x3_12 t118 w0 _ ?side1 ?side2 A50.out).mono ?_); (case side1 => repeat (first | (with_reducible first | exact HB.out | apply below_alloc | apply pw_below_drewN | apply below_drew1) | exact HB.out)); (case side2 => exact BR_tight rfl HO_0.out); rintro e w52 ⟨rfl,hy0,hb,hkp⟩; have n0_ := Aside0.mk (BR_reok rfl hy0 (fun k_ e_ => HO_0.out.1 k_ e_)); have n1_ := Aside0.mk (Kept.then_ (S := (fun k_ => P0_ k_)) (by repeat (first | (with_reducible first | exact HK.out | apply Kept.alloc | apply Kept.drewN | apply Kept.drew) | exact HK.out)) hkp (fun k_ hs_ => (fun e_ => (HO_0.out.1 k_ e_.symm)) hs_)); have n2_ := Aside0.mk (hb); clear HO_0; clear HK; clear HB; have HO_0 := n0_; have HK := n1_; have HB := n2_; clear n0_ n1_ n2_; (try clear hb); (try clear hkp); (try clear hy0))); try go_wp2_with (first | (go_at_call 84; (with_reducible refine (slices_partitionOrdered_byte.calls kj33 (fun k_ => some k_ = (.slice Ao20 x0_27.length co20 : Value).ownBlock) (.slice Ao20 x0_27.length co20) x0_27 x1_1 x2_1 x11_18 t114 t115 t116 w0 _ ?side1 ?side2 A45.out).mono ?_); (case side1 => repeat (first | (with_reducible first | exact HB.out | apply below_alloc | apply pw_below_drewN | apply below_drew1) | exact HB.out)); (case side2 => exact BR_tight rfl HO_0.out); rintro e w51 ⟨rfl,hy0,hb,hkp⟩; have n0_ := Aside0.mk (BR_reok rfl hy0 (fun k_ e_ => HO_0.out.1 k_ e_)); have n1_ := Aside0.mk (Kept.then_ (S := (fun k_ => P0_ k_)) (by repeat (first | (with_reducible first | exact HK.out | apply Kept.alloc | apply Kept.drewN | apply Kept.drew) | exact HK.out)) hkp (fun k_ hs_ => (fun e_ => (HO_0.out.1 k_ e_.symm)) hs_)); have n2_ := Aside0.mk (hb); clear HO_0; clear HK; clear HB; have HO_0 := n0_; have HK := n1_; have HB := n2_; clear n0_ n1_ n2_; (try clear hb); (try clear hkp); (try clear hy0)) | (go_at_call 61; (with_reducible refine (ih kj33 (by have := HK1.out; have := HJ12.out; have := HJ18.out; have := HJ24.out; have := HJ27.out; have := HJ33.out; omega) (fun k_ => some k_ = (.slice Ao20 x0_27.length co20 : Value).ownBlock) (.slice Ao20 x0_27.length co20) t116 (wrap64 (t114 + 1)) x2_1 x3_12 t118 w0 _ ?side1 ?side2 A50.out).mono ?_); (case side1 => repeat (first | (with_reducible first | exact HB.out | apply below_alloc | apply pw_below_drewN | apply below_drew1) | exact HB.out)); (case side2 => exact BR_tight rfl HO_0.out); rintro e w52 ⟨rfl,hy0,hb,hkp⟩; have n0_ := Aside0.mk (BR_reok rfl hy0 (fun k_ e_ => HO_0.out.1 k_ e_)); have n1_ := Aside0.mk (Kept.then_ (S := (fun k_ => P0_ k_)) (by repeat (first | (with_reducible first | exact HK.out | apply Kept.alloc | apply Kept.drewN | apply Kept.drew) | exact HK.out)) hkp (fun k_ hs_ => (fun e_ => (HO_0.out.1 k_ e_.symm)) hs_)); have n2_ := Aside0.mk (hb); clear HO_0; clear HK; clear HB; have HO_0 := n0_; have HK := n1_; have HB := n2_; clear n0_ n1_ n2_; (try clear hb); (try clear hkp); (try clear hy0))))
                 (try simp only [← hl0_18,← hl0_27])
                 go_roundg kj33
                 case measure => have := HK1.out; have := HJ12.out; have := HJ18.out; have := HJ24.out; have := HJ27.out; have := HJ33.out; omega
                 case rel => exact ⟨(t118),(x1_1),(t114),(x3_12),(decide ((wrap64 (x2_1 - t114)) ≥ (wrap64 (Int.tdiv (wrap64 (x2_1 - x1_1)) 8)))),(t115),(by first | rfl | (simp; done) | (simp [*]; done)),(by first | rfl | (simp; done) | (simp [*]; done)),(by first | rfl | (simp; done) | (simp [*]; done)),(by first | rfl | (simp; done) | (simp [*]; done)),(by first | rfl | (simp; done) | (simp [*]; done)),H',⟨by have := HK1.out; have := HJ12.out; have := HJ18.out; have := HJ24.out; have := HJ27.out; have := HJ33.out; omega⟩,⟨by (try simp only [hl0_18]); (try simp only [hl0_27]); (with_reducible repeat (first | apply BR_alloc | apply BR_drewN | apply BR_drew)); exact HO_0.out⟩,⟨by repeat (first | (with_reducible first | exact HK.out | apply Kept.alloc | apply Kept.drewN | apply Kept.drew) | exact HK.out)⟩,⟨by repeat (first | (with_reducible first | exact HB.out | apply below_alloc | apply pw_below_drewN | apply below_drew1) | exact HB.out)⟩⟩

end Go.Proofs.YtcidlaabbkimdaaDoor.P

-- printed by xprint.py
namespace Go.Proofs.YtcidlaabbkimdaaDoor.P
open Go.RowKit Go.Proofs.YtcidlaabbkimdaaDoorW.PrintWords Go.Proofs.YtcidlaabbkimdaaDoorW.PrintLast Go.Proofs.YtcidlaabbkimdaaDoorW.PrintMore
attribute [local go_sem] max2_int min2_int max_two min_two max_three min_three max_four min_four   -- for this text's walks alone
set_option linter.unusedVariables false
set_option linter.unusedSimpArgs false

/-! ### slices_Sort_byte_byte: function 48 -/
def slices_Sort_byte_byte.f (k : Nat) (l0 : List Int) : Option (List Int) := (bits_Len.f (IntKind.u64.wrap ((l0.length : Int)))).bind fun t101 => ((slices_pdqsortOrdered_byte.f k l0 0 (l0.length : Int) t101).bind fun t102 => (some t102))
theorem slices_Sort_byte_byte.mono : ∀ y0 k,LeO (slices_Sort_byte_byte.f k y0) (slices_Sort_byte_byte.f (k + 1) y0) := by
 intro y0 k
 unfold slices_Sort_byte_byte.f
 repeat' first
   | (with_reducible exact slices_pdqsortOrdered_byte.mono _ _ _ _ _)
   | (with_reducible exact LeO.refl _)
   | (with_reducible exact LeO.none _)
   | (with_reducible refine LeO.ite ?_ ?_)
   | (with_reducible refine LeO.bind ?_ (fun _ => ?_))
   | exact slices_pdqsortOrdered_byte.mono _ _ _ _ _
   | exact LeO.none _
   | refine LeO.ite ?_ ?_
   | refine LeO.bind ?_ (fun _ => ?_)
set_option maxHeartbeats 8000000 in
set_option maxRecDepth 100000 in
theorem slices_Sort_byte_byte.calls (k : Nat) (P0_ : Nat → Prop) (u9000_ : Value) (l0 : List Int) (r : List Int) (w0 w : World) (hB : Below w0.heap.size w0 w) (ho0 : BR w w0.heap.size P0_ u9000_ l0) (h : slices_Sort_byte_byte.f k l0 = some r) :
  Calls Tryd.prog 48 #[u9000_] w fun e w' => e = .returned (.tuple #[]) ∧ BR w' w0.heap.size (fun k_ => (P0_ k_ ∨ w.heap.size ≤ k_)) u9000_ r ∧ Below w0.heap.size w0 w' ∧ Kept w w' (fun k_ => P0_ k_) := by
 have HO0 := Aside0.mk (show BR w w0.heap.size (fun k_ => (P0_ k_ ∨ w.heap.size ≤ k_)) u9000_ l0 from BR_mono ho0 (fun k_ hk => (.inl hk))); have HK := Aside0.mk (Kept.refl w (fun k_ => P0_ k_)); have HW0 := Aside0.mk hB.size; have HB := Aside0.mk hB; clear hB; have H : ((bits_Len.f (IntKind.u64.wrap ((l0.length : Int)))).bind fun t101 => ((slices_pdqsortOrdered_byte.f k l0 0 (l0.length : Int) t101).bind fun t102 => (some t102))) = some r := h; clear h; replace H := Option.bind_eq_some_iff.mp H; obtain ⟨t101,A20,H⟩ := H; replace H : ((slices_pdqsortOrdered_byte.f k l0 0 (l0.length : Int) t101).bind fun t102 => (some t102)) = some r := H; have A2 := Aside0.mk A20; clear A20; replace H := Option.bind_eq_some_iff.mp H; obtain ⟨t102,A30,H⟩ := H; replace H : (some t102) = some r := H; have A3 := Aside0.mk A30; clear A30; obtain rfl := Option.some.inj H; obtain ⟨Ao4,co4,eo4⟩ := BR_slice HO0.out; subst eo4
 go_enter Tryd.func48,Tryd.ntmps48
 go_wp2_with (first | ((with_reducible refine gate_callee (f := 62) rfl ?_); refine goesL_ (some 9) rfl rfl Tryd.func62 (by kernel_rfl) rfl #[.int .u64 (IntKind.u64.wrap ((l0.length : Int)))] rfl (by (try simp only [List.map_toArray,List.map_cons,List.map_nil]); first | done | rfl | (simp only [List.length_drop,List.length_take]; rfl)) ?_; (with_reducible refine (bits_Len.calls (IntKind.u64.wrap ((l0.length : Int))) t101 _ A2.out).mono ?_); rintro e w' ⟨rfl,⟨nd,rfl⟩⟩; refine ⟨_,rfl,?_⟩) | ((with_reducible refine gate_callee (f := 61) rfl ?_); refine goesL_ (some 10) rfl rfl Tryd.func61 (by kernel_rfl) rfl #[.slice Ao4 l0.length co4,.int .i64 0,.int .i64 (l0.length : Int),.int .i64 t101] rfl (by (try simp only [List.map_toArray,List.map_cons,List.map_nil]); first | done | rfl | (simp only [List.length_drop,List.length_take]; rfl)) ?_; (with_reducible refine (slices_pdqsortOrdered_byte.calls k (fun k_ => some k_ = (.slice Ao4 l0.length co4 : Value).ownBlock) (.slice Ao4 l0.length co4) l0 0 (l0.length : Int) t101 t102 w0 _ ?side1 ?side2 A3.out).mono ?_); (case side1 => repeat (first | (with_reducible first | exact HB.out | apply below_alloc | apply pw_below_drewN | apply below_drew1) | exact HB.out)); (case side2 => exact BR_tight rfl HO0.out); rintro e w5 ⟨rfl,hy0,hb,hkp⟩; refine ⟨_,rfl,?_⟩; have n0_ := Aside0.mk (BR_reok rfl hy0 (fun k_ e_ => HO0.out.1 k_ e_)); have n1_ := Aside0.mk (Kept.then_ (S := (fun k_ => P0_ k_)) (by repeat (first | (with_reducible first | exact HK.out | apply Kept.alloc | apply Kept.drewN | apply Kept.drew) | exact HK.out)) hkp (fun k_ hs_ => (fun e_ => (HO0.out.1 k_ e_.symm)) hs_)); have n2_ := Aside0.mk (hb); clear HO0; clear HK; clear HB; have HO0 := n0_; have HK := n1_; have HB := n2_; clear n0_ n1_ n2_; (try clear hb); (try clear hkp); (try clear hy0)))
 first | go_end0 | ((try simp only [Exit.inBlock,Exit.then]); refine bodyPost_ret (results_none rfl _ _ _) rfl ?_)
 exact ⟨by first | rfl | (simp [errW_none,errW_some] <;> rfl) | (simp [*,errW_none,errW_some] <;> rfl),by (with_reducible repeat (first | apply BR_alloc | apply BR_drewN | apply BR_drew)); exact HO0.out,by repeat (first | (with_reducible first | exact HB.out | apply below_alloc | apply pw_below_drewN | apply below_drew1) | exact HB.out),by repeat (first | (with_reducible first | exact HK.out | apply Kept.alloc | apply Kept.drewN | apply Kept.drew) | exact HK.out)⟩

end Go.Proofs.YtcidlaabbkimdaaDoor.P

-- printed by xprint.py
namespace Go.Proofs.YtcidlaabbkimdaaDoor.P
open Go.RowKit Go.Proofs.YtcidlaabbkimdaaDoorW.PrintWords Go.Proofs.YtcidlaabbkimdaaDoorW.PrintLast Go.Proofs.YtcidlaabbkimdaaDoorW.PrintMore
attribute [local go_sem] max2_int min2_int max_two min_two max_three min_three max_four min_four   -- for this text's walks alone
set_option linter.unusedVariables false
set_option linter.unusedSimpArgs false

/-! ### impl_lettersOf: function 30 -/
/-! lettersOf: the bytes of a text,sorted,each once (texts of any length that the sort tells). -/
end Go.Proofs.YtcidlaabbkimdaaDoor.P
namespace Go.Proofs
open Go.Shelf
def YtcidlaabbkimdaaDoorlaysCompactB_ren : Go.Shelf.Ren := ⟨fun | 43 => 49 | n => n, fun | 22 => 48 | 23 => 5 | 3 => 3 | 4 => 4 | 0 => 0 | n => n, fun | n => n⟩
theorem YtcidlaabbkimdaaDoorlaysCompactB : Go.Proofs.SlLaysE.n43 Tryd.prog YtcidlaabbkimdaaDoorlaysCompactB_ren := {
  mixed := by kernel_rfl
  f43 := ⟨Tryd.f49.name, by decide, Tryd.func49.trans (congrArg some (by kernel_rfl))⟩
  t0 := Tryd.underlying0
  a0 := Tryd.isAgg0
  z0 := Tryd.sizeOf0
  v0 := Tryd.zeroValue0
  t3 := Tryd.underlying3
  a3 := Tryd.isAgg3
  z3 := Tryd.sizeOf3
  v3 := Tryd.zeroValue3
  t4 := Tryd.underlying4
  a4 := Tryd.isAgg4
  z4 := Tryd.sizeOf4
  v4 := Tryd.zeroValue4
  t22 := Tryd.underlying48
  a22 := Tryd.isAgg48
  z22 := Tryd.sizeOf48
  v22 := Tryd.zeroValue48
  a23 := Tryd.isAgg5
  z23 := Tryd.sizeOf5 }
end Go.Proofs
namespace Go.Proofs.YtcidlaabbkimdaaDoor.P
open Go.RowKit Go.Proofs.YtcidlaabbkimdaaDoorW.PrintWords Go.Proofs.YtcidlaabbkimdaaDoorW.PrintLast Go.Proofs.YtcidlaabbkimdaaDoorW.PrintMore
/-- The letters of a text: its bytes in order,each once. -/
def impl_lettersOf.f (k : Nat) (a0 : ByteArray) : Option ByteArray := (slices_Sort_byte_byte.f k (bytesOf a0)).bind fun t => if t.length = a0.size ∧ a0.size ≤ 1048576 ∧ (t.all fun x => decide (0 ≤ x) && decide (x < 256)) = true then some ⟨((Lib.compactUpTo t.toArray t.length).map fun x => UInt8.ofNat x.toNat).toArray⟩ else none
theorem impl_lettersOf.mono : ∀ y0 k,LeO (impl_lettersOf.f k y0) (impl_lettersOf.f (k + 1) y0) := by
 intro y0 k
 unfold impl_lettersOf.f
 exact LeO.bind (slices_Sort_byte_byte.mono _ _) (fun _ => LeO.refl _)
theorem bytesOf_getD (a : ByteArray) (i : Nat) (h : i < a.size) : (bytesOf a).getD i 0 = ((a.data.toList.getD i 0).toNat : Int) := by
 unfold bytesOf
 rw [List.getD_eq_getElem?_getD,List.getElem?_map,List.getD_eq_getElem?_getD,List.getElem?_eq_getElem (by simpa using h)]; simp
theorem compact_len (t : List Int) : (Lib.compactUpTo t.toArray t.length).length ≤ t.length := by
 unfold Lib.compactUpTo
 rw [List.length_map]; have := List.length_filter_le (Lib.keeps t.toArray) (List.range t.length)
 rwa [List.length_range] at this
theorem compact_mem (t : List Int) (x : Int) (hx : x ∈ Lib.compactUpTo t.toArray t.length) : x ∈ t := by
 unfold Lib.compactUpTo at hx
 simp only [List.mem_map,List.mem_filter,List.mem_range] at hx; obtain ⟨j,⟨hj,_⟩,rfl⟩ := hx; rw [getElem!_pos t.toArray j (by simpa using hj)]; simp
set_option maxHeartbeats 8000000 in
set_option maxRecDepth 100000 in
theorem impl_lettersOf.calls (k : Nat) (a0 : ByteArray) (r : ByteArray) (w : World) (h : impl_lettersOf.f k a0 = some r) :
  Calls Tryd.prog 30 #[.string a0] w fun e w' => e = .returned (.string r) ∧ Below w.heap.size w w' := by
 unfold impl_lettersOf.f at h
 obtain ⟨t,ht,h⟩ := Option.bind_eq_some_iff.mp h
 split at h
 ·
  rename_i hc
  obtain ⟨hlen,hbig,hall⟩ := hc; obtain rfl := Option.some.inj h; rw [List.all_eq_true] at hall; have hconv : (convert 9 48 (.string a0)).run Tryd.prog w = .ok (.slice (some ⟨w.heap.size,0,none⟩) a0.size (grownCap w a0.size 0 5)) (Lib.bytesWorld w 5 a0) := Lib.run_convert_string_bytes w _ _ _ a0 Tryd.underlying9 Tryd.underlying48 Tryd.underlying5; have hlb : (bytesOf a0).length = a0.size := by unfold bytesOf; rw [List.length_map]; rfl
  have hcap := grownCap_ge w a0.size 0 5
  have hR : BR (Lib.bytesWorld w 5 a0) w.heap.size (fun _ => True) (.slice (some ⟨w.heap.size,0,none⟩) a0.size (grownCap w a0.size 0 5)) (bytesOf a0) := by
   refine ⟨fun _ _ => trivial,w.heap.size,_,_,_,_,by rw [hlb],Nat.le_refl _,by rw [Lib.bytesWorld_size]; omega,Lib.bytesWorld_at_new w 5 a0,by rw [hlb]; exact hcap,?_,by rw [hlb]; omega,fun i hi => ?_⟩
   · rw [hlb]; unfold Lib.bytesCells; rw [Array.size_append,Array.size_map]; exact Nat.le_add_right _ _
   ·
    rw [hlb] at hi
    unfold Lib.bytesCells
    rw [Array.getElem?_append_left (by rw [Array.size_map]; exact hi),Array.getElem?_map,bytesOf_getD a0 i hi]; have hd : i < a0.data.size := hi; rw [Array.getElem?_eq_getElem hd,List.getD_eq_getElem?_getD,List.getElem?_eq_getElem (by simpa using hd)]; simp
  have hB := bytes_below (Below.refl w.heap.size w) (Nat.le_refl _) 5 a0; generalize grownCap w a0.size 0 5 = cap at hconv hcap hR; generalize hwb : Lib.bytesWorld w 5 a0 = wb at hconv hR hB; have hsort := slices_Sort_byte_byte.calls k (fun _ => True) _ (bytesOf a0) t w wb hB hR ht
  have hcomp : ∀ w1 : World,BR w1 w.heap.size (fun _ => True) (.slice (some ⟨w.heap.size,0,none⟩) a0.size cap) t → Below w.heap.size w w1 → Calls Tryd.prog 49 #[.slice (some ⟨w.heap.size,0,none⟩) a0.size cap] w1 fun e w2 => e = .returned (.slice (some ⟨w.heap.size,0,none⟩) (Lib.compactUpTo t.toArray t.length).length cap) ∧ (convert 48 9 (.slice (some ⟨w.heap.size,0,none⟩) (Lib.compactUpTo t.toArray t.length).length cap)).run Tryd.prog w2 = .ok (.string ⟨((Lib.compactUpTo t.toArray t.length).map fun x => UInt8.ofNat x.toNat).toArray⟩) w2 ∧ Below w.heap.size w w2 := by
   intro w1 h1 hb1
   have hH : Sort.Holds (Value.int .u8) w1 w.heap.size 0 t.toArray := by
    intro j hj; have hj' : j < t.length := by simpa using hj
    have hc := BR_celln 0 h1 (j : Int) (by omega) (by omega); rw [Int.toNat_natCast] at hc; rw [Nat.zero_add,getElem!_pos t.toArray j hj]; have hr : rd t (j : Int) = t.toArray[j] := by unfold rd; rw [Int.toNat_natCast,List.getD_eq_getElem?_getD,List.getElem?_eq_getElem hj']; simp
    rw [hr] at hc; exact hc
   have hcc := AnyE.slices_Compact YtcidlaabbkimdaaDoorlaysCompactB (Value.int .u8) (fun _ => rfl) (EqlAt.intD Tryd.prog 5 .u8) (NeqAt.intD Tryd.prog 5 .u8) 0 (fun _ => rfl) w.heap.size 0 cap t.toArray w1 hH (by simp; omega) (by simp; omega); rw [show t.toArray.size = a0.size by simpa using hlen] at hcc; rw [← hlen] at hcc ⊢
   change Calls Tryd.prog 49 _ _ _ at hcc
   refine hcc.mono ?_; rintro e w2 ⟨rfl,q,rfl⟩; refine ⟨rfl,?_,Lib.below_putRow hb1 (Nat.le_refl _)⟩; have hsz : (Lib.compactUpTo t.toArray t.length).length ≤ t.length := compact_len t
   have hmem : ∀ x ∈ Lib.compactUpTo t.toArray t.length,0 ≤ x ∧ x < 256 := by
    intro x hx; have := hall x (compact_mem t x hx)
    simpa using this
   have hback := run_convert_bytes_back (P := Tryd.prog) (Sort.putRow (Value.int .u8) (Sort.ahead w1 q) w.heap.size 0 (Lib.compactUpTo t.toArray t.length ++ List.replicate (t.length - (Lib.compactUpTo t.toArray t.length).length) 0).toArray) 48 9 5 ⟨w.heap.size,0,none⟩ cap ((Lib.compactUpTo t.toArray t.length).map fun x => UInt8.ofNat x.toNat) Tryd.underlying48 Tryd.underlying5 Tryd.underlying9 (fun j hj => by
    rw [List.length_map] at hj; have hp := Sort.cell?_putRow (Value.int .u8) (Sort.ahead w1 q) w.heap.size 0 t.toArray (Lib.compactUpTo t.toArray t.length ++ List.replicate (t.length - (Lib.compactUpTo t.toArray t.length).length) 0).toArray (Sort.holds_ahead _ _ q _ _ _ hH) (by simp; omega) j (by simp; omega); rw [Nat.zero_add] at hp; rw [show ((⟨w.heap.size,0,none⟩ : Addr).add j) = ⟨w.heap.size,j,none⟩ by simp [Addr.add]; intro e; exact e.symm,hp]; rw [getElem!_pos _ j (by simp; omega)]; have hx := hmem _ (List.getElem_mem hj); simp only [List.getElem_toArray,List.getElem_map]; rw [List.getElem_append_left hj]
    congr 2
    have : ((UInt8.ofNat ((Lib.compactUpTo t.toArray t.length)[j]).toNat).toNat : Int) = (Lib.compactUpTo t.toArray t.length)[j] := by
     generalize (Lib.compactUpTo t.toArray t.length)[j] = z at hx; simp; omega
    exact this.symm)
   rw [List.length_map] at hback; exact hback
  obtain ⟨cn,hcn⟩ : ∃ cn,cn = (Lib.compactUpTo t.toArray t.length).length := ⟨_,rfl⟩; rw [← hcn] at hcomp; clear hcn; have HC := Aside0.mk hcomp; clear hlen; clear hcomp hR hB hall ht hcap hlb
  go_enter Tryd.func30,Tryd.ntmps30
  go_wp2_with (first | (go_at_call 48; go_loud (refine hsort.mono ?_); rintro e w1 ⟨rfl,hR1,hB1,_⟩; have hcall := HC.out w1 (BR_reok rfl hR1 (fun _ _ => trivial)) hB1; clear hR1 hB1) | (go_at_call 49; go_loud (refine hcall.mono ?_); rintro e w2 ⟨rfl,hback,hB2⟩; have HB2 := Aside0.mk hB2; clear hB2))
  go_ret
  exact ⟨rfl,HB2.out⟩
 · cases h

end Go.Proofs.YtcidlaabbkimdaaDoor.P

namespace Go.Proofs.YtcidlaabbkimdaaDoor
open Go.RowKit Go.Proofs.YtcidlaabbkimdaaDoorW.PrintWords
set_option linter.unusedSimpArgs false
/-! A range over a string of ASCII bytes: its place, a block of its own anywhere in memory. -/
def iterAt (w : World) (g : Nat) (s : ByteArray) (pos : Nat) : World := { w with heap := w.heap.setIfInBounds g (.stringIter s pos) }
section
variable {w w0 : World} {g B : Nat} {s : ByteArray} {pos : Nat} {o : Obj} {P : Program}
theorem iterAt_heap (h : w.heap[g]? = some o) : (iterAt w g s pos).heap[g]? = some (.stringIter s pos) := by
  have := (Array.getElem?_eq_some_iff.1 h).1
  simp [iterAt, Array.getElem?_setIfInBounds, this]
theorem iterAt_other {k : Nat} (hk : k ≠ g) : (iterAt w g s pos).heap[k]? = w.heap[k]? := by
  simp [iterAt, Array.getElem?_setIfInBounds, Ne.symm hk]
theorem iterAt_size : (iterAt w g s pos).heap.size = w.heap.size := by simp [iterAt]
theorem iterAt_below (hb : Below B w0 w) (hg : B ≤ g) : Below B w0 (iterAt w g s pos) :=
  hb.trans ⟨rfl, rfl, rfl, by rw [iterAt_size]; exact Nat.le_refl _, fun k hk => iterAt_other (by omega)⟩
theorem iterAt_cell {a : Addr} (h : a.block ≠ g) : (iterAt w g s pos).cell? a = w.cell? a := by
  simp only [World.cell?, iterAt_other h]
theorem run_next_at (ty : TypeId) (hg : w.heap[g]? = some (.stringIter s pos)) (h : pos < s.size) (ha : (s[pos]'h).toNat < 128) :
    (Instr.next (.pointer (some ⟨g, 0, none⟩)) true ty).run P w = .ok (.tuple #[.bool true, .int .i64 pos, .int .i32 (s[pos]'h).toNat]) (iterAt w g s (pos + 1)) := by
  simp only [Instr.next, getObj, setObj, Sem.run_bind, Sem.run, hg, Result.andThen, h, if_true, decode_ascii s pos h ha]
  simp [goInt, Sem.run, hg, iterAt]
theorem run_next_stop (ty : TypeId) (hg : w.heap[g]? = some (.stringIter s pos)) (h : ¬ pos < s.size) :
    (Instr.next (.pointer (some ⟨g, 0, none⟩)) true ty).run P w = .ok (.tuple #[.bool false]) w := by
  simp [Instr.next, getObj, Sem.run, hg, h]
theorem run_slice_str (ty : TypeId) (lo hi : Int) (hu : (underlying ty).run P w = .ok .string w) (h0 : 0 ≤ lo) (h1 : lo ≤ hi) (h2 : hi ≤ s.size) :
    (Instr.slice ty (.string s) (some (.int .i64 lo)) (some (.int .i64 hi)) none).run P w = .ok (.string (s.extract lo.toNat hi.toNat)) w := by
  have e1 := run_sliceBound (P := P) (w := w) .i64 hi s.size .sliceAlen (by omega) h2
  have e2 := run_sliceBound (P := P) (w := w) .i64 lo hi.toNat .sliceB h0 (by omega)
  simp [Instr.slice, Instr.sliceBounds, Sem.run, hu, Result.andThen, goInt, e1, e2]
/-- A row of the call's own is no iterator. -/
theorem Kd.R_iterAt {α : Type} {d : Kd α} {e base : Nat} {ok : Nat → Prop} {v : Value} {xs : List α} {pos' : Nat} (h : d.R e w base ok v xs) (hg : w.heap[g]? = some (.stringIter s pos)) : d.R e (iterAt w g s pos') base ok v xs := by
  have hb := Kd.R_bound h
  refine Kd.R_mono (Kd.R_move hb (fun k hk => iterAt_other ?_)) (fun _ hk => hk.1)
  rintro rfl
  obtain ⟨_, _, _, q, _, cells, hc⟩ := hk
  rw [hg] at hc
  cases hc
end
end Go.Proofs.YtcidlaabbkimdaaDoor

-- printed by xprint.py
namespace Go.Proofs.YtcidlaabbkimdaaDoor.P
open Go.RowKit Go.Proofs.YtcidlaabbkimdaaDoorW.PrintWords Go.Proofs.YtcidlaabbkimdaaDoorW.PrintLast Go.Proofs.YtcidlaabbkimdaaDoorW.PrintMore
attribute [local go_sem] max2_int min2_int max_two min_two max_three min_three max_four min_four   -- for this text's walks alone
set_option linter.unusedVariables false
set_option linter.unusedSimpArgs false

/-! ### impl_CountShown: function 13 -/
def triN : Nat → Int → Int
 | 0,x => x
 | n + 1,x => triN n (wrap64 (x * 3))
def impl_CountShown.f (k : Nat) (a0 : ByteArray) : Option (Int × Bool) := (impl_isText.f a0).bind fun t => if t = true then ((impl_lettersOf.f k a0).bind fun L => if (L.data.toList.all fun c => decide (c.toNat < 128)) = true then some (triN L.size 1,true) else none) else some (0,false)
theorem impl_CountShown.mono : ∀ y0 k,LeO (impl_CountShown.f k y0) (impl_CountShown.f (k + 1) y0) := by
 intro y0 k
 unfold impl_CountShown.f
 exact LeO.bind (LeO.refl _) (fun t => LeO.ite (LeO.bind (impl_lettersOf.mono _ _) (fun _ => LeO.refl _)) (LeO.refl _))
set_option maxHeartbeats 8000000 in
set_option maxRecDepth 100000 in
theorem impl_CountShown.calls (k : Nat) (a0 : ByteArray) (r1 : Int) (r2 : Bool) (w : World) (h : impl_CountShown.f k a0 = some (r1,r2)) :
  Calls Tryd.prog 13 #[.string a0] w fun e w' => e = .returned (.tuple #[.int .i64 r1,.bool r2]) ∧ Below w.heap.size w w' := by
 unfold impl_CountShown.f at h
 obtain ⟨t,ht,h⟩ := Option.bind_eq_some_iff.mp h; have HD := Aside0.mk (fun W => impl_isText.calls a0 t W ht); clear ht
 cases t with
 | false =>
  rw [if_neg (by decide)] at h; obtain ⟨rfl,rfl⟩ := Prod.mk.inj (Option.some.inj h); clear h
  go_enter Tryd.func13,Tryd.ntmps13
  go_wp2_with (go_at_call 29; refine (HD.out _).mono ?_; rintro e w1 ⟨rfl,hb1⟩; have HB1 := Aside0.mk hb1; clear hb1)
  go_ret2
  exact ⟨rfl,HB1.out⟩
 | true =>
  rw [if_pos rfl] at h; obtain ⟨L,hL,h⟩ := Option.bind_eq_some_iff.mp h
  split at h
  ·
   rename_i hall
   obtain ⟨hr1,rfl⟩ := Prod.mk.inj (Option.some.inj h); rw [List.all_eq_true] at hall; have HL := Aside0.mk (fun W => impl_lettersOf.calls k a0 L W hL); have HALL := Aside0.mk hall; have HR := Aside0.mk hr1; clear h hL hall hr1
   go_enter Tryd.func13,Tryd.ntmps13
   go_wp2_with (first | (go_at_call 29; refine (HD.out _).mono ?_; rintro e w1 ⟨rfl,hb1⟩; have HB1 := Aside0.mk hb1; clear hb1) | (go_at_call 30; refine (HL.out _).mono ?_; rintro e w2 ⟨rfl,hb2⟩; have HB2 := Aside0.mk (HB1.out.trans (hb2.mono HB1.out.size)); clear hb2))
   obtain ⟨g,hg⟩ : ∃ g,g = w2.heap.size := ⟨_,rfl⟩; have HG := Aside0.mk (show w.heap.size ≤ g by have := HB2.out.size; omega); have IT := Aside0.mk (show (w2.iter L 0).heap[g]? = some (.stringIter L 0) by rw [hg]; exact World.iter_heap _ _ _); have IB := Aside0.mk (show Below w.heap.size w (w2.iter L 0) from HB2.out.alloc HB2.out.size _); rw [← hg]; generalize w2.iter L 0 = wi at IT IB ⊢; clear hg
   go_loopg [4] L.size (fun gg v4 w' => ∃ x : Int,v4 = .int .i64 x ∧ Aside0 (∃ kk : Nat,kk ≤ L.size ∧ L.size - kk ≤ gg ∧ w'.heap[g]? = some (.stringIter L kk) ∧ Below w.heap.size w w' ∧ triN (L.size - kk) x = r1))
   case atStart => exact ⟨1,rfl,⟨0,Nat.zero_le _,by omega,IT.out,IB.out,HR.out⟩⟩
   case round =>
    obtain ⟨x,rfl,⟨kk,k1,k2,k3,k4,k5⟩⟩ := hrel
    by_cases hk : kk < L.size
    ·
     have hc : (L[kk]'hk).toNat < 128 := of_decide_eq_true (HALL.out (L[kk]'hk) (by
      have hkl : kk < L.data.toList.length := by simpa using hk
      exact List.getElem_mem hkl))
     have hnx := fun ty => run_next_at (P := Tryd.prog) ty k3 hk hc
     generalize (L[kk]'hk) = c at hnx hc; have j3 := iterAt_heap (s := L) (pos := kk + 1) k3; have j4 := iterAt_below (s := L) (pos := kk + 1) k4 HG.out; rw [show L.size - kk = (L.size - (kk + 1)) + 1 by omega] at k5
     unfold triN at k5
     have JJ := Aside0.mk (And.intro j3 (And.intro j4 k5)); have KX := Aside0.mk (And.intro k2 hk); clear k1 k2 k3 k4 k5 j3 j4 hc hk; generalize iterAt wr g L (kk + 1) = wj at JJ hnx; go_wp2
     go_roundg (L.size - (kk + 1))
     case measure => have := KX.out; omega
     case rel => exact ⟨_,rfl,⟨kk + 1,by have := KX.out; omega,by omega,JJ.out.1,JJ.out.2.1,JJ.out.2.2⟩⟩
    ·
     have hnx := fun ty => run_next_stop (P := Tryd.prog) ty k3 hk
     rw [show L.size - kk = 0 by omega] at k5
     unfold triN at k5
     obtain rfl := k5; have KE := Aside0.mk k4; clear k1 k2 k3 k4 hk; go_wp2
     go_ret2
     exact ⟨rfl,KE.out⟩
  · cases h

end Go.Proofs.YtcidlaabbkimdaaDoor.P

-- printed by xprint.py
namespace Go.Proofs.YtcidlaabbkimdaaDoor.P
open Go.RowKit Go.Proofs.YtcidlaabbkimdaaDoorW.PrintWords Go.Proofs.YtcidlaabbkimdaaDoorW.PrintLast Go.Proofs.YtcidlaabbkimdaaDoorW.PrintMore
attribute [local go_sem] max2_int min2_int max_two min_two max_three min_three max_four min_four   -- for this text's walks alone
set_option linter.unusedVariables false
set_option linter.unusedSimpArgs false

/-! ### spec_bkHas: function 46 -/
def spec_bkHas.l0 : Nat → ByteArray → Int → Int → Option (Bool)
 | 0,_,_,_ => none
 | k + 1,x0,x1,x5 => if x5 < (x0.size : Int) then (if 0 ≤ x5 then (if (bt x0 x5) = x1 then (some true) else (spec_bkHas.l0 k x0 x1 (wrap64 (x5 + 1)))) else (none)) else (some false)
def spec_bkHas.f (k : Nat) (a0 : ByteArray) (a1 : Int) : Option (Bool) := spec_bkHas.l0 k a0 a1 0
theorem spec_bkHas.mono_l : ∀ k,(∀ y0 y1 y2,LeO (spec_bkHas.l0 k y0 y1 y2) (spec_bkHas.l0 (k + 1) y0 y1 y2))
 | 0 => by intros; intro r h; simp [spec_bkHas.l0] at h
 | k + 1 => by
  have ih0 := spec_bkHas.mono_l k
  ·
   intro y0 y1 y2
   unfold spec_bkHas.l0
   repeat' first
   | (with_reducible exact ih0 _ _ _)
   | (with_reducible exact LeO.refl _)
   | (with_reducible exact LeO.none _)
   | (with_reducible refine LeO.ite ?_ ?_)
   | (with_reducible refine LeO.bind ?_ (fun _ => ?_))
   | exact ih0 _ _ _
   | exact LeO.none _
   | refine LeO.ite ?_ ?_
   | refine LeO.bind ?_ (fun _ => ?_)
theorem spec_bkHas.mono : ∀ y0 y1 k,LeO (spec_bkHas.f k y0 y1) (spec_bkHas.f (k + 1) y0 y1) := by
 intro y0 y1 k; have ih0 := spec_bkHas.mono_l k
 unfold spec_bkHas.f
 repeat' first
   | (with_reducible exact ih0 _ _ _)
   | (with_reducible exact LeO.refl _)
   | (with_reducible exact LeO.none _)
   | (with_reducible refine LeO.ite ?_ ?_)
   | (with_reducible refine LeO.bind ?_ (fun _ => ?_))
   | exact ih0 _ _ _
   | exact LeO.none _
   | refine LeO.ite ?_ ?_
   | refine LeO.bind ?_ (fun _ => ?_)
set_option maxHeartbeats 8000000 in
set_option maxRecDepth 100000 in
theorem spec_bkHas.calls (k : Nat) (a0 : ByteArray) (a1 : Int) (r : Bool) (w : World) (h : spec_bkHas.f k a0 a1 = some r) :
  Calls Tryd.prog 46 #[.string a0,.int .u8 a1] w fun e w' => e = .returned (.bool r) ∧ Drawn0 w w' := by
 have H : (spec_bkHas.l0 k a0 a1 0) = some r := h; clear h; have H' := Aside0.mk H; clear H
 go_enter Tryd.func46,Tryd.ntmps46
 go_wp2
 go_loopg [5] k (fun kq v5 w' => ∃ (x5_1 : Int),v5 = .int .i64 x5_1 ∧ Aside0 (spec_bkHas.l0 kq a0 a1 x5_1 = some r) ∧ Aside0 (kq ≤ k) ∧ Drawn0 w w')
 case atStart => exact ⟨(0),(by first | rfl | (simp; done) | (simp [*]; done)),H',⟨Nat.le_refl _⟩,by repeat (first | exact Drawn0.refl _ | apply Drawn0.step)⟩
 case round =>
  clear H'; try clear p2
  obtain ⟨x5_1,rfl,HA,HK1,⟨m1,rfl⟩⟩ := hrel
  cases gk with
  | zero => exact absurd HA.out (by simp [spec_bkHas.l0])
  | succ k1 =>
   have H := HA.out; clear HA; simp only [spec_bkHas.l0] at H
   by_cases c3 : x5_1 < (a0.size : Int)
   ·
    rw [if_pos c3] at H; have c3b0 : decide (x5_1 < (a0.size : Int)) = true := decide_eq_true c3; clear c3
    by_cases c4 : 0 ≤ x5_1
    ·
     rw [if_pos c4] at H; have c4b0 : decide (0 ≤ x5_1) = true := decide_eq_true c4; clear c4
     by_cases c6 : (bt a0 x5_1) = a1
     ·
      rw [if_pos c6] at H; have c6b0 : ((bt a0 x5_1) == a1) = true := beq_iff_eq.mpr c6; have c6b1 : ((bt a0 x5_1) != a1) = false := bne_eq_false_iff_eq.mpr c6; clear c6; obtain rfl := Option.some.inj H; have p5 : 0 ≤ (x5_1 : Int) := of_decide_eq_true (by first | (with_reducible assumption) | assumption); have q5 : x5_1 < (a0.size : Int) := of_decide_eq_true (by first | (with_reducible assumption) | assumption); have hx5 := bt_at a0 x5_1; replace p5 := eq_true p5; replace q5 := eq_true q5; go_wp2
      go_ret
      exact ⟨by first | rfl | (simp; done) | (simp [*]; done),by repeat (first | exact Drawn0.refl _ | apply Drawn0.step)⟩
     ·
      rw [if_neg c6] at H; have c6b0 : ((bt a0 x5_1) == a1) = false := beq_eq_false_iff_ne.mpr c6; have c6b1 : ((bt a0 x5_1) != a1) = true := bne_iff_ne.mpr c6; have H' := Aside0.mk H; clear H; have p5 : 0 ≤ (x5_1 : Int) := of_decide_eq_true (by first | (with_reducible assumption) | assumption); have q5 : x5_1 < (a0.size : Int) := of_decide_eq_true (by first | (with_reducible assumption) | assumption); have hx5 := bt_at a0 x5_1; replace p5 := eq_true p5; replace q5 := eq_true q5; go_wp2
      go_roundg k1
      case measure => have := HK1.out; omega
      case rel => exact ⟨(wrap64 (x5_1 + 1)),(by first | rfl | (simp; done) | (simp [*]; done)),H',⟨by have := HK1.out; omega⟩,by repeat (first | exact Drawn0.refl _ | apply Drawn0.step)⟩
    · rw [if_neg c4] at H; exact absurd H (by simp)
   ·
    rw [if_neg c3] at H; have c3b0 : decide (x5_1 < (a0.size : Int)) = false := decide_eq_false c3; clear c3; obtain rfl := Option.some.inj H; go_wp2
    go_ret
    exact ⟨by first | rfl | (simp; done) | (simp [*]; done),by repeat (first | exact Drawn0.refl _ | apply Drawn0.step)⟩

end Go.Proofs.YtcidlaabbkimdaaDoor.P

-- printed by xprint.py
namespace Go.Proofs.YtcidlaabbkimdaaDoor.P
open Go.RowKit Go.Proofs.YtcidlaabbkimdaaDoorW.PrintWords Go.Proofs.YtcidlaabbkimdaaDoorW.PrintLast Go.Proofs.YtcidlaabbkimdaaDoorW.PrintMore
attribute [local go_sem] max2_int min2_int max_two min_two max_three min_three max_four min_four   -- for this text's walks alone
set_option linter.unusedVariables false
set_option linter.unusedSimpArgs false

/-! ### spec_bkLettersOf: function 28 -/
def spec_bkLettersOf.l0 : Nat → ByteArray → ByteArray → Int → Option (ByteArray)
 | 0,_,_,_ => none
 | k + 1,x0,x3,x4 => if x4 ≤ 122 then ((spec_bkHas.f k x0 x4).bind fun t101 => (if t101 = true then (if x3.size + (Utf8.encode (wrap32 (x4))).size ≤ 9223372036854775807 then (spec_bkLettersOf.l0 k x0 (x3 ++ (Utf8.encode (wrap32 (x4)))) ((x4 + 1) % 256)) else (none)) else (spec_bkLettersOf.l0 k x0 x3 ((x4 + 1) % 256)))) else (some x3)
def spec_bkLettersOf.f (k : Nat) (a0 : ByteArray) : Option (ByteArray) := spec_bkLettersOf.l0 k a0 (⟨#[]⟩ : ByteArray) 97
theorem spec_bkLettersOf.mono_l : ∀ k,(∀ y0 y1 y2,LeO (spec_bkLettersOf.l0 k y0 y1 y2) (spec_bkLettersOf.l0 (k + 1) y0 y1 y2))
 | 0 => by intros; intro r h; simp [spec_bkLettersOf.l0] at h
 | k + 1 => by
  have ih0 := spec_bkLettersOf.mono_l k
  ·
   intro y0 y1 y2
   unfold spec_bkLettersOf.l0
   repeat' first
   | (with_reducible exact ih0 _ _ _)
   | (with_reducible exact spec_bkHas.mono _ _ _)
   | (with_reducible exact LeO.refl _)
   | (with_reducible exact LeO.none _)
   | (with_reducible refine LeO.ite ?_ ?_)
   | (with_reducible refine LeO.bind ?_ (fun _ => ?_))
   | exact ih0 _ _ _
   | exact spec_bkHas.mono _ _ _
   | exact LeO.none _
   | refine LeO.ite ?_ ?_
   | refine LeO.bind ?_ (fun _ => ?_)
theorem spec_bkLettersOf.mono : ∀ y0 k,LeO (spec_bkLettersOf.f k y0) (spec_bkLettersOf.f (k + 1) y0) := by
 intro y0 k; have ih0 := spec_bkLettersOf.mono_l k
 unfold spec_bkLettersOf.f
 repeat' first
   | (with_reducible exact ih0 _ _ _)
   | (with_reducible exact spec_bkHas.mono _ _ _)
   | (with_reducible exact LeO.refl _)
   | (with_reducible exact LeO.none _)
   | (with_reducible refine LeO.ite ?_ ?_)
   | (with_reducible refine LeO.bind ?_ (fun _ => ?_))
   | exact ih0 _ _ _
   | exact spec_bkHas.mono _ _ _
   | exact LeO.none _
   | refine LeO.ite ?_ ?_
   | refine LeO.bind ?_ (fun _ => ?_)
set_option maxHeartbeats 8000000 in
set_option maxRecDepth 100000 in
theorem spec_bkLettersOf.calls (k : Nat) (a0 : ByteArray) (r : ByteArray) (w : World) (h : spec_bkLettersOf.f k a0 = some r) :
  Calls Tryd.prog 28 #[.string a0] w fun e w' => e = .returned (.string r) ∧ Drawn0 w w' := by
 have H : (spec_bkLettersOf.l0 k a0 (⟨#[]⟩ : ByteArray) 97) = some r := h; clear h; have H' := Aside0.mk H; clear H
 go_enter Tryd.func28,Tryd.ntmps28
 go_wp2
 go_loopg [3,4] k (fun kq v3 v4 w' => ∃ (x3_1 : ByteArray) (x4_1 : Int),v3 = .string x3_1 ∧ v4 = .int .u8 x4_1 ∧ Aside0 (spec_bkLettersOf.l0 kq a0 x3_1 x4_1 = some r) ∧ Aside0 (kq ≤ k) ∧ Drawn0 w w')
 case atStart => exact ⟨((⟨#[]⟩ : ByteArray)),(97),(by first | rfl | (simp; done) | (simp [*]; done)),(by first | rfl | (simp; done) | (simp [*]; done)),H',⟨Nat.le_refl _⟩,by repeat (first | exact Drawn0.refl _ | apply Drawn0.step)⟩
 case round =>
  clear H'; obtain ⟨x3_1,x4_1,rfl,rfl,HA,HK1,⟨m1,rfl⟩⟩ := hrel
  cases gk with
  | zero => exact absurd HA.out (by simp [spec_bkLettersOf.l0])
  | succ k1 =>
   have H := HA.out; clear HA; simp only [spec_bkLettersOf.l0] at H
   by_cases c2 : x4_1 ≤ 122
   ·
    rw [if_pos c2] at H; have c2b0 : decide (x4_1 ≤ 122) = true := decide_eq_true c2; clear c2; replace H := Option.bind_eq_some_iff.mp H; obtain ⟨t101,A30,H⟩ := H; replace H : (if t101 = true then (if x3_1.size + (Utf8.encode (wrap32 (x4_1))).size ≤ 9223372036854775807 then (spec_bkLettersOf.l0 k1 a0 (x3_1 ++ (Utf8.encode (wrap32 (x4_1)))) ((x4_1 + 1) % 256)) else (none)) else (spec_bkLettersOf.l0 k1 a0 x3_1 ((x4_1 + 1) % 256))) = some r := H; have A3 := Aside0.mk A30; clear A30
    by_cases c4 : t101 = true
    ·
     subst c4; have H1 : (if x3_1.size + (Utf8.encode (wrap32 (x4_1))).size ≤ 9223372036854775807 then (spec_bkLettersOf.l0 k1 a0 (x3_1 ++ (Utf8.encode (wrap32 (x4_1)))) ((x4_1 + 1) % 256)) else (none)) = some r := by rw [if_pos rfl] at H; exact H
     clear H; have H := H1; clear H1
     by_cases c5 : x3_1.size + (Utf8.encode (wrap32 (x4_1))).size ≤ 9223372036854775807
     ·
      rw [if_pos c5] at H; have c5b0 := eq_true c5; have c5b1 : decide (x3_1.size + (Utf8.encode (wrap32 (x4_1))).size ≤ 9223372036854775807) = true := decide_eq_true c5; try have c5b2 : (9223372036854775807 < x3_1.size + (Utf8.encode (wrap32 (x4_1))).size) = False := eq_false (Nat.not_lt.2 c5)
      have H' := Aside0.mk H; clear H; go_wp2_with (first | ((with_reducible refine gate_callee (f := 46) rfl ?_); refine goesL_ (some 11) rfl rfl Tryd.func46 (by kernel_rfl) rfl #[.string a0,.int .u8 x4_1] rfl (by (try simp only [List.map_toArray,List.map_cons,List.map_nil]); first | done | rfl | (simp only [List.length_drop,List.length_take]; rfl)) ?_; (with_reducible refine (spec_bkHas.calls k1 a0 x4_1 true _ A3.out).mono ?_); rintro e w' ⟨rfl,⟨nd,rfl⟩⟩; refine ⟨_,rfl,?_⟩; have hcv6 : ∀ W : World,(convert 21 9 (.int .i32 (wrap32 (x4_1)))).run Tryd.prog W = .ok (.string (Utf8.encode (wrap32 (x4_1)))) W := fun W => run_convert_int_string W 21 9 .i32 (wrap32 (x4_1)) (by rw [Tryd.underlying21]; rfl) Tryd.underlying9))
      go_roundg k1
      case measure => have := HK1.out; omega
      case rel => exact ⟨(x3_1 ++ (Utf8.encode (wrap32 (x4_1)))),((x4_1 + 1) % 256),(by first | rfl | (simp; done) | (simp [*]; done)),(by first | rfl | (simp; done) | (simp [*]; done)),H',⟨by have := HK1.out; omega⟩,by repeat (first | exact Drawn0.refl _ | apply Drawn0.step)⟩
     · rw [if_neg c5] at H; exact absurd H (by simp)
    ·
     replace c4 := Bool.eq_false_iff.mpr c4; subst c4; have H1 : (spec_bkLettersOf.l0 k1 a0 x3_1 ((x4_1 + 1) % 256)) = some r := by rw [if_neg (show ¬ (false = true) by decide)] at H; exact H
     clear H; have H := H1; clear H1; have H' := Aside0.mk H; clear H; go_wp2_with (first | ((with_reducible refine gate_callee (f := 46) rfl ?_); refine goesL_ (some 11) rfl rfl Tryd.func46 (by kernel_rfl) rfl #[.string a0,.int .u8 x4_1] rfl (by (try simp only [List.map_toArray,List.map_cons,List.map_nil]); first | done | rfl | (simp only [List.length_drop,List.length_take]; rfl)) ?_; (with_reducible refine (spec_bkHas.calls k1 a0 x4_1 false _ A3.out).mono ?_); rintro e w' ⟨rfl,⟨nd,rfl⟩⟩; refine ⟨_,rfl,?_⟩))
     go_roundg k1
     case measure => have := HK1.out; omega
     case rel => exact ⟨(x3_1),((x4_1 + 1) % 256),(by first | rfl | (simp; done) | (simp [*]; done)),(by first | rfl | (simp; done) | (simp [*]; done)),H',⟨by have := HK1.out; omega⟩,by repeat (first | exact Drawn0.refl _ | apply Drawn0.step)⟩
   ·
    rw [if_neg c2] at H; have c2b0 : decide (x4_1 ≤ 122) = false := decide_eq_false c2; clear c2; obtain rfl := Option.some.inj H; go_wp2
    go_ret
    exact ⟨by first | rfl | (simp; done) | (simp [*]; done),by repeat (first | exact Drawn0.refl _ | apply Drawn0.step)⟩

end Go.Proofs.YtcidlaabbkimdaaDoor.P

-- printed by xprint.py
namespace Go.Proofs.YtcidlaabbkimdaaDoor.P
open Go.RowKit Go.Proofs.YtcidlaabbkimdaaDoorW.PrintWords Go.Proofs.YtcidlaabbkimdaaDoorW.PrintLast Go.Proofs.YtcidlaabbkimdaaDoorW.PrintMore
attribute [local go_sem] max2_int min2_int max_two min_two max_three min_three max_four min_four   -- for this text's walks alone
set_option linter.unusedVariables false
set_option linter.unusedSimpArgs false

/-! ### spec_bkText: function 27 -/
def spec_bkText.l0 : Nat → ByteArray → Int → Option (Bool)
 | 0,_,_ => none
 | k + 1,x0,x3 => if x3 < (x0.size : Int) then (if 0 ≤ x3 then (if (bt x0 x3) < 97 then (some false) else (if (bt x0 x3) > 122 then (some false) else (spec_bkText.l0 k x0 (wrap64 (x3 + 1))))) else (none)) else (some true)
def spec_bkText.f (k : Nat) (a0 : ByteArray) : Option (Bool) := if (a0.size : Int) > 20 then (some false) else (spec_bkText.l0 k a0 0)
theorem spec_bkText.mono_l : ∀ k,(∀ y0 y1,LeO (spec_bkText.l0 k y0 y1) (spec_bkText.l0 (k + 1) y0 y1))
 | 0 => by intros; intro r h; simp [spec_bkText.l0] at h
 | k + 1 => by
  have ih0 := spec_bkText.mono_l k
  ·
   intro y0 y1
   unfold spec_bkText.l0
   repeat' first
   | (with_reducible exact ih0 _ _)
   | (with_reducible exact LeO.refl _)
   | (with_reducible exact LeO.none _)
   | (with_reducible refine LeO.ite ?_ ?_)
   | (with_reducible refine LeO.bind ?_ (fun _ => ?_))
   | exact ih0 _ _
   | exact LeO.none _
   | refine LeO.ite ?_ ?_
   | refine LeO.bind ?_ (fun _ => ?_)
theorem spec_bkText.mono : ∀ y0 k,LeO (spec_bkText.f k y0) (spec_bkText.f (k + 1) y0) := by
 intro y0 k; have ih0 := spec_bkText.mono_l k
 unfold spec_bkText.f
 repeat' first
   | (with_reducible exact ih0 _ _)
   | (with_reducible exact LeO.refl _)
   | (with_reducible exact LeO.none _)
   | (with_reducible refine LeO.ite ?_ ?_)
   | (with_reducible refine LeO.bind ?_ (fun _ => ?_))
   | exact ih0 _ _
   | exact LeO.none _
   | refine LeO.ite ?_ ?_
   | refine LeO.bind ?_ (fun _ => ?_)
set_option maxHeartbeats 8000000 in
set_option maxRecDepth 100000 in
theorem spec_bkText.calls (k : Nat) (a0 : ByteArray) (r : Bool) (w : World) (h : spec_bkText.f k a0 = some r) :
  Calls Tryd.prog 27 #[.string a0] w fun e w' => e = .returned (.bool r) ∧ Drawn0 w w' := by
 have H : (if (a0.size : Int) > 20 then (some false) else (spec_bkText.l0 k a0 0)) = some r := h; clear h
 by_cases c2 : (a0.size : Int) > 20
 ·
  rw [if_pos c2] at H; have c2b0 : decide (20 < (a0.size : Int)) = true := decide_eq_true c2; have c2b1 : decide (20 < a0.size) = true := decide_eq_true (by omega); clear c2; obtain rfl := Option.some.inj H
  go_enter Tryd.func27,Tryd.ntmps27
  go_wp2
  go_ret
  exact ⟨by first | rfl | (simp; done) | (simp [*]; done),by repeat (first | exact Drawn0.refl _ | apply Drawn0.step)⟩
 ·
  rw [if_neg c2] at H; have c2b0 : decide (20 < (a0.size : Int)) = false := decide_eq_false c2; have c2b1 : decide (20 < a0.size) = false := decide_eq_false (by omega); clear c2; have H' := Aside0.mk H; clear H
  go_enter Tryd.func27,Tryd.ntmps27
  go_wp2
  go_loopg [3] k (fun kq v3 w' => ∃ (x3_1 : Int),v3 = .int .i64 x3_1 ∧ Aside0 (spec_bkText.l0 kq a0 x3_1 = some r) ∧ Aside0 (kq ≤ k) ∧ Drawn0 w w')
  case atStart => exact ⟨(0),(by first | rfl | (simp; done) | (simp [*]; done)),H',⟨Nat.le_refl _⟩,by repeat (first | exact Drawn0.refl _ | apply Drawn0.step)⟩
  case round =>
   clear H'; try clear c2
   try clear c2b0
   try clear c2b1
   try clear p2
   obtain ⟨x3_1,rfl,HA,HK1,⟨m1,rfl⟩⟩ := hrel
   cases gk with
   | zero => exact absurd HA.out (by simp [spec_bkText.l0])
   | succ k1 =>
    have H := HA.out; clear HA; simp only [spec_bkText.l0] at H
    by_cases c3 : x3_1 < (a0.size : Int)
    ·
     rw [if_pos c3] at H; have c3b0 : decide (x3_1 < (a0.size : Int)) = true := decide_eq_true c3; clear c3
     by_cases c4 : 0 ≤ x3_1
     ·
      rw [if_pos c4] at H; have c4b0 : decide (0 ≤ x3_1) = true := decide_eq_true c4; clear c4
      by_cases c6 : (bt a0 x3_1) < 97
      ·
       rw [if_pos c6] at H; have c6b0 : decide ((bt a0 x3_1) < 97) = true := decide_eq_true c6; clear c6; obtain rfl := Option.some.inj H; have p5 : 0 ≤ (x3_1 : Int) := of_decide_eq_true (by first | (with_reducible assumption) | assumption); have q5 : x3_1 < (a0.size : Int) := of_decide_eq_true (by first | (with_reducible assumption) | assumption); have hx5 := bt_at a0 x3_1; replace p5 := eq_true p5; replace q5 := eq_true q5; go_wp2
       go_ret
       exact ⟨by first | rfl | (simp; done) | (simp [*]; done),by repeat (first | exact Drawn0.refl _ | apply Drawn0.step)⟩
      ·
       rw [if_neg c6] at H; have c6b0 : decide ((bt a0 x3_1) < 97) = false := decide_eq_false c6; clear c6
       by_cases c8 : (bt a0 x3_1) > 122
       ·
        rw [if_pos c8] at H; have c8b0 : decide (122 < (bt a0 x3_1)) = true := decide_eq_true c8; clear c8; obtain rfl := Option.some.inj H; have p5 : 0 ≤ (x3_1 : Int) := of_decide_eq_true (by first | (with_reducible assumption) | assumption); have q5 : x3_1 < (a0.size : Int) := of_decide_eq_true (by first | (with_reducible assumption) | assumption); have hx5 := bt_at a0 x3_1; replace p5 := eq_true p5; replace q5 := eq_true q5; have p7 : 0 ≤ (x3_1 : Int) := of_decide_eq_true (by first | (with_reducible assumption) | assumption); have q7 : x3_1 < (a0.size : Int) := of_decide_eq_true (by first | (with_reducible assumption) | assumption); have hx7 := bt_at a0 x3_1; replace p7 := eq_true p7; replace q7 := eq_true q7; go_wp2
        go_ret
        exact ⟨by first | rfl | (simp; done) | (simp [*]; done),by repeat (first | exact Drawn0.refl _ | apply Drawn0.step)⟩
       ·
        rw [if_neg c8] at H; have c8b0 : decide (122 < (bt a0 x3_1)) = false := decide_eq_false c8; clear c8; have H' := Aside0.mk H; clear H; have p5 : 0 ≤ (x3_1 : Int) := of_decide_eq_true (by first | (with_reducible assumption) | assumption); have q5 : x3_1 < (a0.size : Int) := of_decide_eq_true (by first | (with_reducible assumption) | assumption); have hx5 := bt_at a0 x3_1; replace p5 := eq_true p5; replace q5 := eq_true q5; have p7 : 0 ≤ (x3_1 : Int) := of_decide_eq_true (by first | (with_reducible assumption) | assumption); have q7 : x3_1 < (a0.size : Int) := of_decide_eq_true (by first | (with_reducible assumption) | assumption); have hx7 := bt_at a0 x3_1; replace p7 := eq_true p7; replace q7 := eq_true q7; go_wp2
        go_roundg k1
        case measure => have := HK1.out; omega
        case rel => exact ⟨(wrap64 (x3_1 + 1)),(by first | rfl | (simp; done) | (simp [*]; done)),H',⟨by have := HK1.out; omega⟩,by repeat (first | exact Drawn0.refl _ | apply Drawn0.step)⟩
     · rw [if_neg c4] at H; exact absurd H (by simp)
    ·
     rw [if_neg c3] at H; have c3b0 : decide (x3_1 < (a0.size : Int)) = false := decide_eq_false c3; clear c3; obtain rfl := Option.some.inj H; go_wp2
     go_ret
     exact ⟨by first | rfl | (simp; done) | (simp [*]; done),by repeat (first | exact Drawn0.refl _ | apply Drawn0.step)⟩

end Go.Proofs.YtcidlaabbkimdaaDoor.P

-- printed by xprint.py
namespace Go.Proofs.YtcidlaabbkimdaaDoor.P
open Go.RowKit Go.Proofs.YtcidlaabbkimdaaDoorW.PrintWords Go.Proofs.YtcidlaabbkimdaaDoorW.PrintLast Go.Proofs.YtcidlaabbkimdaaDoorW.PrintMore
attribute [local go_sem] max2_int min2_int max_two min_two max_three min_three max_four min_four   -- for this text's walks alone
set_option linter.unusedVariables false
set_option linter.unusedSimpArgs false

/-! ### spec_CountShown: function 12 -/
def triS : Nat → Int → Int
 | 0,x => x
 | n + 1,x => triS n (wrap64 (x * 3))
def spec_CountShown.f (k : Nat) (a0 : ByteArray) : Option (Int × Bool) := (spec_bkText.f k a0).bind fun t => if t = true then ((spec_bkLettersOf.f k a0).bind fun L => if (L.data.toList.all fun c => decide (c.toNat < 128)) = true then some (triS L.size 1,true) else none) else some (0,false)
theorem spec_CountShown.mono : ∀ y0 k,LeO (spec_CountShown.f k y0) (spec_CountShown.f (k + 1) y0) := by
 intro y0 k
 unfold spec_CountShown.f
 exact LeO.bind (spec_bkText.mono _ _) (fun t => LeO.ite (LeO.bind (spec_bkLettersOf.mono _ _) (fun _ => LeO.refl _)) (LeO.refl _))
set_option maxHeartbeats 8000000 in
set_option maxRecDepth 100000 in
theorem spec_CountShown.calls (k : Nat) (a0 : ByteArray) (r1 : Int) (r2 : Bool) (w : World) (h : spec_CountShown.f k a0 = some (r1,r2)) :
  Calls Tryd.prog 12 #[.string a0] w fun e w' => e = .returned (.tuple #[.int .i64 r1,.bool r2]) ∧ Below w.heap.size w w' := by
 unfold spec_CountShown.f at h
 obtain ⟨t,ht,h⟩ := Option.bind_eq_some_iff.mp h; have HD := Aside0.mk (fun W => spec_bkText.calls k a0 t W ht); clear ht
 cases t with
 | false =>
  rw [if_neg (by decide)] at h; obtain ⟨rfl,rfl⟩ := Prod.mk.inj (Option.some.inj h); clear h
  go_enter Tryd.func12,Tryd.ntmps12
  go_wp2_with (go_at_call 27; refine (HD.out _).mono ?_; rintro e w1 ⟨rfl,hb1⟩; have HB1 := Aside0.mk hb1.below; clear hb1)
  go_ret2
  exact ⟨rfl,HB1.out⟩
 | true =>
  rw [if_pos rfl] at h; obtain ⟨L,hL,h⟩ := Option.bind_eq_some_iff.mp h
  split at h
  ·
   rename_i hall
   obtain ⟨hr1,rfl⟩ := Prod.mk.inj (Option.some.inj h); rw [List.all_eq_true] at hall; have HL := Aside0.mk (fun W => spec_bkLettersOf.calls k a0 L W hL); have HALL := Aside0.mk hall; have HR := Aside0.mk hr1; clear h hL hall hr1
   go_enter Tryd.func12,Tryd.ntmps12
   go_wp2_with (first | (go_at_call 27; refine (HD.out _).mono ?_; rintro e w1 ⟨rfl,hb1⟩; have HB1 := Aside0.mk hb1.below; clear hb1) | (go_at_call 28; refine (HL.out _).mono ?_; rintro e w2 ⟨rfl,hb2⟩; have HB2 := Aside0.mk (HB1.out.trans (hb2.below.mono HB1.out.size)); clear hb2))
   obtain ⟨g,hg⟩ : ∃ g,g = w2.heap.size := ⟨_,rfl⟩; have HG := Aside0.mk (show w.heap.size ≤ g by have := HB2.out.size; omega); have IT := Aside0.mk (show (w2.iter L 0).heap[g]? = some (.stringIter L 0) by rw [hg]; exact World.iter_heap _ _ _); have IB := Aside0.mk (show Below w.heap.size w (w2.iter L 0) from HB2.out.alloc HB2.out.size _); rw [← hg]; generalize w2.iter L 0 = wi at IT IB ⊢; clear hg
   go_loopg [4] L.size (fun gg v4 w' => ∃ x : Int,v4 = .int .i64 x ∧ Aside0 (∃ kk : Nat,kk ≤ L.size ∧ L.size - kk ≤ gg ∧ w'.heap[g]? = some (.stringIter L kk) ∧ Below w.heap.size w w' ∧ triS (L.size - kk) x = r1))
   case atStart => exact ⟨1,rfl,⟨0,Nat.zero_le _,by omega,IT.out,IB.out,HR.out⟩⟩
   case round =>
    obtain ⟨x,rfl,⟨kk,k1,k2,k3,k4,k5⟩⟩ := hrel
    by_cases hk : kk < L.size
    ·
     have hc : (L[kk]'hk).toNat < 128 := of_decide_eq_true (HALL.out (L[kk]'hk) (by
      have hkl : kk < L.data.toList.length := by simpa using hk
      exact List.getElem_mem hkl))
     have hnx := fun ty => run_next_at (P := Tryd.prog) ty k3 hk hc
     generalize (L[kk]'hk) = c at hnx hc; have j3 := iterAt_heap (s := L) (pos := kk + 1) k3; have j4 := iterAt_below (s := L) (pos := kk + 1) k4 HG.out; rw [show L.size - kk = (L.size - (kk + 1)) + 1 by omega] at k5
     unfold triS at k5
     have JJ := Aside0.mk (And.intro j3 (And.intro j4 k5)); have KX := Aside0.mk (And.intro k2 hk); clear k1 k2 k3 k4 k5 j3 j4 hc hk; generalize iterAt wr g L (kk + 1) = wj at JJ hnx; go_wp2
     go_roundg (L.size - (kk + 1))
     case measure => have := KX.out; omega
     case rel => exact ⟨_,rfl,⟨kk + 1,by have := KX.out; omega,by omega,JJ.out.1,JJ.out.2.1,JJ.out.2.2⟩⟩
    ·
     have hnx := fun ty => run_next_stop (P := Tryd.prog) ty k3 hk
     rw [show L.size - kk = 0 by omega] at k5
     unfold triS at k5
     obtain rfl := k5; have KE := Aside0.mk k4; clear k1 k2 k3 k4 hk; go_wp2
     go_ret2
     exact ⟨rfl,KE.out⟩
  · cases h

end Go.Proofs.YtcidlaabbkimdaaDoor.P

-- printed by xprint.py
namespace Go.Proofs.YtcidlaabbkimdaaDoor.P
open Go.RowKit Go.Proofs.YtcidlaabbkimdaaDoorW.PrintWords Go.Proofs.YtcidlaabbkimdaaDoorW.PrintLast Go.Proofs.YtcidlaabbkimdaaDoorW.PrintMore
attribute [local go_sem] max2_int min2_int max_two min_two max_three min_three max_four min_four   -- for this text's walks alone
set_option linter.unusedVariables false
set_option linter.unusedSimpArgs false

/-! ### laws_FnExactCountShown: function 4 -/
def laws_FnExactCountShown.f (k : Nat) (a0 : ByteArray) : Option (Bool) := if (a0.size : Int) > 1048576 then (some true) else ((spec_CountShown.f k a0).bind fun bt101 => ((impl_CountShown.f k a0).bind fun bt103 => (if bt103.1 = bt101.1 then (if (bt103.2 != bt101.2) = true then (some false) else (some true)) else (some false))))
theorem laws_FnExactCountShown.mono : ∀ y0 k,LeO (laws_FnExactCountShown.f k y0) (laws_FnExactCountShown.f (k + 1) y0) := by
 intro y0 k
 unfold laws_FnExactCountShown.f
 repeat' first
   | (with_reducible exact impl_CountShown.mono _ _)
   | (with_reducible exact spec_CountShown.mono _ _)
   | (with_reducible exact LeO.refl _)
   | (with_reducible exact LeO.none _)
   | (with_reducible refine LeO.ite ?_ ?_)
   | (with_reducible refine LeO.bind ?_ (fun _ => ?_))
   | exact impl_CountShown.mono _ _
   | exact spec_CountShown.mono _ _
   | exact LeO.none _
   | refine LeO.ite ?_ ?_
   | refine LeO.bind ?_ (fun _ => ?_)
set_option maxHeartbeats 8000000 in
set_option maxRecDepth 100000 in
theorem laws_FnExactCountShown.calls (k : Nat) (a0 : ByteArray) (r : Bool) (w : World) (h : laws_FnExactCountShown.f k a0 = some r) :
  Calls Tryd.prog 4 #[.string a0] w fun e w' => e = .returned (.bool r) ∧ Below w.heap.size w w' := by
 have HB := Aside0.mk (Below.refl w.heap.size w); have H : (if (a0.size : Int) > 1048576 then (some true) else ((spec_CountShown.f k a0).bind fun bt101 => ((impl_CountShown.f k a0).bind fun bt103 => (if bt103.1 = bt101.1 then (if (bt103.2 != bt101.2) = true then (some false) else (some true)) else (some false))))) = some r := h; clear h
 by_cases c2 : (a0.size : Int) > 1048576
 ·
  rw [if_pos c2] at H; have c2b0 : decide (1048576 < (a0.size : Int)) = true := decide_eq_true c2; have c2b1 : decide (1048576 < a0.size) = true := decide_eq_true (by omega); clear c2; obtain rfl := Option.some.inj H
  go_enter Tryd.func4,Tryd.ntmps4
  go_wp2
  go_ret
  exact ⟨by first | rfl | (simp [errW_none,errW_some] <;> rfl) | (simp [*,errW_none,errW_some] <;> rfl),by repeat (first | (with_reducible first | exact HB.out | apply below_alloc | apply pw_below_drewN | apply below_drew1) | exact HB.out)⟩
 ·
  rw [if_neg c2] at H; have c2b0 : decide (1048576 < (a0.size : Int)) = false := decide_eq_false c2; have c2b1 : decide (1048576 < a0.size) = false := decide_eq_false (by omega); clear c2; replace H := Option.bind_eq_some_iff.mp H; obtain ⟨⟨t101,t102⟩,A30,H⟩ := H; replace H : ((impl_CountShown.f k a0).bind fun bt103 => (if bt103.1 = t101 then (if (bt103.2 != t102) = true then (some false) else (some true)) else (some false))) = some r := H; have A3 := Aside0.mk A30; clear A30; replace H := Option.bind_eq_some_iff.mp H; obtain ⟨⟨t103,t104⟩,A40,H⟩ := H; replace H : (if t103 = t101 then (if (t104 != t102) = true then (some false) else (some true)) else (some false)) = some r := H; have A4 := Aside0.mk A40; clear A40
  by_cases c5 : t103 = t101
  ·
   rw [if_pos c5] at H; have c5b0 : (t103 == t101) = true := beq_iff_eq.mpr c5; have c5b1 : (t103 != t101) = false := bne_eq_false_iff_eq.mpr c5; clear c5
   by_cases c6 : (t104 != t102) = true
   ·
    rw [if_pos c6] at H; have c6b0 : (t104 != t102) = true := c6
    (try (have c6b1 : decide (t104 = t102) = false := by simpa using c6))
    (try (have c6b2 : (t104 == t102) = false := by simpa using c6))
    (try (have c6b3 : ¬ (t104 = t102) := by simpa using c6))
    clear c6; obtain rfl := Option.some.inj H
    go_enter Tryd.func4,Tryd.ntmps4
    go_wp2_with (first | ((with_reducible refine gate_callee (f := 12) rfl ?_); refine goesL_ (some 12) rfl rfl Tryd.func12 (by kernel_rfl) rfl #[.string a0] rfl (by (try simp only [List.map_toArray,List.map_cons,List.map_nil]); first | done | rfl | (simp only [List.length_drop,List.length_take]; rfl)) ?_; (with_reducible refine (spec_CountShown.calls k a0 t101 t102 _ A3.out).mono ?_); rintro e w7 ⟨rfl,hb⟩; refine ⟨_,rfl,?_⟩; have n0_ := Aside0.mk (below_step (by repeat (first | (with_reducible first | exact HB.out | apply below_alloc | apply pw_below_drewN | apply below_drew1) | exact HB.out)) hb); clear HB; have HB := n0_; clear n0_; (try clear hb); (try clear hb2); (try clear hk); (try clear hi)) | ((with_reducible refine gate_callee (f := 13) rfl ?_); refine goesL_ (some 17) rfl rfl Tryd.func13 (by kernel_rfl) rfl #[.string a0] rfl (by (try simp only [List.map_toArray,List.map_cons,List.map_nil]); first | done | rfl | (simp only [List.length_drop,List.length_take]; rfl)) ?_; (with_reducible refine (impl_CountShown.calls k a0 t103 t104 _ A4.out).mono ?_); rintro e w8 ⟨rfl,hb⟩; refine ⟨_,rfl,?_⟩; have n0_ := Aside0.mk (below_step (by repeat (first | (with_reducible first | exact HB.out | apply below_alloc | apply pw_below_drewN | apply below_drew1) | exact HB.out)) hb); clear HB; have HB := n0_; clear n0_; (try clear hb); (try clear hb2); (try clear hk); (try clear hi)))
    go_ret
    exact ⟨by first | rfl | (simp [errW_none,errW_some] <;> rfl) | (simp [*,errW_none,errW_some] <;> rfl),by repeat (first | (with_reducible first | exact HB.out | apply below_alloc | apply pw_below_drewN | apply below_drew1) | exact HB.out)⟩
   ·
    rw [if_neg c6] at H; have c6b0 : (t104 != t102) = false := by simpa using c6
    (try (have c6b1 : decide (t104 = t102) = true := by simpa using c6))
    (try (have c6b2 : (t104 == t102) = true := by simpa using c6))
    clear c6; obtain rfl := Option.some.inj H
    go_enter Tryd.func4,Tryd.ntmps4
    go_wp2_with (first | ((with_reducible refine gate_callee (f := 12) rfl ?_); refine goesL_ (some 12) rfl rfl Tryd.func12 (by kernel_rfl) rfl #[.string a0] rfl (by (try simp only [List.map_toArray,List.map_cons,List.map_nil]); first | done | rfl | (simp only [List.length_drop,List.length_take]; rfl)) ?_; (with_reducible refine (spec_CountShown.calls k a0 t101 t102 _ A3.out).mono ?_); rintro e w9 ⟨rfl,hb⟩; refine ⟨_,rfl,?_⟩; have n0_ := Aside0.mk (below_step (by repeat (first | (with_reducible first | exact HB.out | apply below_alloc | apply pw_below_drewN | apply below_drew1) | exact HB.out)) hb); clear HB; have HB := n0_; clear n0_; (try clear hb); (try clear hb2); (try clear hk); (try clear hi)) | ((with_reducible refine gate_callee (f := 13) rfl ?_); refine goesL_ (some 17) rfl rfl Tryd.func13 (by kernel_rfl) rfl #[.string a0] rfl (by (try simp only [List.map_toArray,List.map_cons,List.map_nil]); first | done | rfl | (simp only [List.length_drop,List.length_take]; rfl)) ?_; (with_reducible refine (impl_CountShown.calls k a0 t103 t104 _ A4.out).mono ?_); rintro e w10 ⟨rfl,hb⟩; refine ⟨_,rfl,?_⟩; have n0_ := Aside0.mk (below_step (by repeat (first | (with_reducible first | exact HB.out | apply below_alloc | apply pw_below_drewN | apply below_drew1) | exact HB.out)) hb); clear HB; have HB := n0_; clear n0_; (try clear hb); (try clear hb2); (try clear hk); (try clear hi)))
    go_ret
    exact ⟨by first | rfl | (simp [errW_none,errW_some] <;> rfl) | (simp [*,errW_none,errW_some] <;> rfl),by repeat (first | (with_reducible first | exact HB.out | apply below_alloc | apply pw_below_drewN | apply below_drew1) | exact HB.out)⟩
  ·
   rw [if_neg c5] at H; have c5b0 : (t103 == t101) = false := beq_eq_false_iff_ne.mpr c5; have c5b1 : (t103 != t101) = true := bne_iff_ne.mpr c5; obtain rfl := Option.some.inj H
   go_enter Tryd.func4,Tryd.ntmps4
   go_wp2_with (first | ((with_reducible refine gate_callee (f := 12) rfl ?_); refine goesL_ (some 12) rfl rfl Tryd.func12 (by kernel_rfl) rfl #[.string a0] rfl (by (try simp only [List.map_toArray,List.map_cons,List.map_nil]); first | done | rfl | (simp only [List.length_drop,List.length_take]; rfl)) ?_; (with_reducible refine (spec_CountShown.calls k a0 t101 t102 _ A3.out).mono ?_); rintro e w11 ⟨rfl,hb⟩; refine ⟨_,rfl,?_⟩; have n0_ := Aside0.mk (below_step (by repeat (first | (with_reducible first | exact HB.out | apply below_alloc | apply pw_below_drewN | apply below_drew1) | exact HB.out)) hb); clear HB; have HB := n0_; clear n0_; (try clear hb); (try clear hb2); (try clear hk); (try clear hi)) | ((with_reducible refine gate_callee (f := 13) rfl ?_); refine goesL_ (some 17) rfl rfl Tryd.func13 (by kernel_rfl) rfl #[.string a0] rfl (by (try simp only [List.map_toArray,List.map_cons,List.map_nil]); first | done | rfl | (simp only [List.length_drop,List.length_take]; rfl)) ?_; (with_reducible refine (impl_CountShown.calls k a0 t103 t104 _ A4.out).mono ?_); rintro e w12 ⟨rfl,hb⟩; refine ⟨_,rfl,?_⟩; have n0_ := Aside0.mk (below_step (by repeat (first | (with_reducible first | exact HB.out | apply below_alloc | apply pw_below_drewN | apply below_drew1) | exact HB.out)) hb); clear HB; have HB := n0_; clear n0_; (try clear hb); (try clear hb2); (try clear hk); (try clear hi)))
   go_ret
   exact ⟨by first | rfl | (simp [errW_none,errW_some] <;> rfl) | (simp [*,errW_none,errW_some] <;> rfl),by repeat (first | (with_reducible first | exact HB.out | apply below_alloc | apply pw_below_drewN | apply below_drew1) | exact HB.out)⟩

end Go.Proofs.YtcidlaabbkimdaaDoor.P

namespace Go.Proofs.YtcidlaabbkimdaaDoor
open Go.RowKit Go.Proofs.YtcidlaabbkimdaaDoor.P Go.Proofs.YtcidlaabbkimdaaDoorW.PrintWords Go.Proofs.YtcidlaabbkimdaaDoorW.PrintLast
/-- The pure statement of FnExactCountShown. -/
def PureFnExactCountShown : Prop := ∀ (a0 : ByteArray), a0.size ≤ 9223372036854775807 →  ∃ k, laws_FnExactCountShown.f k a0 = some true
end Go.Proofs.YtcidlaabbkimdaaDoor

namespace Go.Proofs.YtcidlaabbkimdaaDoor
open Go.RowKit Go.Proofs.YtcidlaabbkimdaaDoorW.PrintWords
/-! Plain words for the pure statements: answers that stand from some number of rounds on. -/
theorem Ev.succ {α : Type} {g : Nat → Option α} {r : α} (h : Ev (fun k => g (k + 1)) r) : Ev g r := Ev.step (fun _ => rfl) h
theorem Ev.const {α : Type} {a : Option α} {r : α} (h : a = some r) : Ev (fun _ => a) r := ⟨0, fun _ _ => h⟩
theorem Ev.pos {α : Type} {c : Prop} [Decidable c] {g f : Nat → Option α} {r : α} (hc : c) (h : Ev g r) : Ev (fun k => if c then g k else f k) r := by simp only [if_pos hc]; exact h
theorem Ev.neg {α : Type} {c : Prop} [Decidable c] {g f : Nat → Option α} {r : α} (hc : ¬ c) (h : Ev f r) : Ev (fun k => if c then g k else f k) r := by simp only [if_neg hc]; exact h
theorem Ev.yes {α : Type} {c : Prop} [Decidable c] {g f : Nat → Option α} {r : α} (h : Ev g r) (hc : c := by first | omega | rfl | trivial | decide | simp | (simp; omega)) : Ev (fun k => if c then g k else f k) r := Ev.pos hc h
theorem Ev.no {α : Type} {c : Prop} [Decidable c] {g f : Nat → Option α} {r : α} (h : Ev f r) (hc : ¬ c := by first | omega | decide | simp | (simp; omega)) : Ev (fun k => if c then g k else f k) r := Ev.neg hc h
theorem Ev.bindc {α β : Type} {a : Option α} {x : α} {f : Nat → α → Option β} {r : β} (h : a = some x) (k : Ev (fun n => f n x) r) : Ev (fun n => a.bind (f n)) r := by subst h; exact k
theorem wrap_id {n : Int} (h1 : -9223372036854775808 ≤ n) (h2 : n ≤ 9223372036854775807) : wrap64 n = n := IntWalk.wrap64_in n ⟨h1, h2⟩
theorem wf_i64 {n : Int} (h : (Lit.int .i64 n).wf = true) : -9223372036854775808 ≤ n ∧ n ≤ 9223372036854775807 := by
  have e1 : IntKind.i64.min = -9223372036854775808 := rfl
  have e2 : IntKind.i64.max = 9223372036854775807 := rfl
  simp only [Lit.wf, e1, e2, Bool.and_eq_true, decide_eq_true_eq] at h
  exact h
theorem rd_nat (l : List Int) (j : Nat) (h : j < l.length) : rd l (j : Int) = l[j] := by unfold rd; simp [List.getD, h]
end Go.Proofs.YtcidlaabbkimdaaDoor

namespace Go.Proofs.YtcidlaabbkimdaaDoor
open Go.RowKit Go.Proofs.YtcidlaabbkimdaaDoorW.PrintWords
set_option linter.unusedSimpArgs false
set_option linter.unusedVariables false
/-! Strings as lists of bytes. -/
/-- A string's bytes. -/
def bl (s : ByteArray) : List UInt8 := s.data.toList
theorem bl_len (s : ByteArray) : s.size = (bl s).length := rfl
theorem bl_inj {s t : ByteArray} (h : bl s = bl t) : s = t := ByteArray.ext (Array.toList_inj.1 h)
theorem bl_toList (s : ByteArray) : s.toList = bl s := Go.ByteArray.toList_eq s
theorem bl_mk (a : Array UInt8) : bl ⟨a⟩ = a.toList := rfl
theorem mk_bl (s : ByteArray) : (⟨(bl s).toArray⟩ : ByteArray) = s := bl_inj (by simp [bl])
theorem bl_extract (s : ByteArray) (i j : Nat) : bl (s.extract i j) = ((bl s).drop i).take (j - i) := by simp [bl, ByteArray.data_extract]
theorem bl_append (s t : ByteArray) : bl (s ++ t) = bl s ++ bl t := by simp [bl, ByteArray.data_append]
theorem bl_nums (l : List Int) : bl (strOfNums l) = l.map fun n => UInt8.ofNat n.toNat := rfl
theorem bl_empty : bl (⟨#[]⟩ : ByteArray) = [] := rfl
theorem bt_nat (s : ByteArray) (i : Nat) (h : i < (bl s).length) : bt s (i : Int) = ((bl s)[i].toNat : Int) := by
  unfold bt
  have h' : ((i : Int)).toNat < s.size := by rw [Int.toNat_natCast]; exact h
  rw [dif_pos h']; rfl
theorem of_toNat (c : UInt8) : UInt8.ofNat ((c.toNat : Int)).toNat = c := by rw [Int.toNat_natCast]; simp
theorem bt_of (s : ByteArray) (i : Nat) (h : i < (bl s).length) : UInt8.ofNat (bt s (i : Int)).toNat = (bl s)[i] := by rw [bt_nat s i h]; exact of_toNat _
theorem byte_eq (c d : UInt8) : ((c.toNat : Int) = (d.toNat : Int)) ↔ c = d := by
  constructor
  · intro h; exact UInt8.toNat_inj.1 (by exact_mod_cast h)
  · intro h; rw [h]
theorem byte_lt (c d : UInt8) : ((c.toNat : Int) < (d.toNat : Int)) ↔ c < d := by rw [UInt8.lt_iff_toNat_lt]; omega
theorem byte_le (c d : UInt8) : ((c.toNat : Int) ≤ (d.toNat : Int)) ↔ c ≤ d := by rw [UInt8.le_iff_toNat_le]; omega
theorem dropWhile_nil {α : Type} (p : α → Bool) : ∀ l : List α, l.dropWhile p = [] ↔ l.all p = true
  | [] => by simp
  | x :: xs => by
    by_cases h : p x = true
    · simp [List.dropWhile_cons, h, dropWhile_nil p xs]
    · simp [List.dropWhile_cons, h]
theorem dropWhile_keeps {α : Type} (p : α → Bool) : ∀ l : List α, (l.dropWhile p).all p = l.all p
  | [] => rfl
  | x :: xs => by
    by_cases h : p x = true
    · simp only [List.dropWhile_cons, h, if_true, List.all_cons, Bool.true_and]; exact dropWhile_keeps p xs
    · simp [List.dropWhile_cons, h]
theorem trimS_nil (l cs : List UInt8) : Lib.trimS l cs = [] ↔ l.all (cs.contains ·) = true := by
  unfold Lib.trimS Lib.trimLeftS Lib.trimRightS
  rw [dropWhile_nil, List.all_reverse, dropWhile_keeps, List.all_reverse]
theorem indexByte_neg (l : List UInt8) (c : UInt8) : Lib.indexByte l c < 0 ↔ ¬ c ∈ l := by
  induction l with
  | nil => simp [Lib.indexByte]
  | cons b l ih =>
    have hge := Lib.indexByte_ge l c
    unfold Lib.indexByte
    by_cases h : b = c
    · subst h; simp
    · have h1 : (b == c) = false := by simpa using h
      rw [h1]
      have h2 : ¬ c = b := fun e => h e.symm
      simp only [Bool.false_eq_true, if_false, List.mem_cons, h2, false_or]
      by_cases e : Lib.indexByte l c = -1
      · simp only [e, beq_self_eq_true, if_true]
        have := ih.1 (by omega)
        simp [this]
      · have e' : (Lib.indexByte l c == -1) = false := by simpa using e
        rw [e']
        simp only [Bool.false_eq_true, if_false]
        have hp : ¬ Lib.indexByte l c < 0 := by omega
        have := mt ih.2 hp
        constructor
        · intro h3; omega
        · intro h3; exact absurd h3 this
/-- The letters. -/
def isLow (c : UInt8) : Bool := decide (97 ≤ c.toNat) && decide (c.toNat ≤ 122)
theorem u8_all (P : UInt8 → Prop) [DecidablePred P] (h : ∀ n, n < 256 → P (UInt8.ofNat n)) (c : UInt8) : P c := by
  have := h c.toNat c.toNat_lt
  rwa [show UInt8.ofNat c.toNat = c from by simp] at this
theorem low_contains (c : UInt8) : ([97, 98, 99, 100, 101, 102, 103, 104, 105, 106, 107, 108, 109, 110, 111, 112, 113, 114, 115, 116, 117, 118, 119, 120, 121, 122] : List UInt8).contains c = isLow c := by
  refine u8_all (fun c => _ = isLow c) ?_ c
  decide +kernel
theorem dig_contains (c : UInt8) : ([48, 49, 50, 51, 52, 53, 54, 55, 56, 57] : List UInt8).contains c = (decide (48 ≤ c.toNat) && decide (c.toNat ≤ 57)) := by
  refine u8_all (fun c => _ = (decide (48 ≤ c.toNat) && decide (c.toNat ≤ 57))) ?_ c
  decide +kernel
end Go.Proofs.YtcidlaabbkimdaaDoor

namespace Go.Proofs.YtcidlaabbkimdaaDoor
open Go.RowKit Go.Proofs.YtcidlaabbkimdaaDoor.P Go.Proofs.YtcidlaabbkimdaaDoorW.PrintWords
open Go.Sort (swp ltInt insInner insOuter insertionSort siftDown heapBuild heapPop heapSort reverseLoop reverseRange)
set_option linter.unusedSimpArgs false
set_option linter.unusedVariables false
/-! The byte sort's functions compute the library's plain ones (Derived.Sort.Defs), over the row as an array. -/
theorem rdA (d : Array Int) (i : Nat) : rd d.toList (i : Int) = d[i]! := by
  unfold rd
  rw [Int.toNat_natCast, List.getD_eq_getElem?_getD, Array.getElem?_toList, getElem!_def]
  cases d[i]? <;> rfl
theorem swpA (d : Array Int) (i j : Nat) : ((d.toList.set i (rd d.toList (j : Int))).set j (rd d.toList (i : Int))) = (swp d i j).toList := by
  rw [rdA, rdA]
  unfold swp
  simp
theorem lenA (d : Array Int) : d.toList.length = d.size := by simp
theorem lessA (x y : Int) : cmp_Less_byte.f x y = some (ltInt x y) := by
  unfold cmp_Less_byte.f cmp_isNaN_byte.f ltInt
  simp
theorem sizeA (d : Array Int) (i j : Nat) : (swp d i j).size = d.size := Sort.size_swp d i j
/-! ### the insertion sort -/
theorem insInner_size (a : Nat) : ∀ (j : Nat) (d : Array Int), (insInner ltInt a j d).size = d.size
  | 0, d => rfl
  | j + 1, d => by
    unfold insInner
    split
    · rw [insInner_size a j, sizeA]
    · rfl
theorem insA_l1 (a b i : Nat) (R : List Int) (hi : i ≤ 1000000) : ∀ (j : Nat) (d : Array Int), j < d.size → d.size ≤ 1000000 → Ev (fun k => slices_insertionSortOrdered_byte.l0 k (insInner ltInt a j d).toList (a : Int) (b : Int) ((i + 1 : Nat) : Int)) R → Ev (fun k => slices_insertionSortOrdered_byte.l1 k d.toList (a : Int) (b : Int) (i : Int) (j : Int)) R
  | 0, d, hj, hd, h => by
    have ei : wrap64 ((i : Int) + 1) = ((i + 1 : Nat) : Int) := by rw [wrap_id (by omega) (by omega)]; omega
    apply Ev.succ; simp only [slices_insertionSortOrdered_byte.l1, ei]
    exact Ev.neg (by omega) h
  | j + 1, d, hj, hd, h => by
    have ei : wrap64 ((i : Int) + 1) = ((i + 1 : Nat) : Int) := by rw [wrap_id (by omega) (by omega)]; omega
    have ej : wrap64 (((j + 1 : Nat) : Int) - 1) = (j : Int) := by rw [wrap_id (by omega) (by omega)]; omega
    unfold insInner at h
    apply Ev.succ; simp only [slices_insertionSortOrdered_byte.l1, ei, ej, lessA, Int.toNat_natCast, swpA, lenA]
    by_cases c1 : j + 1 > a
    · refine Ev.pos (by omega) (Ev.pos (by omega) (Ev.pos (by omega) (Ev.pos (by omega) (Ev.pos (by omega) (Ev.bindc rfl ?_)))))
      rw [rdA, rdA]
      by_cases c2 : ltInt d[j + 1]! d[j]! = true
      · rw [c2] at h ⊢
        rw [decide_eq_true c1, Bool.true_and, if_pos rfl] at h
        exact Ev.pos rfl (insA_l1 a b i R hi j (swp d (j + 1) j) (by rw [sizeA]; omega) (by rw [sizeA]; exact hd) h)
      · rw [Bool.not_eq_true] at c2
        rw [c2] at h ⊢
        rw [Bool.and_false, if_neg (by decide)] at h
        exact Ev.neg (by decide) h
    · rw [decide_eq_false c1, Bool.false_and, if_neg (by decide)] at h
      exact Ev.neg (by omega) h
theorem insA_l0 (a b : Nat) : ∀ (n i : Nat) (d : Array Int), b - i ≤ n → b ≤ d.size → d.size ≤ 1000000 → i ≤ 1000000 → Ev (fun k => slices_insertionSortOrdered_byte.l0 k d.toList (a : Int) (b : Int) (i : Int)) (insOuter ltInt a b i d).toList
  | 0, i, d, hn, hb, hd, hi => by
    unfold insOuter
    rw [if_neg (by omega)]
    apply Ev.succ; simp only [slices_insertionSortOrdered_byte.l0]
    exact Ev.neg (by omega) (Ev.now _)
  | n + 1, i, d, hn, hb, hd, hi => by
    unfold insOuter
    apply Ev.succ; simp only [slices_insertionSortOrdered_byte.l0]
    by_cases c : i < b
    · rw [if_pos c]
      exact Ev.pos (by omega) (insA_l1 a b i _ hi i d (by omega) hd (insA_l0 a b n (i + 1) _ (by omega) (by rw [insInner_size]; exact hb) (by rw [insInner_size]; exact hd) (by omega)))
    · rw [if_neg c]
      exact Ev.neg (by omega) (Ev.now _)
theorem insA_ev (d : Array Int) (a b : Nat) (hb : b ≤ d.size) (ha : a ≤ b) (hd : d.size ≤ 100000) : Ev (fun k => slices_insertionSortOrdered_byte.f k d.toList (a : Int) (b : Int)) (insertionSort ltInt d a b).toList := by
  unfold slices_insertionSortOrdered_byte.f insertionSort
  rw [show wrap64 ((a : Int) + 1) = ((a + 1 : Nat) : Int) by rw [wrap_id (by omega) (by omega)]; omega]
  exact insA_l0 a b b (a + 1) d (by omega) hb (by omega) (by omega)
/-! ### the row turned round -/
theorem revA_l0 : ∀ (n i j : Nat) (d : Array Int), j - i ≤ n → j < d.size → d.size ≤ 1000000 → Ev (fun k => slices_reverseRangeOrdered_byte.l0 k d.toList (i : Int) (j : Int)) (reverseLoop i j d).toList
  | 0, i, j, d, hn, hj, hd => by
    unfold reverseLoop
    rw [if_neg (by omega)]
    apply Ev.succ; simp only [slices_reverseRangeOrdered_byte.l0]
    exact Ev.neg (by omega) (Ev.now _)
  | n + 1, i, j, d, hn, hj, hd => by
    unfold reverseLoop
    apply Ev.succ; simp only [slices_reverseRangeOrdered_byte.l0, Int.toNat_natCast, swpA, lenA]
    by_cases c : i < j
    · rw [if_pos c]
      rw [show wrap64 ((i : Int) + 1) = ((i + 1 : Nat) : Int) by rw [wrap_id (by omega) (by omega)]; omega, show wrap64 ((j : Int) - 1) = ((j - 1 : Nat) : Int) by rw [wrap_id (by omega) (by omega)]; omega]
      exact Ev.pos (by omega) (Ev.pos (by omega) (Ev.pos (by omega) (Ev.pos (by omega) (Ev.pos (by omega) (revA_l0 n (i + 1) (j - 1) (swp d i j) (by omega) (by rw [sizeA]; omega) (by rw [sizeA]; exact hd))))))
    · rw [if_neg c]
      exact Ev.neg (by omega) (Ev.now _)
theorem revA_ev (d : Array Int) (a b : Nat) (hb : b ≤ d.size) (ha : a < b) (hd : d.size ≤ 100000) : Ev (fun k => slices_reverseRangeOrdered_byte.f k d.toList (a : Int) (b : Int)) (reverseRange d a b).toList := by
  unfold slices_reverseRangeOrdered_byte.f reverseRange
  rw [show wrap64 ((b : Int) - 1) = ((b - 1 : Nat) : Int) by rw [wrap_id (by omega) (by omega)]; omega]
  exact revA_l0 b a (b - 1) d (by omega) (by omega) (by omega)
end Go.Proofs.YtcidlaabbkimdaaDoor

namespace Go.Proofs.YtcidlaabbkimdaaDoor
open Go.RowKit Go.Proofs.YtcidlaabbkimdaaDoor.P Go.Proofs.YtcidlaabbkimdaaDoorW.PrintWords
open Go.Sort (swp ltInt siftDown heapBuild heapPop heapSort)
set_option linter.unusedSimpArgs false
set_option linter.unusedVariables false
/-! ### the heap sort -/
theorem wN (x : Int) (n : Nat) (h : x = (n : Int)) (hn : n ≤ 10000000) : wrap64 x = (n : Int) := by rw [wrap_id (by omega) (by omega), h]
theorem sift_size (hi first : Nat) : ∀ (n root : Nat) (d : Array Int), hi - root ≤ n → (siftDown ltInt hi first root d).size = d.size
  | 0, root, d, hn => by unfold siftDown; rw [dif_pos (by omega)]
  | n + 1, root, d, hn => by
    unfold siftDown
    by_cases c : 2 * root + 1 ≥ hi
    · rw [dif_pos c]
    · rw [dif_neg c]
      split
      · split
        · rfl
        · split
          · rw [sift_size hi first n _ _ (by omega), sizeA]
          · rfl
      · split
        · rfl
        · rw [sift_size hi first n _ _ (by omega), sizeA]
theorem sift_stop (hi first root : Nat) (d : Array Int) (c : 2 * root + 1 ≥ hi) : siftDown ltInt hi first root d = d := by
  conv => lhs; unfold siftDown
  rw [dif_pos c]
theorem sift_l (hi first root : Nat) (d : Array Int) (c : ¬ 2 * root + 1 ≥ hi) (q : (decide (2 * root + 1 + 1 < hi) && ltInt d[first + (2 * root + 1)]! d[first + (2 * root + 1) + 1]!) = false) :
    siftDown ltInt hi first root d = if (!ltInt d[first + root]! d[first + (2 * root + 1)]!) = true then d else siftDown ltInt hi first (2 * root + 1) (swp d (first + root) (first + (2 * root + 1))) := by
  conv => lhs; unfold siftDown
  rw [dif_neg c, q, if_neg (by decide)]
theorem sift_r (hi first root : Nat) (d : Array Int) (c : ¬ 2 * root + 1 ≥ hi) (q : (decide (2 * root + 1 + 1 < hi) && ltInt d[first + (2 * root + 1)]! d[first + (2 * root + 1) + 1]!) = true) (h2 : 2 * root + 2 < hi) :
    siftDown ltInt hi first root d = if (!ltInt d[first + root]! d[first + (2 * root + 2)]!) = true then d else siftDown ltInt hi first (2 * root + 2) (swp d (first + root) (first + (2 * root + 2))) := by
  conv => lhs; unfold siftDown
  rw [dif_neg c, q, if_pos rfl, dif_pos h2]
/-- The sums that a round reckons. -/
theorem siftE (first root : Nat) (hf : first ≤ 100000) (hr : root ≤ 100000) : wrap64 (2 * (root : Int)) = ((2 * root : Nat) : Int) ∧ wrap64 (((2 * root : Nat) : Int) + 1) = ((2 * root + 1 : Nat) : Int) ∧ wrap64 (((2 * root + 1 : Nat) : Int) + 1) = ((2 * root + 2 : Nat) : Int) ∧
    wrap64 ((first : Int) + ((2 * root + 1 : Nat) : Int)) = ((first + (2 * root + 1) : Nat) : Int) ∧ wrap64 (((first + (2 * root + 1) : Nat) : Int) + 1) = ((first + (2 * root + 1) + 1 : Nat) : Int) ∧ wrap64 ((first : Int) + (root : Int)) = ((first + root : Nat) : Int) ∧ wrap64 ((first : Int) + ((2 * root + 2 : Nat) : Int)) = ((first + (2 * root + 2) : Nat) : Int) :=
  ⟨wN _ _ (by push_cast; rfl) (by omega), wN _ _ (by push_cast; rfl) (by omega), wN _ _ (by push_cast; rfl) (by omega), wN _ _ (by push_cast; rfl) (by omega), wN _ _ (by push_cast; rfl) (by omega), wN _ _ (by push_cast; rfl) (by omega), wN _ _ (by push_cast; rfl) (by omega)⟩
theorem siftA_l0 (hi first : Nat) (hh : hi ≤ 100000) (hf : first ≤ 100000) : ∀ (n root : Nat) (d : Array Int), hi - root ≤ n → root ≤ 100000 → first + hi ≤ d.size → d.size ≤ 100000 → ∀ S, siftDown ltInt hi first root d = S → Ev (fun k => slices_siftDownOrdered_byte.l0 k d.toList (hi : Int) (first : Int) (root : Int)) S.toList
  | 0, root, d, hn, hr, hs, hd, S, hS => by
    rw [sift_stop _ _ _ _ (by omega)] at hS
    subst hS
    apply Ev.succ; obtain ⟨e1, e2, -⟩ := siftE first root hf hr; simp only [slices_siftDownOrdered_byte.l0, e1, e2]; clear e1 e2
    exact Ev.pos (by omega) (Ev.now _)
  | n + 1, root, d, hn, hr, hs, hd, S, hS => by
    by_cases c : 2 * root + 1 ≥ hi
    · rw [sift_stop _ _ _ _ c] at hS
      subst hS
      apply Ev.succ; obtain ⟨e1, e2, -⟩ := siftE first root hf hr; simp only [slices_siftDownOrdered_byte.l0, e1, e2]; clear e1 e2
      exact Ev.pos (by omega) (Ev.now _)
    · have jF : S = (if (!ltInt d[first + root]! d[first + (2 * root + 1)]!) = true then d else siftDown ltInt hi first (2 * root + 1) (swp d (first + root) (first + (2 * root + 1)))) → Ev (fun k => slices_siftDownOrdered_byte.j1 k d.toList (hi : Int) (first : Int) (root : Int) ((2 * root + 1 : Nat) : Int) false) S.toList := by
        intro hR
        apply Ev.succ; obtain ⟨e1, e2, e3, e4, e5, e6, e7⟩ := siftE first root hf hr; simp only [slices_siftDownOrdered_byte.j1, e3, e4, e6, e7, lessA, Int.toNat_natCast, swpA, lenA]; clear e1 e2 e3 e4 e5 e6 e7 hS
        refine Ev.no (Ev.pos (by omega) (Ev.pos (by omega) (Ev.pos (by omega) (Ev.pos (by omega) (Ev.bindc rfl ?_)))))
        rw [rdA, rdA]
        cases q : ltInt d[first + root]! d[first + (2 * root + 1)]! with
        | false => rw [q] at hR; simp only [Bool.not_false, if_true] at hR; subst hR; exact Ev.no (Ev.now _)
        | true => rw [q] at hR; simp only [Bool.not_true, Bool.false_eq_true, if_false] at hR; exact Ev.yes (siftA_l0 hi first hh hf n (2 * root + 1) _ (by omega) (by omega) (by rw [sizeA]; exact hs) (by rw [sizeA]; exact hd) S hR.symm)
      have jT : 2 * root + 2 < hi → S = (if (!ltInt d[first + root]! d[first + (2 * root + 2)]!) = true then d else siftDown ltInt hi first (2 * root + 2) (swp d (first + root) (first + (2 * root + 2)))) → Ev (fun k => slices_siftDownOrdered_byte.j1 k d.toList (hi : Int) (first : Int) (root : Int) ((2 * root + 1 : Nat) : Int) true) S.toList := by
        intro h2 hR
        apply Ev.succ; obtain ⟨e1, e2, e3, e4, e5, e6, e7⟩ := siftE first root hf hr; simp only [slices_siftDownOrdered_byte.j1, e3, e4, e6, e7, lessA, Int.toNat_natCast, swpA, lenA]; clear e1 e2 e3 e4 e5 e6 e7 hS
        refine Ev.yes (Ev.pos (by omega) (Ev.pos (by omega) (Ev.pos (by omega) (Ev.pos (by omega) (Ev.bindc rfl ?_)))))
        rw [rdA, rdA]
        cases q : ltInt d[first + root]! d[first + (2 * root + 2)]! with
        | false => rw [q] at hR; simp only [Bool.not_false, if_true] at hR; subst hR; exact Ev.no (Ev.now _)
        | true => rw [q] at hR; simp only [Bool.not_true, Bool.false_eq_true, if_false] at hR; exact Ev.yes (siftA_l0 hi first hh hf n (2 * root + 2) _ (by omega) (by omega) (by rw [sizeA]; exact hs) (by rw [sizeA]; exact hd) S hR.symm)
      apply Ev.succ; obtain ⟨e1, e2, e3, e4, e5, e6, e7⟩ := siftE first root hf hr; simp only [slices_siftDownOrdered_byte.l0, e1, e2, e3, e4, e5, lessA, lenA]; clear e1 e2 e3 e4 e5 e6 e7
      refine Ev.neg (by omega) ?_
      by_cases c2 : 2 * root + 1 + 1 < hi
      · refine Ev.pos (by omega) (Ev.pos (by omega) (Ev.pos (by omega) (Ev.pos (by omega) (Ev.pos (by omega) (Ev.bindc rfl ?_)))))
        rw [rdA, rdA]
        cases q : ltInt d[first + (2 * root + 1)]! d[first + (2 * root + 1) + 1]! with
        | false => rw [sift_l _ _ _ _ c (by rw [q, Bool.and_false])] at hS; exact jF hS.symm
        | true => rw [sift_r _ _ _ _ c (by rw [q, decide_eq_true c2]; rfl) (by omega)] at hS; exact jT (by omega) hS.symm
      · rw [sift_l _ _ _ _ c (by rw [decide_eq_false c2, Bool.false_and])] at hS
        exact Ev.neg (by omega) (jF hS.symm)
theorem siftA_f (d : Array Int) (lo hi first : Nat) (hh : hi ≤ 100000) (hf : first ≤ 100000) (hr : lo ≤ 100000) (hs : first + hi ≤ d.size) (hd : d.size ≤ 100000) : Ev (fun k => slices_siftDownOrdered_byte.f k d.toList (lo : Int) (hi : Int) (first : Int)) (siftDown ltInt hi first lo d).toList := by
  unfold slices_siftDownOrdered_byte.f
  exact siftA_l0 hi first hh hf hi lo d (by omega) hr hs hd _ rfl
theorem build_size (hi first : Nat) : ∀ (m : Nat) (d : Array Int), (heapBuild ltInt hi first m d).size = d.size
  | 0, d => rfl
  | m + 1, d => by unfold heapBuild; rw [build_size hi first m, sift_size hi first hi m d (by omega)]
theorem popA_l1 (lo : Nat) : ∀ (m : Nat) (d : Array Int), lo + m ≤ d.size → d.size ≤ 100000 → Ev (fun k => slices_heapSortOrdered_byte.l1 k d.toList (lo : Int) 0 ((m : Int) - 1)) (heapPop ltInt lo m d).toList
  | 0, d, hs, hd => by
    apply Ev.succ; simp only [slices_heapSortOrdered_byte.l1]
    exact Ev.neg (by omega) (Ev.now _)
  | m + 1, d, hs, hd => by
    have h1 := siftA_f (swp d lo (lo + m)) 0 m lo (by omega) (by omega) (by omega) (by rw [sizeA]; omega) (by rw [sizeA]; exact hd)
    have h2 := popA_l1 lo m (siftDown ltInt m lo 0 (swp d lo (lo + m))) (by rw [sift_size m lo m 0 _ (by omega), sizeA]; omega) (by rw [sift_size m lo m 0 _ (by omega), sizeA]; omega)
    have e1 : (((m + 1 : Nat) : Int) - 1) = (m : Int) := by omega
    have e2 : wrap64 ((lo : Int) + (m : Int)) = ((lo + m : Nat) : Int) := wN _ _ (by push_cast; rfl) (by omega)
    have e3 : wrap64 ((m : Int) - 1) = (m : Int) - 1 := wrap_id (by omega) (by omega)
    apply Ev.succ; simp only [slices_heapSortOrdered_byte.l1, e1, e2, e3, Int.toNat_natCast, swpA, lenA]; clear e1 e2 e3
    refine Ev.pos (by omega) (Ev.pos (by omega) (Ev.pos (by omega) (Ev.pos (by omega) (Ev.pos (by omega) (Ev.bind h1 ?_)))))
    exact h2
theorem buildA_l0 (lo hi : Nat) (R : List Int) (hlo : lo ≤ 100000) (hh : hi ≤ 100000) : ∀ (m : Nat) (d : Array Int), m ≤ hi + 1 → lo + hi ≤ d.size → d.size ≤ 100000 → Ev (fun k => slices_heapSortOrdered_byte.l1 k (heapBuild ltInt hi lo m d).toList (lo : Int) 0 ((hi : Int) - 1)) R → Ev (fun k => slices_heapSortOrdered_byte.l0 k d.toList (lo : Int) 0 (hi : Int) ((m : Int) - 1)) R
  | 0, d, hm, hs, hd, h => by
    have e3 : wrap64 ((hi : Int) - 1) = (hi : Int) - 1 := wrap_id (by omega) (by omega)
    apply Ev.succ; simp only [slices_heapSortOrdered_byte.l0, e3]; clear e3
    exact Ev.neg (by omega) h
  | m + 1, d, hm, hs, hd, h => by
    have h1 := siftA_f d m hi lo hh hlo (by omega) hs hd
    have h2 := buildA_l0 lo hi R hlo hh m (siftDown ltInt hi lo m d) (by omega) (by rw [sift_size hi lo hi m _ (by omega)]; exact hs) (by rw [sift_size hi lo hi m _ (by omega)]; exact hd) h
    have e1 : (((m + 1 : Nat) : Int) - 1) = (m : Int) := by omega
    have e3 : wrap64 ((m : Int) - 1) = (m : Int) - 1 := wrap_id (by omega) (by omega)
    apply Ev.succ; simp only [slices_heapSortOrdered_byte.l0, e1, e3]; clear e1 e3
    exact Ev.pos (by omega) (Ev.bind h1 h2)
theorem heapA_ev (d : Array Int) (a b : Nat) (hb : b ≤ d.size) (ha : a < b) (hd : d.size ≤ 100000) : Ev (fun k => slices_heapSortOrdered_byte.f k d.toList (a : Int) (b : Int)) (heapSort ltInt d a b).toList := by
  unfold slices_heapSortOrdered_byte.f heapSort
  have e1 : wrap64 ((b : Int) - (a : Int)) = ((b - a : Nat) : Int) := wN _ _ (by omega) (by omega)
  have e2 : wrap64 (((b - a : Nat) : Int) - 1) = ((b - a - 1 : Nat) : Int) := wN _ _ (by omega) (by omega)
  have e3 : wrap64 (Int.tdiv ((b - a - 1 : Nat) : Int) 2) = (((b - a - 1) / 2 + 1 : Nat) : Int) - 1 := by
    rw [show (((b - a - 1) / 2 + 1 : Nat) : Int) - 1 = (((b - a - 1) / 2 : Nat) : Int) by omega]
    exact wN _ _ (by rw [Int.tdiv_eq_ediv_of_nonneg (by omega)]; omega) (by omega)
  rw [e1, e2, e3]; clear e1 e2 e3
  exact buildA_l0 a (b - a) _ (by omega) (by omega) _ d (by omega) (by omega) hd (popA_l1 a (b - a) _ (by rw [build_size]; omega) (by rw [build_size]; exact hd))
end Go.Proofs.YtcidlaabbkimdaaDoor

namespace Go.Proofs.YtcidlaabbkimdaaDoor
open Go.RowKit Go.Proofs.YtcidlaabbkimdaaDoor.P Go.Proofs.YtcidlaabbkimdaaDoorW.PrintWords
open Go.Sort (swp ltInt scanUp scanDown partLoop partition partEqLoop partitionEqual scanSorted partialIns partialInsertionSort scanUp_ge scanDown_le scanUp_spec partLoop_eq partEqLoop_eq)
set_option linter.unusedSimpArgs false
set_option linter.unusedVariables false
/-! ### the scans -/
theorem up_go (p : Int → Bool) (d : Array Int) (j i : Nat) (h : i ≤ j) (q : p d[i]! = true) : scanUp p d j i = scanUp p d j (i + 1) := by
  conv => lhs; unfold scanUp
  rw [decide_eq_true h, q]; rfl
theorem up_stop (p : Int → Bool) (d : Array Int) (j i : Nat) (h : i ≤ j → p d[i]! = false) : scanUp p d j i = i := by
  unfold scanUp
  by_cases c : i ≤ j
  · rw [h c, Bool.and_false, if_neg (by decide)]
  · rw [decide_eq_false c, Bool.false_and, if_neg (by decide)]
theorem down_go (p : Int → Bool) (d : Array Int) (i j : Nat) (h : i ≤ j + 1) (q : p d[j + 1]! = true) : scanDown p d i (j + 1) = scanDown p d i j := by
  conv => lhs; unfold scanDown
  rw [decide_eq_true h, q]; rfl
theorem down_stop (p : Int → Bool) (d : Array Int) (i j : Nat) (h : i ≤ j → p d[j]! = false) : scanDown p d i j = j := by
  cases j with
  | zero => rfl
  | succ j =>
    unfold scanDown
    by_cases c : i ≤ j + 1
    · rw [h c, Bool.and_false, if_neg (by decide)]
    · rw [decide_eq_false c, Bool.false_and, if_neg (by decide)]
theorem up_le (p : Int → Bool) (d : Array Int) (j i : Nat) : scanUp p d j i ≤ i ∨ scanUp p d j i ≤ j + 1 := by
  by_cases c : i ≤ j + 1
  · exact Or.inr ((scanUp_spec p d j _ i rfl).2.1 c)
  · exact Or.inl (by rw [up_stop _ _ _ _ (by omega)]; exact Nat.le_refl _)
theorem wS (i : Nat) (h : i ≤ 1000000) : wrap64 ((i : Int) + 1) = ((i + 1 : Nat) : Int) := wN _ _ (by push_cast; rfl) (by omega)
theorem wP (i : Nat) (h : i ≤ 1000000) (h1 : 1 ≤ i) : wrap64 ((i : Int) - 1) = ((i - 1 : Nat) : Int) := wN _ _ (by omega) (by omega)
/-! ### the partition -/
theorem parA_l0 (a j : Nat) (d : Array Int) (R : Int × Bool × List Int) (ha : a < d.size) (hj : j < d.size) (hd : d.size ≤ 100000) : ∀ (n i : Nat), j + 1 - i ≤ n → i ≤ 200000 → ∀ i2, scanUp (fun x => ltInt x d[a]!) d j i = i2 → Ev (fun k => slices_partitionOrdered_byte.l1 k d.toList (a : Int) (i2 : Int) (j : Int)) R → Ev (fun k => slices_partitionOrdered_byte.l0 k d.toList (a : Int) (i : Int) (j : Int)) R
  | 0, i, hn, hi, i2, e, h => by
    rw [up_stop (fun x => ltInt x d[a]!) d j i (by omega)] at e; subst e
    apply Ev.succ; simp only [slices_partitionOrdered_byte.l0]
    refine Ev.neg (by omega) ?_
    apply Ev.succ; simp only [slices_partitionOrdered_byte.j1]; exact h
  | n + 1, i, hn, hi, i2, e, h => by
    apply Ev.succ; simp only [slices_partitionOrdered_byte.l0, lessA, lenA, wS i (by omega)]
    by_cases c : i ≤ j
    · refine Ev.pos (by omega) (Ev.pos (by omega) (Ev.pos (by omega) (Ev.pos (by omega) (Ev.pos (by omega) (Ev.bindc rfl ?_)))))
      rw [rdA, rdA]
      cases q : ltInt d[i]! d[a]! with
      | false =>
        rw [up_stop (fun x => ltInt x d[a]!) d j i (fun _ => q)] at e; subst e
        refine Ev.no ?_
        apply Ev.succ; simp only [slices_partitionOrdered_byte.j1]; exact h
      | true =>
        rw [up_go (fun x => ltInt x d[a]!) d j i c q] at e
        exact Ev.yes (parA_l0 a j d R ha hj hd n (i + 1) (by omega) (by omega) i2 e h)
    · rw [up_stop (fun x => ltInt x d[a]!) d j i (fun x => absurd x c)] at e; subst e
      refine Ev.neg (by omega) ?_
      apply Ev.succ; simp only [slices_partitionOrdered_byte.j1]; exact h
theorem parA_l3 (a j : Nat) (d : Array Int) (R : Int × Bool × List Int) (ha : a < d.size) (hj : j < d.size) (hd : d.size ≤ 100000) : ∀ (n i : Nat), j + 1 - i ≤ n → i ≤ 200000 → ∀ i2, scanUp (fun x => ltInt x d[a]!) d j i = i2 → Ev (fun k => slices_partitionOrdered_byte.l4 k d.toList (a : Int) (i2 : Int) (j : Int)) R → Ev (fun k => slices_partitionOrdered_byte.l3 k d.toList (a : Int) (i : Int) (j : Int)) R
  | 0, i, hn, hi, i2, e, h => by
    rw [up_stop (fun x => ltInt x d[a]!) d j i (by omega)] at e; subst e
    apply Ev.succ; simp only [slices_partitionOrdered_byte.l3]
    refine Ev.neg (by omega) ?_
    apply Ev.succ; simp only [slices_partitionOrdered_byte.j6]; exact h
  | n + 1, i, hn, hi, i2, e, h => by
    apply Ev.succ; simp only [slices_partitionOrdered_byte.l3, lessA, lenA, wS i (by omega)]
    by_cases c : i ≤ j
    · refine Ev.pos (by omega) (Ev.pos (by omega) (Ev.pos (by omega) (Ev.pos (by omega) (Ev.pos (by omega) (Ev.bindc rfl ?_)))))
      rw [rdA, rdA]
      cases q : ltInt d[i]! d[a]! with
      | false =>
        rw [up_stop (fun x => ltInt x d[a]!) d j i (fun _ => q)] at e; subst e
        refine Ev.no ?_
        apply Ev.succ; simp only [slices_partitionOrdered_byte.j6]; exact h
      | true =>
        rw [up_go (fun x => ltInt x d[a]!) d j i c q] at e
        exact Ev.yes (parA_l3 a j d R ha hj hd n (i + 1) (by omega) (by omega) i2 e h)
    · rw [up_stop (fun x => ltInt x d[a]!) d j i (fun x => absurd x c)] at e; subst e
      refine Ev.neg (by omega) ?_
      apply Ev.succ; simp only [slices_partitionOrdered_byte.j6]; exact h
theorem parA_l1 (a i : Nat) (d : Array Int) (R : Int × Bool × List Int) (ha : a < d.size) (hi : 1 ≤ i) (hd : d.size ≤ 100000) : ∀ (j : Nat), j < d.size → ∀ j2, scanDown (fun x => !ltInt x d[a]!) d i j = j2 → Ev (fun k => slices_partitionOrdered_byte.j3 k d.toList (a : Int) (i : Int) (j2 : Int)) R → Ev (fun k => slices_partitionOrdered_byte.l1 k d.toList (a : Int) (i : Int) (j : Int)) R
  | 0, hj, j2, e, h => by
    rw [down_stop _ _ _ _ (by omega)] at e; subst e
    apply Ev.succ; simp only [slices_partitionOrdered_byte.l1]
    exact Ev.neg (by omega) h
  | j + 1, hj, j2, e, h => by
    apply Ev.succ; simp only [slices_partitionOrdered_byte.l1, lessA, lenA, wP (j + 1) (by omega) (by omega), Nat.add_sub_cancel]
    by_cases c : i ≤ j + 1
    · refine Ev.pos (by omega) (Ev.pos (by omega) (Ev.pos (by omega) (Ev.pos (by omega) (Ev.pos (by omega) (Ev.bindc rfl ?_)))))
      rw [rdA, rdA]
      cases q : ltInt d[j + 1]! d[a]! with
      | true =>
        rw [down_stop _ _ _ _ (fun _ => by simp only [q, Bool.not_true])] at e; subst e
        exact Ev.yes h
      | false =>
        rw [down_go _ _ _ _ c (by simp only [q, Bool.not_false])] at e
        exact Ev.no (parA_l1 a i d R ha hi hd j (by omega) j2 e h)
    · rw [down_stop _ _ _ _ (fun x => absurd x c)] at e; subst e
      exact Ev.neg (by omega) h
theorem parA_l4 (a i : Nat) (d : Array Int) (R : Int × Bool × List Int) (ha : a < d.size) (hi : 1 ≤ i) (hi2 : i ≤ 200000) (hd : d.size ≤ 100000) : ∀ (j : Nat), j < d.size → ∀ j2, scanDown (fun x => !ltInt x d[a]!) d i j = j2 → (i > j2 → R = ((j2 : Int), false, (swp d j2 a).toList)) → (i ≤ j2 → Ev (fun k => slices_partitionOrdered_byte.l2 k (swp d i j2).toList (a : Int) ((i + 1 : Nat) : Int) ((j2 - 1 : Nat) : Int)) R) → Ev (fun k => slices_partitionOrdered_byte.l4 k d.toList (a : Int) (i : Int) (j : Int)) R
  | 0, hj, j2, e, h1, h2 => by
    rw [down_stop _ _ _ _ (by omega)] at e; subst e
    rw [h1 (by omega)]
    apply Ev.succ; simp only [slices_partitionOrdered_byte.l4, lenA, Int.toNat_natCast, swpA]
    exact Ev.neg (by omega) (Ev.pos (by omega) (Ev.pos (by omega) (Ev.pos (by omega) (Ev.pos (by omega) (Ev.pos (by omega) (Ev.now _))))))
  | j + 1, hj, j2, e, h1, h2 => by
    apply Ev.succ; simp only [slices_partitionOrdered_byte.l4, lessA, lenA, wS i (by omega), wP (j + 1) (by omega) (by omega), Nat.add_sub_cancel, Int.toNat_natCast, swpA]
    by_cases c : i ≤ j + 1
    · refine Ev.pos (by omega) (Ev.pos (by omega) (Ev.pos (by omega) (Ev.pos (by omega) (Ev.pos (by omega) (Ev.bindc rfl ?_)))))
      rw [rdA, rdA]
      cases q : ltInt d[j + 1]! d[a]! with
      | true =>
        rw [down_stop _ _ _ _ (fun _ => by simp only [q, Bool.not_true])] at e; subst e
        exact Ev.yes (Ev.neg (by omega) (Ev.pos (by omega) (Ev.pos (by omega) (h2 c))))
      | false =>
        rw [down_go _ _ _ _ c (by simp only [q, Bool.not_false])] at e
        exact Ev.no (parA_l4 a i d R ha hi hi2 hd j (by omega) j2 e h1 h2)
    · rw [down_stop _ _ _ _ (fun x => absurd x c)] at e; subst e
      rw [h1 (by omega)]
      exact Ev.neg (by omega) (Ev.pos (by omega) (Ev.pos (by omega) (Ev.pos (by omega) (Ev.pos (by omega) (Ev.pos (by omega) (Ev.now _))))))
theorem parA_l2 (a : Nat) : ∀ (n i j : Nat) (d : Array Int), a < d.size → j + 1 - i ≤ n → a < i → i ≤ 150000 → j < d.size → d.size ≤ 100000 → ∀ r, partLoop ltInt a i j d = r → Ev (fun k => slices_partitionOrdered_byte.l2 k d.toList (a : Int) (i : Int) (j : Int)) ((r.1 : Int), false, (swp r.2 r.1 a).toList) := by
  intro n
  induction n with
  | zero =>
    intro i j d ha hn hi hij hj hd r hr
    have g1 := (scanUp_spec (fun x => ltInt x d[a]!) d j _ i rfl)
    have g2 := scanDown_le (fun x => !ltInt x d[a]!) d (scanUp (fun x => ltInt x d[a]!) d j i) j
    rw [partLoop_eq] at hr
    generalize q1 : scanUp (fun x => ltInt x d[a]!) d j i = i2 at g1 g2 hr
    generalize q2 : scanDown (fun x => !ltInt x d[a]!) d i2 j = j2 at g2 hr
    have g3 := g1.1
    have g4 : i2 ≤ i ∨ i2 ≤ j + 1 := by subst q1; exact up_le _ _ _ _
    clear g1
    rw [if_pos (by omega)] at hr
    subst hr
    apply Ev.succ; simp only [slices_partitionOrdered_byte.l2]
    exact parA_l3 a j d _ (by omega) hj hd _ i (Nat.le_refl _) (by omega) i2 q1 (parA_l4 a i2 d _ (by omega) (by omega) (by omega) hd j hj j2 q2 (fun _ => rfl) (fun h => absurd h (by omega)))
  | succ n ih =>
    intro i j d ha hn hi hij hj hd r hr
    have g1 := (scanUp_spec (fun x => ltInt x d[a]!) d j _ i rfl)
    have g2 := scanDown_le (fun x => !ltInt x d[a]!) d (scanUp (fun x => ltInt x d[a]!) d j i) j
    rw [partLoop_eq] at hr
    generalize q1 : scanUp (fun x => ltInt x d[a]!) d j i = i2 at g1 g2 hr
    generalize q2 : scanDown (fun x => !ltInt x d[a]!) d i2 j = j2 at g2 hr
    have g3 := g1.1
    have g4 : i2 ≤ i ∨ i2 ≤ j + 1 := by subst q1; exact up_le _ _ _ _
    clear g1
    apply Ev.succ; simp only [slices_partitionOrdered_byte.l2]
    refine parA_l3 a j d _ (by omega) hj hd _ i (Nat.le_refl _) (by omega) i2 q1 (parA_l4 a i2 d _ (by omega) (by omega) (by omega) hd j hj j2 q2 (fun h => ?_) (fun h => ?_))
    · rw [if_pos h] at hr; subst hr; rfl
    · rw [if_neg (by omega)] at hr
      exact ih (i2 + 1) (j2 - 1) _ (by rw [sizeA]; exact ha) (by omega) (by omega) (by omega) (by rw [sizeA]; omega) (by rw [sizeA]; exact hd) r hr
theorem part_stop (d : Array Int) (a b p i j : Nat) (hi : scanUp (fun x => ltInt x (swp d a p)[a]!) (swp d a p) (b - 1) (a + 1) = i) (hj : scanDown (fun x => !ltInt x (swp d a p)[a]!) (swp d a p) i (b - 1) = j) (c : i > j) : partition ltInt d a b p = (j, true, swp (swp d a p) j a) := by
  subst hi; subst hj
  unfold partition
  dsimp only
  rw [if_pos c]
theorem part_go (d : Array Int) (a b p i j : Nat) (hi : scanUp (fun x => ltInt x (swp d a p)[a]!) (swp d a p) (b - 1) (a + 1) = i) (hj : scanDown (fun x => !ltInt x (swp d a p)[a]!) (swp d a p) i (b - 1) = j) (c : ¬ i > j) : partition ltInt d a b p = ((partLoop ltInt a (i + 1) (j - 1) (swp (swp d a p) i j)).1, false, swp (partLoop ltInt a (i + 1) (j - 1) (swp (swp d a p) i j)).2 (partLoop ltInt a (i + 1) (j - 1) (swp (swp d a p) i j)).1 a) := by
  subst hi; subst hj
  unfold partition
  dsimp only
  rw [if_neg c]
theorem parA_ev (d : Array Int) (a b p : Nat) (hp : p < b) (hap : a ≤ p) (hab : a + 1 < b) (hb : b ≤ d.size) (hd : d.size ≤ 100000) : Ev (fun k => slices_partitionOrdered_byte.f k d.toList (a : Int) (b : Int) (p : Int)) (((partition ltInt d a b p).1 : Int), (partition ltInt d a b p).2.1, (partition ltInt d a b p).2.2.toList) := by
  simp only [slices_partitionOrdered_byte.f, Int.toNat_natCast, swpA, lenA, wS a (by omega), wP b (by omega) (by omega)]
  refine Ev.pos (by omega) (Ev.pos (by omega) (Ev.pos (by omega) (Ev.pos (by omega) ?_)))
  have g1 := (scanUp_spec (fun x => ltInt x (swp d a p)[a]!) (swp d a p) (b - 1) _ (a + 1) rfl)
  have g2 := scanDown_le (fun x => !ltInt x (swp d a p)[a]!) (swp d a p) (scanUp (fun x => ltInt x (swp d a p)[a]!) (swp d a p) (b - 1) (a + 1)) (b - 1)
  generalize q1 : scanUp (fun x => ltInt x (swp d a p)[a]!) (swp d a p) (b - 1) (a + 1) = i2 at g1 g2
  generalize q2 : scanDown (fun x => !ltInt x (swp d a p)[a]!) (swp d a p) i2 (b - 1) = j2 at g2
  have g3 := g1.1
  have g4 := g1.2.1 (by omega)
  clear g1
  have hz := sizeA d a p
  refine parA_l0 a (b - 1) (swp d a p) _ (by omega) (by omega) (by omega) _ (a + 1) (Nat.le_refl _) (by omega) i2 q1 (parA_l1 a i2 (swp d a p) _ (by omega) (by omega) (by omega) (b - 1) (by omega) j2 q2 ?_)
  by_cases c : i2 > j2
  · rw [part_stop d a b p i2 j2 q1 q2 c]
    apply Ev.succ; simp only [slices_partitionOrdered_byte.j3, lenA, Int.toNat_natCast, swpA]
    exact Ev.pos (by omega) (Ev.pos (by omega) (Ev.pos (by omega) (Ev.pos (by omega) (Ev.pos (by omega) (Ev.now _)))))
  · rw [part_go d a b p i2 j2 q1 q2 c]
    apply Ev.succ; simp only [slices_partitionOrdered_byte.j3, lenA, Int.toNat_natCast, swpA, wS i2 (by omega), wP j2 (by omega) (by omega)]
    refine Ev.neg (by omega) (Ev.pos (by omega) (Ev.pos (by omega) (Ev.pos (by omega) (Ev.pos (by omega) ?_))))
    exact parA_l2 a _ (i2 + 1) (j2 - 1) _ (by rw [sizeA]; omega) (Nat.le_refl _) (by omega) (by omega) (by rw [sizeA]; omega) (by rw [sizeA]; omega) _ rfl
/-! ### the partition of equals -/
theorem peqA_l1 (a j : Nat) (d : Array Int) (R : Int × List Int) (ha : a < d.size) (hj : j < d.size) (hd : d.size ≤ 100000) : ∀ (n i : Nat), j + 1 - i ≤ n → i ≤ 200000 → ∀ i2, scanUp (fun x => !ltInt d[a]! x) d j i = i2 → Ev (fun k => slices_partitionEqualOrdered_byte.l2 k d.toList (a : Int) (i2 : Int) (j : Int)) R → Ev (fun k => slices_partitionEqualOrdered_byte.l1 k d.toList (a : Int) (i : Int) (j : Int)) R
  | 0, i, hn, hi, i2, e, h => by
    rw [up_stop (fun x => !ltInt d[a]! x) d j i (by omega)] at e; subst e
    apply Ev.succ; simp only [slices_partitionEqualOrdered_byte.l1]
    refine Ev.neg (by omega) ?_
    apply Ev.succ; simp only [slices_partitionEqualOrdered_byte.j2]; exact h
  | n + 1, i, hn, hi, i2, e, h => by
    apply Ev.succ; simp only [slices_partitionEqualOrdered_byte.l1, lessA, lenA, wS i (by omega)]
    by_cases c : i ≤ j
    · refine Ev.pos (by omega) (Ev.pos (by omega) (Ev.pos (by omega) (Ev.pos (by omega) (Ev.pos (by omega) (Ev.bindc rfl ?_)))))
      rw [rdA, rdA]
      cases q : ltInt d[a]! d[i]! with
      | true =>
        rw [up_stop (fun x => !ltInt d[a]! x) d j i (fun _ => by simp only [q, Bool.not_true])] at e; subst e
        refine Ev.yes ?_
        apply Ev.succ; simp only [slices_partitionEqualOrdered_byte.j2]; exact h
      | false =>
        rw [up_go (fun x => !ltInt d[a]! x) d j i c (by simp only [q, Bool.not_false])] at e
        exact Ev.no (peqA_l1 a j d R ha hj hd n (i + 1) (by omega) (by omega) i2 e h)
    · rw [up_stop (fun x => !ltInt d[a]! x) d j i (fun x => absurd x c)] at e; subst e
      refine Ev.neg (by omega) ?_
      apply Ev.succ; simp only [slices_partitionEqualOrdered_byte.j2]; exact h
theorem peqA_l2 (a i : Nat) (d : Array Int) (R : Int × List Int) (ha : a < d.size) (hi : 1 ≤ i) (hi2 : i ≤ 200000) (hd : d.size ≤ 100000) : ∀ (j : Nat), j < d.size → ∀ j2, scanDown (fun x => ltInt d[a]! x) d i j = j2 → (i > j2 → R = ((i : Int), d.toList)) → (i ≤ j2 → Ev (fun k => slices_partitionEqualOrdered_byte.l0 k (swp d i j2).toList (a : Int) ((i + 1 : Nat) : Int) ((j2 - 1 : Nat) : Int)) R) → Ev (fun k => slices_partitionEqualOrdered_byte.l2 k d.toList (a : Int) (i : Int) (j : Int)) R
  | 0, hj, j2, e, h1, h2 => by
    rw [down_stop _ _ _ _ (by omega)] at e; subst e
    rw [h1 (by omega)]
    apply Ev.succ; simp only [slices_partitionEqualOrdered_byte.l2, lenA, Int.toNat_natCast, swpA]
    exact Ev.neg (by omega) (Ev.pos (by omega) (Ev.now _))
  | j + 1, hj, j2, e, h1, h2 => by
    apply Ev.succ; simp only [slices_partitionEqualOrdered_byte.l2, lessA, lenA, wS i (by omega), wP (j + 1) (by omega) (by omega), Nat.add_sub_cancel, Int.toNat_natCast, swpA]
    by_cases c : i ≤ j + 1
    · refine Ev.pos (by omega) (Ev.pos (by omega) (Ev.pos (by omega) (Ev.pos (by omega) (Ev.pos (by omega) (Ev.bindc rfl ?_)))))
      rw [rdA, rdA]
      cases q : ltInt d[a]! d[j + 1]! with
      | false =>
        rw [down_stop _ _ _ _ (fun _ => q)] at e; subst e
        exact Ev.no (Ev.neg (by omega) (Ev.pos (by omega) (Ev.pos (by omega) (h2 c))))
      | true =>
        rw [down_go _ _ _ _ c q] at e
        exact Ev.yes (peqA_l2 a i d R ha hi hi2 hd j (by omega) j2 e h1 h2)
    · rw [down_stop _ _ _ _ (fun x => absurd x c)] at e; subst e
      rw [h1 (by omega)]
      exact Ev.neg (by omega) (Ev.pos (by omega) (Ev.now _))
theorem peqA_l0 (a : Nat) : ∀ (n i j : Nat) (d : Array Int), a < d.size → j + 1 - i ≤ n → a < i → i ≤ 150000 → j < d.size → d.size ≤ 100000 → ∀ r, partEqLoop ltInt a i j d = r → Ev (fun k => slices_partitionEqualOrdered_byte.l0 k d.toList (a : Int) (i : Int) (j : Int)) ((r.1 : Int), r.2.toList) := by
  intro n
  induction n with
  | zero =>
    intro i j d ha hn hi hij hj hd r hr
    have g1 := (scanUp_spec (fun x => !ltInt d[a]! x) d j _ i rfl)
    have g2 := scanDown_le (fun x => ltInt d[a]! x) d (scanUp (fun x => !ltInt d[a]! x) d j i) j
    rw [partEqLoop_eq] at hr
    generalize q1 : scanUp (fun x => !ltInt d[a]! x) d j i = i2 at g1 g2 hr
    generalize q2 : scanDown (fun x => ltInt d[a]! x) d i2 j = j2 at g2 hr
    have g3 := g1.1
    have g4 : i2 ≤ i ∨ i2 ≤ j + 1 := by subst q1; exact up_le _ _ _ _
    clear g1
    rw [if_pos (by omega)] at hr
    subst hr
    apply Ev.succ; simp only [slices_partitionEqualOrdered_byte.l0]
    exact peqA_l1 a j d _ (by omega) hj hd _ i (Nat.le_refl _) (by omega) i2 q1 (peqA_l2 a i2 d _ (by omega) (by omega) (by omega) hd j hj j2 q2 (fun _ => rfl) (fun h => absurd h (by omega)))
  | succ n ih =>
    intro i j d ha hn hi hij hj hd r hr
    have g1 := (scanUp_spec (fun x => !ltInt d[a]! x) d j _ i rfl)
    have g2 := scanDown_le (fun x => ltInt d[a]! x) d (scanUp (fun x => !ltInt d[a]! x) d j i) j
    rw [partEqLoop_eq] at hr
    generalize q1 : scanUp (fun x => !ltInt d[a]! x) d j i = i2 at g1 g2 hr
    generalize q2 : scanDown (fun x => ltInt d[a]! x) d i2 j = j2 at g2 hr
    have g3 := g1.1
    have g4 : i2 ≤ i ∨ i2 ≤ j + 1 := by subst q1; exact up_le _ _ _ _
    clear g1
    apply Ev.succ; simp only [slices_partitionEqualOrdered_byte.l0]
    refine peqA_l1 a j d _ (by omega) hj hd _ i (Nat.le_refl _) (by omega) i2 q1 (peqA_l2 a i2 d _ (by omega) (by omega) (by omega) hd j hj j2 q2 (fun h => ?_) (fun h => ?_))
    · rw [if_pos h] at hr; subst hr; rfl
    · rw [if_neg (by omega)] at hr
      exact ih (i2 + 1) (j2 - 1) _ (by rw [sizeA]; exact ha) (by omega) (by omega) (by omega) (by rw [sizeA]; omega) (by rw [sizeA]; exact hd) r hr
theorem peqA_ev (d : Array Int) (a b p : Nat) (hp : p < b) (hap : a ≤ p) (hab : a + 1 < b) (hb : b ≤ d.size) (hd : d.size ≤ 100000) : Ev (fun k => slices_partitionEqualOrdered_byte.f k d.toList (a : Int) (b : Int) (p : Int)) (((partitionEqual ltInt d a b p).1 : Int), (partitionEqual ltInt d a b p).2.toList) := by
  simp only [slices_partitionEqualOrdered_byte.f, Int.toNat_natCast, swpA, lenA, wS a (by omega), wP b (by omega) (by omega)]
  refine Ev.pos (by omega) (Ev.pos (by omega) (Ev.pos (by omega) (Ev.pos (by omega) ?_)))
  have hz := sizeA d a p
  exact peqA_l0 a _ (a + 1) (b - 1) (swp d a p) (by omega) (Nat.le_refl _) (by omega) (by omega) (by omega) (by omega) _ rfl
/-! ### the partial insertion sort (of fewer than 50) -/
theorem sorted_go (d : Array Int) (b i : Nat) (h : i < b) (q : ltInt d[i]! d[i - 1]! = false) : scanSorted ltInt d b i = scanSorted ltInt d b (i + 1) := by
  conv => lhs; unfold scanSorted
  rw [decide_eq_true h, q]; rfl
theorem sorted_stop (d : Array Int) (b i : Nat) (h : i < b → ltInt d[i]! d[i - 1]! = true) : scanSorted ltInt d b i = i := by
  unfold scanSorted
  by_cases c : i < b
  · rw [h c, Bool.not_true, Bool.and_false, if_neg (by decide)]
  · rw [decide_eq_false c, Bool.false_and, if_neg (by decide)]
theorem pisA_l1 (a b : Nat) (d : Array Int) (R : Bool × List Int) (hb : b ≤ d.size) (hd : d.size ≤ 100000) (s : Int) : ∀ (n i : Nat), b - i ≤ n → 1 ≤ i → i ≤ 200000 → ∀ i2, scanSorted ltInt d b i = i2 → Ev (fun k => slices_partialInsertionSortOrdered_byte.j2 k d.toList (a : Int) (b : Int) (i2 : Int) s) R → Ev (fun k => slices_partialInsertionSortOrdered_byte.l1 k d.toList (a : Int) (b : Int) (i : Int) s) R
  | 0, i, hn, h1, hi, i2, e, h => by
    rw [sorted_stop _ _ _ (by omega)] at e; subst e
    apply Ev.succ; simp only [slices_partialInsertionSortOrdered_byte.l1]
    exact Ev.neg (by omega) h
  | n + 1, i, hn, h1, hi, i2, e, h => by
    apply Ev.succ; simp only [slices_partialInsertionSortOrdered_byte.l1, lessA, lenA, wS i (by omega), wP i (by omega) h1]
    by_cases c : i < b
    · refine Ev.pos (by omega) (Ev.pos (by omega) (Ev.pos (by omega) (Ev.pos (by omega) (Ev.pos (by omega) (Ev.bindc rfl ?_)))))
      rw [rdA, rdA]
      cases q : ltInt d[i]! d[i - 1]! with
      | true => rw [sorted_stop _ _ _ (fun _ => q)] at e; subst e; exact Ev.yes h
      | false =>
        rw [sorted_go _ _ _ c q] at e
        exact Ev.no (pisA_l1 a b d R hb hd s n (i + 1) (by omega) (by omega) (by omega) i2 e h)
    · rw [sorted_stop _ _ _ (fun x => absurd x c)] at e; subst e
      exact Ev.neg (by omega) h
theorem pis_eq (d : Array Int) (a b i : Nat) (h : scanSorted ltInt d b (a + 1) = i) (h5 : b - a < 50) : partialInsertionSort ltInt d a b = (d, decide (i = b)) := by
  unfold partialInsertionSort
  rw [Go.Sort.partialIns_succ]
  rw [h]
  by_cases c : i = b
  · rw [if_pos c, decide_eq_true c]
  · rw [if_neg c, if_pos h5, decide_eq_false c]
theorem pisA_ev (d : Array Int) (a b : Nat) (hab : a < b) (hb : b ≤ d.size) (h5 : b - a < 50) (hd : d.size ≤ 100000) : Ev (fun k => slices_partialInsertionSortOrdered_byte.f k d.toList (a : Int) (b : Int)) ((partialInsertionSort ltInt d a b).2, (partialInsertionSort ltInt d a b).1.toList) := by
  rw [pis_eq d a b _ rfl h5]
  generalize q : scanSorted ltInt d b (a + 1) = i
  simp only [slices_partialInsertionSortOrdered_byte.f, wS a (by omega)]
  apply Ev.succ; simp only [slices_partialInsertionSortOrdered_byte.l0]
  refine Ev.pos (by decide) (pisA_l1 a b d _ hb hd 0 _ (a + 1) (Nat.le_refl _) (by omega) (by omega) i q ?_)
  apply Ev.succ; simp only [slices_partialInsertionSortOrdered_byte.j2]
  by_cases c : i = b
  · rw [decide_eq_true c]; exact Ev.pos (by omega) (Ev.now _)
  · rw [decide_eq_false c, show wrap64 ((b : Int) - (a : Int)) = ((b - a : Nat) : Int) from wN _ _ (by omega) (by omega)]
    exact Ev.neg (by omega) (Ev.pos (by omega) (Ev.now _))
end Go.Proofs.YtcidlaabbkimdaaDoor

namespace Go.Proofs.YtcidlaabbkimdaaDoor
open Go.RowKit Go.Proofs.YtcidlaabbkimdaaDoor.P Go.Proofs.YtcidlaabbkimdaaDoorW.PrintWords
open Go.Sort (swp ltInt xorNext bitsLen breakStep breakPatterns order2 median choosePivot order2_count hintOf hintCode Hint reverseRange partialInsertionSort partitionEqual partition pdq)
set_option linter.unusedSimpArgs false
set_option linter.unusedVariables false
/-! ### the patterns -/
/-- Where a round swaps to. -/
def gO (L m : Nat) (r : UInt64) : Nat := if (r.toNat &&& (m - 1)) ≥ L then (r.toNat &&& (m - 1)) - L else (r.toNat &&& (m - 1))
theorem breakStep_eq (a L m : Nat) (r : UInt64) (d : Array Int) (idx : Nat) : breakStep a L m (r, d) idx = (xorNext r, swp d idx (a + gO L m (xorNext r))) := rfl
def brkOk (L : Nat) : Prop := slices_nextPowerOfTwo.f (L : Int) = some ((1 <<< bitsLen L : Nat) : Int) ∧
  brkO (L : Int) ((1 <<< bitsLen L : Nat) : Int) (nx (L : Int)) = (gO L (1 <<< bitsLen L) (xorNext (UInt64.ofNat L)) : Int) ∧
  brkO (L : Int) ((1 <<< bitsLen L : Nat) : Int) (nx (nx (L : Int))) = (gO L (1 <<< bitsLen L) (xorNext (xorNext (UInt64.ofNat L))) : Int) ∧
  brkO (L : Int) ((1 <<< bitsLen L : Nat) : Int) (nx (nx (nx (L : Int)))) = (gO L (1 <<< bitsLen L) (xorNext (xorNext (xorNext (UInt64.ofNat L)))) : Int) ∧
  gO L (1 <<< bitsLen L) (xorNext (UInt64.ofNat L)) < L ∧ gO L (1 <<< bitsLen L) (xorNext (xorNext (UInt64.ofNat L))) < L ∧ gO L (1 <<< bitsLen L) (xorNext (xorNext (xorNext (UInt64.ofNat L)))) < L
theorem brk_ok (L : Nat) (h1 : 13 ≤ L) (h2 : L ≤ 20) : brkOk L := by
  have h : L = 13 ∨ L = 14 ∨ L = 15 ∨ L = 16 ∨ L = 17 ∨ L = 18 ∨ L = 19 ∨ L = 20 := by omega
  rcases h with rfl | rfl | rfl | rfl | rfl | rfl | rfl | rfl <;> (unfold brkOk; decide +kernel)
theorem brkS_eq (d : Array Int) (i j : Nat) : brkS d.toList (j : Int) (i : Int) = (swp d i j).toList := by
  unfold brkS
  rw [Int.toNat_natCast, Int.toNat_natCast, swpA]
theorem brkA3 (d : Array Int) (a L m i o1 o2 o3 : Nat) (x : Int) (l1 : o1 < L) (l2 : o2 < L) (l3 : o3 < L) (ha : a ≤ 100000) (hL : L ≤ 100) (e1 : brkO (L : Int) (m : Int) (nx x) = (o1 : Int)) (e2 : brkO (L : Int) (m : Int) (nx (nx x)) = (o2 : Int)) (e3 : brkO (L : Int) (m : Int) (nx (nx (nx x))) = (o3 : Int)) :
    brkL (a : Int) (L : Int) (m : Int) 3 (i : Int) x d.toList = some (swp (swp (swp d i (a + o1)) (i + 1) (a + o2)) (i + 2) (a + o3)).toList := by
  have c1 : 0 ≤ (o1 : Int) ∧ (o1 : Int) < (L : Int) := by clear e1 e2 e3; omega
  have c2 : 0 ≤ (o2 : Int) ∧ (o2 : Int) < (L : Int) := by clear e1 e2 e3; omega
  have c3 : 0 ≤ (o3 : Int) ∧ (o3 : Int) < (L : Int) := by clear e1 e2 e3; omega
  have w1 : wrap64 ((a : Int) + (o1 : Int)) = ((a + o1 : Nat) : Int) := by clear e1 e2 e3; exact wN _ _ (by push_cast; rfl) (by omega)
  have w2 : wrap64 ((a : Int) + (o2 : Int)) = ((a + o2 : Nat) : Int) := by clear e1 e2 e3 w1; exact wN _ _ (by push_cast; rfl) (by omega)
  have w3 : wrap64 ((a : Int) + (o3 : Int)) = ((a + o3 : Nat) : Int) := by clear e1 e2 e3 w1 w2; exact wN _ _ (by push_cast; rfl) (by omega)
  have i1 : (i : Int) + 1 = ((i + 1 : Nat) : Int) := by push_cast; rfl
  have i2 : ((i + 1 : Nat) : Int) + 1 = ((i + 2 : Nat) : Int) := by push_cast; rfl
  rw [brkL, e1, if_pos c1, w1, brkS_eq, i1, brkL, e2, if_pos c2, w2, brkS_eq, i2, brkL, e3, if_pos c3, w3, brkS_eq, brkL]
theorem brkA (d : Array Int) (a b : Nat) (h1 : 13 ≤ b - a) (h2 : b - a ≤ 20) (hb : b ≤ d.size) (hd : d.size ≤ 100000) : slices_breakPatternsOrdered_byte.f d.toList (a : Int) (b : Int) = some (breakPatterns d a b).toList := by
  have eL : (b : Int) - (a : Int) = ((b - a : Nat) : Int) := by omega
  have ei : (a : Int) + ((b - a : Nat) : Int) / 4 * 2 - 1 = ((a + (b - a) / 4 * 2 - 1 : Nat) : Int) := by omega
  have g : 0 ≤ (a : Int) ∧ 8 ≤ ((b - a : Nat) : Int) ∧ (b : Int) ≤ (d.toList.length : Int) ∧ d.toList.length ≤ 1000000 := ⟨by omega, by omega, by rw [lenA]; omega, by rw [lenA]; omega⟩
  have g8 : b - a ≥ 8 := by omega
  have ha : a ≤ 100000 := by omega
  have hL : b - a ≤ 100 := by omega
  obtain ⟨e0, e1, e2, e3, l1, l2, l3⟩ := brk_ok (b - a) h1 h2
  have H := brkA3 d a (b - a) _ (a + (b - a) / 4 * 2 - 1) _ _ _ _ l1 l2 l3 ha hL e1 e2 e3
  unfold slices_breakPatternsOrdered_byte.f breakPatterns
  dsimp only
  rw [eL, if_pos g, if_pos g8, ei, e0, breakStep_eq, breakStep_eq, breakStep_eq, Option.bind_some, H]
/-! ### the pivot -/
theorem o2A (d : Array Int) (a b s : Nat) (hs : s ≤ 1000) : o2 d.toList (a : Int) (b : Int) (s : Int) = (((order2 ltInt d a b s).1 : Int), ((order2 ltInt d a b s).2.1 : Int), ((order2 ltInt d a b s).2.2 : Int)) := by
  unfold o2 order2 ltInt
  rw [rdA, rdA]
  by_cases c : d[b]! < d[a]!
  · rw [if_pos c, if_pos (decide_eq_true c), wS s (by omega)]
  · rw [if_neg c, if_neg (by rw [decide_eq_false c]; decide)]
theorem medA (d : Array Int) (a b c s : Nat) (hs : s ≤ 100) : med d.toList (a : Int) (b : Int) (c : Int) (s : Int) = (((median ltInt d a b c s).1 : Int), ((median ltInt d a b c s).2 : Int)) := by
  have c1 := order2_count ltInt d a b s
  have h1 := o2A d a b s (by omega)
  have c2 := order2_count ltInt d (order2 ltInt d a b s).2.1 c (order2 ltInt d a b s).2.2
  have h2 := o2A d (order2 ltInt d a b s).2.1 c (order2 ltInt d a b s).2.2 (by omega)
  have h3 := o2A d (order2 ltInt d a b s).1 (order2 ltInt d (order2 ltInt d a b s).2.1 c (order2 ltInt d a b s).2.2).1 (order2 ltInt d (order2 ltInt d a b s).2.1 c (order2 ltInt d a b s).2.2).2.2 (by omega)
  unfold med median
  simp only [h1, h2, h3]
theorem pivA (d : Array Int) (a b : Nat) (h1 : 8 ≤ b - a) (h2 : b - a < 50) (hb : b ≤ d.size) (hd : d.size ≤ 100000) : slices_choosePivotOrdered_byte.f d.toList (a : Int) (b : Int) = some (((choosePivot ltInt d a b).1 : Int), hintCode (choosePivot ltInt d a b).2) := by
  have eL : (b : Int) - (a : Int) = ((b - a : Nat) : Int) := by omega
  have eq4 : wrap64 (Int.tdiv ((b - a : Nat) : Int) 4) = (((b - a) / 4 : Nat) : Int) := wN _ _ (by rw [Int.tdiv_eq_ediv_of_nonneg (by omega)]; omega) (by omega)
  have p1 : pv1 (a : Int) ((b - a : Nat) : Int) = ((a + (b - a) / 4 * 1 : Nat) : Int) := by
    unfold pv1
    rw [eq4, show wrap64 (((b - a) / 4 : Nat) : Int) = (((b - a) / 4 : Nat) : Int) from wN _ _ rfl (by omega)]
    exact wN _ _ (by push_cast; omega) (by omega)
  have p2 : pv2 (a : Int) ((b - a : Nat) : Int) = ((a + (b - a) / 4 * 2 : Nat) : Int) := by
    unfold pv2
    rw [eq4, show wrap64 ((((b - a) / 4 : Nat) : Int) * 2) = (((b - a) / 4 * 2 : Nat) : Int) from wN _ _ (by push_cast; rfl) (by omega)]
    exact wN _ _ (by push_cast; rfl) (by omega)
  have p3 : pv3 (a : Int) ((b - a : Nat) : Int) = ((a + (b - a) / 4 * 3 : Nat) : Int) := by
    unfold pv3
    rw [eq4, show wrap64 ((((b - a) / 4 : Nat) : Int) * 3) = (((b - a) / 4 * 3 : Nat) : Int) from wN _ _ (by push_cast; rfl) (by omega)]
    exact wN _ _ (by push_cast; rfl) (by omega)
  clear eq4
  have hr : Go.Sort.rawPivot ltInt d a b = median ltInt d (a + (b - a) / 4 * 1) (a + (b - a) / 4 * 2) (a + (b - a) / 4 * 3) 0 := by
    unfold Go.Sort.rawPivot
    rw [if_pos h1, if_neg (by omega)]
  have hm := medA d (a + (b - a) / 4 * 1) (a + (b - a) / 4 * 2) (a + (b - a) / 4 * 3) 0 (by omega)
  unfold slices_choosePivotOrdered_byte.f
  rw [eL, if_pos ⟨by omega, by omega, by omega, by rw [lenA]; omega, by rw [lenA]; omega⟩, p1, p2, p3, Go.Sort.choosePivot_eq, hr]
  rw [show ((0 : Nat) : Int) = 0 from rfl] at hm
  rw [hm]
  generalize (median ltInt d (a + (b - a) / 4 * 1) (a + (b - a) / 4 * 2) (a + (b - a) / 4 * 3) 0) = m
  obtain ⟨x, s⟩ := m
  simp only [hintI, hintOf]
  by_cases z0 : s = 0
  · subst z0; rfl
  · by_cases z12 : s = 12
    · subst z12; rfl
    · rw [if_neg (by omega), if_neg (by omega), if_neg z0, if_neg z12]; rfl
/-! ### the recursion -/
theorem pdq_j4 (D : Array Int) (a b lim p : Nat) (wb wp : Bool) (L : Int) (T : List Int) (hp : p < b) (hab : a < b) (hb : b ≤ D.size) (hd : D.size ≤ 100000)
    (h : Ev (fun k => slices_pdqsortOrdered_byte.j5 k D.toList (a : Int) (b : Int) (lim : Int) wb wp L (p : Int) (decide (a > 0) && !ltInt D[a - 1]! D[p]!)) T) :
    Ev (fun k => slices_pdqsortOrdered_byte.j4 k D.toList (a : Int) (b : Int) (lim : Int) wb wp L (p : Int)) T := by
  apply Ev.succ; simp only [slices_pdqsortOrdered_byte.j4, lenA, lessA]
  by_cases c : a > 0
  · rw [decide_eq_true c, Bool.true_and] at h
    rw [wP a (by omega) (by omega)]
    refine Ev.pos (by omega) (Ev.pos (by omega) (Ev.pos (by omega) (Ev.pos (by omega) (Ev.pos (by omega) (Ev.bindc rfl ?_)))))
    rw [rdA, rdA]; exact h
  · rw [decide_eq_false c, Bool.false_and] at h
    exact Ev.neg (by omega) h
theorem pdq_j3 (D : Array Int) (a b lim p : Nat) (wb wp x : Bool) (L : Int) (T : List Int) (hab : a < b) (h5 : b - a < 50) (hb : b ≤ D.size) (hd : D.size ≤ 100000) (pi : Array Int × Bool) (hpi : pi = if x = true then partialInsertionSort ltInt D a b else (D, false))
    (h1 : pi.2 = true → T = pi.1.toList) (h2 : pi.2 = false → Ev (fun k => slices_pdqsortOrdered_byte.j4 k pi.1.toList (a : Int) (b : Int) (lim : Int) wb wp L (p : Int)) T) :
    Ev (fun k => slices_pdqsortOrdered_byte.j3 k D.toList (a : Int) (b : Int) (lim : Int) wb wp L (p : Int) x) T := by
  apply Ev.succ; simp only [slices_pdqsortOrdered_byte.j3]
  cases x with
  | false =>
    rw [if_neg (by decide)] at hpi; subst hpi
    exact Ev.no (h2 rfl)
  | true =>
    rw [if_pos rfl] at hpi; subst hpi
    refine Ev.yes (Ev.bind (pisA_ev D a b hab hb h5 hd) ?_)
    cases q : (partialInsertionSort ltInt D a b).2 with
    | true => rw [h1 q]; exact Ev.yes (Ev.now _)
    | false => exact Ev.no (h2 q)
theorem hint_inc (h : Hint) : (hintCode h == 1) = decide (h = .increasing) := by cases h <;> rfl
theorem hint_dec (h : Hint) : (hintCode h = 2) ↔ h = .decreasing := by cases h <;> decide
theorem pdq_j2 (D : Array Int) (a b lim p : Nat) (wb wp : Bool) (hint : Hint) (L : Int) (T : List Int) (hab : a < b) (h5 : b - a < 50) (hb : b ≤ D.size) (hd : D.size ≤ 100000) (pi : Array Int × Bool) (hpi : pi = if (wb && wp && decide (hint = .increasing)) = true then partialInsertionSort ltInt D a b else (D, false))
    (h1 : pi.2 = true → T = pi.1.toList) (h2 : pi.2 = false → Ev (fun k => slices_pdqsortOrdered_byte.j4 k pi.1.toList (a : Int) (b : Int) (lim : Int) wb wp L (p : Int)) T) :
    Ev (fun k => slices_pdqsortOrdered_byte.j2 k D.toList (a : Int) (b : Int) (lim : Int) wb wp L (p : Int) (hintCode hint)) T := by
  have H := pdq_j3 D a b lim p wb wp (wb && wp && decide (hint = .increasing)) L T hab h5 hb hd pi hpi h1 h2
  apply Ev.succ; simp only [slices_pdqsortOrdered_byte.j2, hint_inc]
  cases wb with
  | false => exact Ev.no H
  | true =>
    cases wp with
    | false => exact Ev.yes (Ev.no H)
    | true => exact Ev.yes (Ev.yes H)
theorem pdq_j1 (D : Array Int) (a b lim : Nat) (wb wp : Bool) (L : Int) (T : List Int) (h8 : 8 ≤ b - a) (h5 : b - a < 50) (hb : b ≤ D.size) (hd : D.size ≤ 100000)
    (h : Ev (fun k => slices_pdqsortOrdered_byte.j2 k (if (choosePivot ltInt D a b).2 = .decreasing then reverseRange D a b else D).toList (a : Int) (b : Int) (lim : Int) wb wp L ((if (choosePivot ltInt D a b).2 = .decreasing then (b - 1) - ((choosePivot ltInt D a b).1 - a) else (choosePivot ltInt D a b).1 : Nat) : Int) (hintCode (if (choosePivot ltInt D a b).2 = .decreasing then Hint.increasing else (choosePivot ltInt D a b).2))) T) :
    Ev (fun k => slices_pdqsortOrdered_byte.j1 k D.toList (a : Int) (b : Int) (lim : Int) wb wp L) T := by
  have hc := Go.Sort.choosePivot_holds ltInt D a b (by omega)
  apply Ev.succ; simp only [slices_pdqsortOrdered_byte.j1, pivA D a b h8 h5 hb hd, Option.bind_some, hint_dec]
  by_cases c : (choosePivot ltInt D a b).2 = .decreasing
  · rw [if_pos c, if_pos c, if_pos c] at h
    refine Ev.pos c (Ev.bind (revA_ev D a b hb (by omega) hd) ?_)
    rw [show wrap64 (((choosePivot ltInt D a b).1 : Int) - (a : Int)) = (((choosePivot ltInt D a b).1 - a : Nat) : Int) from wN _ _ (by omega) (by omega), wP b (by omega) (by omega), show wrap64 (((b - 1 : Nat) : Int) - (((choosePivot ltInt D a b).1 - a : Nat) : Int)) = ((b - 1 - ((choosePivot ltInt D a b).1 - a) : Nat) : Int) from wN _ _ (by omega) (by omega)]
    exact h
  · rw [if_neg c, if_neg c, if_neg c] at h
    exact Ev.neg c h
theorem peq_range (d : Array Int) (a b p : Nat) (hap : a ≤ p) (hp : p < b) (hab : a + 1 < b) (hb : b ≤ d.size) : a < (partitionEqual ltInt d a b p).1 ∧ (partitionEqual ltInt d a b p).1 ≤ b ∧ (partitionEqual ltInt d a b p).2.size = d.size := by
  have h := Go.Sort.partEqLoop_spec ltInt a b _ (a + 1) (b - 1) (swp d a p) (Nat.le_refl _) (by omega) (by omega) (by omega) (by rw [sizeA]; exact hb) (fun t h1 h2 => by omega) (fun t h1 h2 => by omega)
  unfold partitionEqual
  exact ⟨h.1, h.2.1, by rw [h.2.2.1.1, sizeA]⟩
end Go.Proofs.YtcidlaabbkimdaaDoor

namespace Go.Proofs.YtcidlaabbkimdaaDoor
open Go.RowKit Go.Proofs.YtcidlaabbkimdaaDoor.P Go.Proofs.YtcidlaabbkimdaaDoorW.PrintWords
open Go.Sort (swp ltInt xorNext bitsLen breakPatterns choosePivot hintOf hintCode Hint reverseRange partialInsertionSort partitionEqual partition pdq insertionSort heapSort)
set_option linter.unusedSimpArgs false
set_option linter.unusedVariables false
theorem pdqA_go (n : Nat) (ih : ∀ (a b limit : Nat) (wb wp : Bool) (d : Array Int), b - a ≤ n → a ≤ b → b - a ≤ 20 → b ≤ d.size → d.size ≤ 100000 → limit ≤ 100 → Ev (fun k => slices_pdqsortOrdered_byte.l0 k d.toList (a : Int) (b : Int) (limit : Int) wb wp) (pdq ltInt d a b limit wb wp).toList ∧ (pdq ltInt d a b limit wb wp).size = d.size)
    (a b lim p : Nat) (wb wp : Bool) (D S : Array Int) (hn : b - a ≤ n + 1) (h12 : ¬ b - a ≤ 12) (h20 : b - a ≤ 20) (hap : a ≤ p) (hp : p < b) (hb : b ≤ D.size) (hd : D.size ≤ 100000) (hl : lim ≤ 100)
    (hS : S = if (decide (a > 0) && !ltInt D[a - 1]! D[p]!) = true then
      (if a < (partitionEqual ltInt D a b p).1 ∧ (partitionEqual ltInt D a b p).1 ≤ b then pdq ltInt (partitionEqual ltInt D a b p).2 (partitionEqual ltInt D a b p).1 b lim wb wp else (partitionEqual ltInt D a b p).2)
    else
      (if a ≤ (partition ltInt D a b p).1 ∧ (partition ltInt D a b p).1 < b then
        (if (partition ltInt D a b p).1 - a < b - (partition ltInt D a b p).1 then
          pdq ltInt (pdq ltInt (partition ltInt D a b p).2.2 a (partition ltInt D a b p).1 lim true true) ((partition ltInt D a b p).1 + 1) b lim (decide ((partition ltInt D a b p).1 - a ≥ (b - a) / 8)) (partition ltInt D a b p).2.1
        else
          pdq ltInt (pdq ltInt (partition ltInt D a b p).2.2 ((partition ltInt D a b p).1 + 1) b lim true true) a (partition ltInt D a b p).1 lim (decide (b - (partition ltInt D a b p).1 ≥ (b - a) / 8)) (partition ltInt D a b p).2.1)
      else (partition ltInt D a b p).2.2)) :
    Ev (fun k => slices_pdqsortOrdered_byte.j4 k D.toList (a : Int) (b : Int) (lim : Int) wb wp ((b - a : Nat) : Int) (p : Int)) S.toList ∧ S.size = D.size := by
  have ihf : ∀ (a b : Nat) (d : Array Int), b - a ≤ n → a ≤ b → b - a ≤ 20 → b ≤ d.size → d.size ≤ 100000 → Ev (fun k => slices_pdqsortOrdered_byte.f k d.toList (a : Int) (b : Int) (lim : Int)) (pdq ltInt d a b lim true true).toList := by
    intro a b d h1 h2 h3 h4 h5
    apply Ev.succ; simp only [slices_pdqsortOrdered_byte.f]
    exact (ih a b lim true true d h1 h2 h3 h4 h5 hl).1
  suffices h : Ev (fun k => slices_pdqsortOrdered_byte.j5 k D.toList (a : Int) (b : Int) (lim : Int) wb wp ((b - a : Nat) : Int) (p : Int) (decide (a > 0) && !ltInt D[a - 1]! D[p]!)) S.toList ∧ S.size = D.size from
    ⟨pdq_j4 D a b lim p wb wp _ _ hp (by omega) hb hd h.1, h.2⟩
  cases q : (decide (a > 0) && !ltInt D[a - 1]! D[p]!) with
  | true =>
    rw [q, if_pos rfl] at hS
    obtain ⟨r1, r2, r3⟩ := peq_range D a b p hap hp (by omega) hb
    rw [if_pos ⟨r1, r2⟩] at hS
    have H := peqA_ev D a b p hp hap (by omega) hb hd
    generalize partitionEqual ltInt D a b p = pe at hS r1 r2 r3 H
    have I := ih pe.1 b lim wb wp pe.2 (by omega) r2 (by omega) (by omega) (by omega) hl
    rw [← hS] at I
    refine ⟨?_, by rw [I.2, r3]⟩
    apply Ev.succ; simp only [slices_pdqsortOrdered_byte.j5]
    exact Ev.yes (Ev.bind H I.1)
  | false =>
    rw [q, if_neg (by decide)] at hS
    obtain ⟨r1, r2, r3, -, -⟩ := Go.Sort.partition_holds ltInt Go.Sort.swo_ltInt D a b p hap hp hb
    replace r3 := r3.1
    rw [if_pos ⟨r1, r2⟩] at hS
    have H := parA_ev D a b p hp hap (by omega) hb hd
    generalize partition ltInt D a b p = pt at hS r1 r2 r3 H
    obtain ⟨mid, ap, d4⟩ := pt
    dsimp only at hS r1 r2 r3 H
    have w1 : ∀ (P : Int → Prop), P ((mid - a : Nat) : Int) → P (wrap64 ((mid : Int) - (a : Int))) := fun P h => by rw [show wrap64 ((mid : Int) - (a : Int)) = ((mid - a : Nat) : Int) from wN _ _ (by omega) (by omega)]; exact h
    have g : Ev (fun n => if ((mid - a : Nat) : Int) < ((b - mid : Nat) : Int) then (slices_pdqsortOrdered_byte.f n d4.toList (a : Int) (mid : Int) (lim : Int)).bind fun t117 => slices_pdqsortOrdered_byte.l0 n t117 ((mid + 1 : Nat) : Int) (b : Int) (lim : Int) (decide (((mid - a : Nat) : Int) ≥ (((b - a) / 8 : Nat) : Int))) ap
        else (slices_pdqsortOrdered_byte.f n d4.toList ((mid + 1 : Nat) : Int) (b : Int) (lim : Int)).bind fun t118 => slices_pdqsortOrdered_byte.l0 n t118 (a : Int) (mid : Int) (lim : Int) (decide (((b - mid : Nat) : Int) ≥ (((b - a) / 8 : Nat) : Int))) ap) S.toList ∧ S.size = D.size := by
      by_cases c : mid - a < b - mid
      · rw [if_pos c] at hS
        have s1 := (ih a mid lim true true d4 (by omega) r1 (by omega) (by omega) (by omega) hl).2
        have I1 := ihf a mid d4 (by omega) r1 (by omega) (by omega) (by omega)
        have I2 := ih (mid + 1) b lim (decide (mid - a ≥ (b - a) / 8)) ap (pdq ltInt d4 a mid lim true true) (by omega) (by omega) (by omega) (by omega) (by omega) hl
        rw [← hS] at I2
        refine ⟨Ev.pos (by omega) (Ev.bind I1 ?_), by rw [I2.2, s1, r3]⟩
        rw [show decide (((mid - a : Nat) : Int) ≥ (((b - a) / 8 : Nat) : Int)) = decide (mid - a ≥ (b - a) / 8) from decide_eq_decide.mpr (by omega)]
        exact I2.1
      · rw [if_neg c] at hS
        have s1 := (ih (mid + 1) b lim true true d4 (by omega) (by omega) (by omega) (by omega) (by omega) hl).2
        have I1 := ihf (mid + 1) b d4 (by omega) (by omega) (by omega) (by omega) (by omega)
        have I2 := ih a mid lim (decide (b - mid ≥ (b - a) / 8)) ap (pdq ltInt d4 (mid + 1) b lim true true) (by omega) (by omega) (by omega) (by omega) (by omega) hl
        rw [← hS] at I2
        refine ⟨Ev.neg (by omega) (Ev.bind I1 ?_), by rw [I2.2, s1, r3]⟩
        rw [show decide (((b - mid : Nat) : Int) ≥ (((b - a) / 8 : Nat) : Int)) = decide (b - mid ≥ (b - a) / 8) from decide_eq_decide.mpr (by omega)]
        exact I2.1
    refine ⟨?_, g.2⟩
    apply Ev.succ; simp only [slices_pdqsortOrdered_byte.j5]
    refine Ev.no (Ev.bind H ?_)
    dsimp only
    rw [show wrap64 ((mid : Int) - (a : Int)) = ((mid - a : Nat) : Int) from wN _ _ (by omega) (by omega), show wrap64 ((b : Int) - (mid : Int)) = ((b - mid : Nat) : Int) from wN _ _ (by omega) (by omega), wS mid (by omega), show wrap64 (Int.tdiv ((b - a : Nat) : Int) 8) = (((b - a) / 8 : Nat) : Int) from wN _ _ (by rw [Int.tdiv_eq_ediv_of_nonneg (by omega)]; omega) (by omega)]
    exact g.1
theorem pdqA : ∀ (n a b limit : Nat) (wb wp : Bool) (d : Array Int), b - a ≤ n → a ≤ b → b - a ≤ 20 → b ≤ d.size → d.size ≤ 100000 → limit ≤ 100 → Ev (fun k => slices_pdqsortOrdered_byte.l0 k d.toList (a : Int) (b : Int) (limit : Int) wb wp) (pdq ltInt d a b limit wb wp).toList ∧ (pdq ltInt d a b limit wb wp).size = d.size := by
  intro n
  induction n with
  | zero =>
    intro a b limit wb wp d hn hab h20 hb hd hl
    rw [Go.Sort.pdq_small (by omega)]
    have hi := Go.Sort.insertionSort_holds (lt := ltInt) Go.Sort.swo_ltInt d a b hab hb
    refine ⟨?_, hi.1.1⟩
    apply Ev.succ; simp only [slices_pdqsortOrdered_byte.l0]
    rw [show wrap64 ((b : Int) - (a : Int)) = ((b - a : Nat) : Int) from wN _ _ (by omega) (by omega)]
    exact Ev.pos (by omega) (Ev.bind (insA_ev d a b hb hab hd) (Ev.now _))
  | succ n ih =>
    intro a b limit wb wp d hn hab h20 hb hd hl
    by_cases h12 : b - a ≤ 12
    · rw [Go.Sort.pdq_small h12]
      have hi := Go.Sort.insertionSort_holds (lt := ltInt) Go.Sort.swo_ltInt d a b hab hb
      refine ⟨?_, hi.1.1⟩
      apply Ev.succ; simp only [slices_pdqsortOrdered_byte.l0]
      rw [show wrap64 ((b : Int) - (a : Int)) = ((b - a : Nat) : Int) from wN _ _ (by omega) (by omega)]
      exact Ev.pos (by omega) (Ev.bind (insA_ev d a b hb hab hd) (Ev.now _))
    by_cases h0 : limit = 0
    · rw [Go.Sort.pdq_heap h12 h0]
      have hi := Go.Sort.heapSort_holds (lt := ltInt) Go.Sort.swo_ltInt d a b hab hb
      refine ⟨?_, hi.1.1⟩
      apply Ev.succ; simp only [slices_pdqsortOrdered_byte.l0]
      rw [show wrap64 ((b : Int) - (a : Int)) = ((b - a : Nat) : Int) from wN _ _ (by omega) (by omega)]
      exact Ev.neg (by omega) (Ev.pos (by omega) (Ev.bind (heapA_ev d a b hb (by omega) hd) (Ev.now _)))
    have hU := Go.Sort.pdq_unfold (lt := ltInt) (d := d) (a := a) (b := b) (limit := limit) (wb := wb) (wp := wp)
    rw [if_neg h12, if_neg h0] at hU
    have s1 : (Go.Sort.rd ltInt d a b limit wb wp).d1.size = d.size := (Go.Sort.step_break d hab hb ((!wb) = true)).1
    have l1 : (Go.Sort.rd ltInt d a b limit wb wp).lim ≤ limit := Go.Sort.rd_lim_le
    have c1 : a ≤ (Go.Sort.rd ltInt d a b limit wb wp).c.1 ∧ (Go.Sort.rd ltInt d a b limit wb wp).c.1 < b := Go.Sort.choosePivot_holds ltInt (Go.Sort.rd ltInt d a b limit wb wp).d1 a b (by omega)
    have s2 : (Go.Sort.rd ltInt d a b limit wb wp).d2.size = (Go.Sort.rd ltInt d a b limit wb wp).d1.size := (Go.Sort.step_reverse Go.Sort.reverseRange_holds (Go.Sort.rd ltInt d a b limit wb wp).d1 hab (by rw [s1]; exact hb) ((Go.Sort.rd ltInt d a b limit wb wp).c.2 = .decreasing)).1
    have pv : a ≤ (Go.Sort.rd ltInt d a b limit wb wp).pivot ∧ (Go.Sort.rd ltInt d a b limit wb wp).pivot < b := Go.Sort.pivot_range c1.1 c1.2 ((Go.Sort.rd ltInt d a b limit wb wp).c.2 = .decreasing)
    have hpi : (Go.Sort.rd ltInt d a b limit wb wp).pi = if (wb && wp && decide ((Go.Sort.rd ltInt d a b limit wb wp).hint = .increasing)) = true then partialInsertionSort ltInt (Go.Sort.rd ltInt d a b limit wb wp).d2 a b else ((Go.Sort.rd ltInt d a b limit wb wp).d2, false) := rfl
    have s3 : (Go.Sort.rd ltInt d a b limit wb wp).pi.1 = (Go.Sort.rd ltInt d a b limit wb wp).d2 := by
      rw [hpi]
      split
      · rw [pis_eq _ a b _ rfl (by omega)]
      · rfl
    have K : ∀ T, Ev (fun k => slices_pdqsortOrdered_byte.j1 k (Go.Sort.rd ltInt d a b limit wb wp).d1.toList (a : Int) (b : Int) ((Go.Sort.rd ltInt d a b limit wb wp).lim : Int) wb wp ((b - a : Nat) : Int)) T → Ev (fun k => slices_pdqsortOrdered_byte.l0 k d.toList (a : Int) (b : Int) (limit : Int) wb wp) T := by
      intro T hT
      apply Ev.succ; simp only [slices_pdqsortOrdered_byte.l0]
      rw [show wrap64 ((b : Int) - (a : Int)) = ((b - a : Nat) : Int) from wN _ _ (by omega) (by omega)]
      refine Ev.neg (by omega) (Ev.neg (by omega) ?_)
      cases wb with
      | true => exact Ev.yes hT
      | false =>
        rw [wP limit (by omega) (by omega)]
        exact Ev.no (Ev.bindc (brkA d a b (by omega) h20 hb hd) hT)
    have J : ∀ T, Ev (fun k => slices_pdqsortOrdered_byte.j2 k (Go.Sort.rd ltInt d a b limit wb wp).d2.toList (a : Int) (b : Int) ((Go.Sort.rd ltInt d a b limit wb wp).lim : Int) wb wp ((b - a : Nat) : Int) ((Go.Sort.rd ltInt d a b limit wb wp).pivot : Int) (hintCode (Go.Sort.rd ltInt d a b limit wb wp).hint)) T → Ev (fun k => slices_pdqsortOrdered_byte.l0 k d.toList (a : Int) (b : Int) (limit : Int) wb wp) T := by
      intro T hT
      exact K T (pdq_j1 (Go.Sort.rd ltInt d a b limit wb wp).d1 a b _ wb wp _ T (by omega) (by omega) (by rw [s1]; exact hb) (by rw [s1]; exact hd) hT)
    clear K c1
    generalize Go.Sort.rd ltInt d a b limit wb wp = R at *
    generalize pdq ltInt d a b limit wb wp = S at *
    have hG := fun h => pdqA_go n ih a b R.lim R.pivot wb wp R.pi.1 S hn h12 h20 pv.1 pv.2 (by rw [s3, s2, s1]; exact hb) (by rw [s3, s2, s1]; exact hd) (by omega) h
    cases q : R.pi.2 with
    | true =>
      rw [q, if_pos rfl] at hU
      refine ⟨J _ (pdq_j2 R.d2 a b R.lim R.pivot wb wp R.hint _ _ (by omega) (by omega) (by rw [s2, s1]; exact hb) (by rw [s2, s1]; exact hd) R.pi hpi (fun _ => by rw [hU]) (fun h => by rw [q] at h; exact absurd h (by decide))), by rw [hU, s3, s2, s1]⟩
    | false =>
      rw [q, if_neg (by decide)] at hU
      have hH := hG hU
      refine ⟨J _ (pdq_j2 R.d2 a b R.lim R.pivot wb wp R.hint _ _ (by omega) (by omega) (by rw [s2, s1]; exact hb) (by rw [s2, s1]; exact hd) R.pi hpi (fun h => by rw [q] at h; exact absurd h (by decide)) (fun _ => hH.1)), by rw [hH.2, s3, s2, s1]⟩
/-- The sort of up to twenty bytes. -/
theorem sortB_ev (l : List Int) (h : l.length ≤ 20) : Ev (fun k => slices_Sort_byte_byte.f k l) (l.mergeSort fun x y => decide (x ≤ y)) := by
  have hb : ∀ n : Nat, n ≤ 20 → bits_Len.f (IntKind.u64.wrap (n : Int)) = some ((bitsLen n : Nat) : Int) ∧ bitsLen n ≤ 100 := by
    intro n hn
    have : n = 0 ∨ n = 1 ∨ n = 2 ∨ n = 3 ∨ n = 4 ∨ n = 5 ∨ n = 6 ∨ n = 7 ∨ n = 8 ∨ n = 9 ∨ n = 10 ∨ n = 11 ∨ n = 12 ∨ n = 13 ∨ n = 14 ∨ n = 15 ∨ n = 16 ∨ n = 17 ∨ n = 18 ∨ n = 19 ∨ n = 20 := by omega
    rcases this with rfl | rfl | rfl | rfl | rfl | rfl | rfl | rfl | rfl | rfl | rfl | rfl | rfl | rfl | rfl | rfl | rfl | rfl | rfl | rfl | rfl <;> decide +kernel
  have hs := Go.Sort.sortInt l
  obtain ⟨h1, h2⟩ := hb l.length h
  have hp := (pdqA 20 0 l.length (bitsLen l.length) true true l.toArray (by omega) (by omega) (by omega) (by simp) (by simp; omega) h2).1
  have hq : Ev (fun k => slices_pdqsortOrdered_byte.f k l 0 (l.length : Int) ((bitsLen l.length : Nat) : Int)) (l.mergeSort fun x y => decide (x ≤ y)) := by
    apply Ev.succ; simp only [slices_pdqsortOrdered_byte.f]
    rw [← hs]
    exact hp
  unfold slices_Sort_byte_byte.f
  exact Ev.bindc h1 (Ev.bind hq (Ev.now _))
end Go.Proofs.YtcidlaabbkimdaaDoor

namespace Go.Proofs.YtcidlaabbkimdaaDoor
open Go.RowKit Go.Proofs.YtcidlaabbkimdaaDoor.P Go.Proofs.YtcidlaabbkimdaaDoorW.PrintWords
set_option linter.unusedSimpArgs false
set_option linter.unusedVariables false
theorem over_eq (s cs : ByteArray) (h1 : s.size ≤ 9223372036854775807) (h2 : cs.size < 4294967281) (h3 : (bl cs).all (fun b => decide (b.toNat < 128)) = true) : impl_over.f s cs = some ((bl s).all ((bl cs).contains ·)) := by
  unfold impl_over.f strings_Trim.f
  rw [if_pos ⟨h1, h2, h3⟩]
  simp only [Option.bind_some]
  congr 1
  rw [bl_toList, bl_mk, List.toList_toArray]
  have := trimS_nil (bl s) (bl cs)
  unfold bl at this ⊢
  rw [Bool.eq_iff_iff, beq_iff_eq]
  exact this
theorem overLow_eq (s : ByteArray) (h1 : s.size ≤ 9223372036854775807) : impl_over.f s (⟨#[97, 98, 99, 100, 101, 102, 103, 104, 105, 106, 107, 108, 109, 110, 111, 112, 113, 114, 115, 116, 117, 118, 119, 120, 121, 122]⟩ : ByteArray) = some ((bl s).all isLow) := by
  rw [over_eq s _ h1 (by decide) (by decide)]
  congr 1
  congr 1
  funext c
  exact low_contains c
/-- Is it a text? -/
def textB (l : List UInt8) : Bool := decide (l.length ≤ 20) && l.all isLow
theorem isText_eq (s : ByteArray) (h1 : s.size ≤ 9223372036854775807) : impl_isText.f s = some (textB (bl s)) := by
  unfold impl_isText.f textB
  by_cases c : s.size ≤ 20
  · rw [if_pos (by omega), overLow_eq s h1, decide_eq_true (by rw [← bl_len]; exact c)]; rfl
  · rw [if_neg (by omega), decide_eq_false (by rw [← bl_len]; exact c), Bool.false_and]
theorem bkText_l0 (s : ByteArray) (hs : s.size ≤ 9223372036854775806) : ∀ (d i : Nat), i + d = s.size → Ev (fun k => spec_bkText.l0 k s i) (((bl s).drop i).all isLow)
  | 0, i, hi => by
    apply Ev.succ
    simp only [spec_bkText.l0]
    refine Ev.neg (by omega) (Ev.const ?_)
    rw [List.drop_of_length_le (by rw [← bl_len]; omega)]; rfl
  | d + 1, i, hi => by
    have hlt : i < (bl s).length := by rw [← bl_len]; omega
    apply Ev.succ
    simp only [spec_bkText.l0]
    refine Ev.pos (by omega) (Ev.pos (by omega) ?_)
    rw [wrap_id (by omega) (by omega), bt_nat s i hlt, List.drop_eq_getElem_cons hlt, List.all_cons]
    by_cases c1 : ((bl s)[i].toNat : Int) < 97
    · refine Ev.pos c1 (Ev.const ?_)
      have : isLow (bl s)[i] = false := by unfold isLow; rw [Bool.and_eq_false_iff]; left; rw [decide_eq_false_iff_not]; omega
      rw [this]; rfl
    · refine Ev.neg c1 ?_
      by_cases c2 : ((bl s)[i].toNat : Int) > 122
      · refine Ev.pos c2 (Ev.const ?_)
        have : isLow (bl s)[i] = false := by unfold isLow; rw [Bool.and_eq_false_iff]; right; rw [decide_eq_false_iff_not]; omega
        rw [this]; rfl
      · refine Ev.neg c2 ?_
        have : isLow (bl s)[i] = true := by unfold isLow; rw [Bool.and_eq_true, decide_eq_true_eq, decide_eq_true_eq]; omega
        rw [this, Bool.true_and]
        exact_mod_cast bkText_l0 s hs d (i + 1) (by omega)
theorem bkText_ev (s : ByteArray) : Ev (fun k => spec_bkText.f k s) (textB (bl s)) := by
  unfold spec_bkText.f textB
  by_cases c : s.size ≤ 20
  · refine Ev.neg (by omega) ?_
    rw [decide_eq_true (by rw [← bl_len]; exact c), Bool.true_and]
    exact bkText_l0 s (by omega) s.size 0 (by omega)
  · refine Ev.pos (by omega) (Ev.const ?_)
    rw [decide_eq_false (by rw [← bl_len]; exact c), Bool.false_and]
end Go.Proofs.YtcidlaabbkimdaaDoor

namespace Go.Proofs.YtcidlaabbkimdaaDoor
open Go.RowKit Go.Proofs.YtcidlaabbkimdaaDoor.P Go.Proofs.YtcidlaabbkimdaaDoorW.PrintWords
set_option linter.unusedSimpArgs false
set_option linter.unusedVariables false
/-! The letters of a text: its bytes sorted, each once; or those of a to z that are in it. -/
theorem compact_int (t : List Int) (hs : t.Pairwise (· ≤ ·)) : ∀ m : Nat, m ≤ t.length → (Lib.compactUpTo t.toArray m).Pairwise (· < ·) ∧ ∀ z, z ∈ Lib.compactUpTo t.toArray m ↔ z ∈ t.take m
  | 0, _ => by
    unfold Lib.compactUpTo
    exact ⟨List.Pairwise.nil, fun z => by simp⟩
  | m + 1, hm => by
    obtain ⟨i1, i2⟩ := compact_int t hs m (by omega)
    have hlt : m < t.length := by omega
    have eg : t.toArray[m]! = t[m] := by rw [getElem!_pos t.toArray m (by simpa using hlt)]; simp
    have et : t.take (m + 1) = t.take m ++ [t[m]] := by rw [List.take_succ_eq_append_getElem hlt]
    rw [Lib.compactUpTo_succ, eg, et]
    by_cases k : Lib.keeps t.toArray m = true
    · rw [if_pos k]
      refine ⟨?_, fun z => by rw [List.mem_append, List.mem_append, i2]⟩
      rw [List.pairwise_append]
      refine ⟨i1, List.pairwise_singleton _ _, fun a ha b hb => ?_⟩
      rw [List.mem_singleton.1 hb]
      obtain ⟨i, hi, rfl⟩ := List.mem_iff_getElem.1 ((i2 a).1 ha)
      rw [List.length_take] at hi
      rw [List.getElem_take]
      unfold Lib.keeps at k
      rw [decide_eq_true_eq] at k
      have h0 : m ≠ 0 := by omega
      have k' := k.resolve_left h0
      rw [eg, getElem!_pos t.toArray (m - 1) (by simp; omega)] at k'
      have k2 : t[m] ≠ t[m - 1] := by simpa using k'
      have hle : t[m - 1] ≤ t[m] := List.pairwise_iff_getElem.1 hs (m - 1) m (by omega) hlt (by omega)
      rcases Nat.lt_or_ge i (m - 1) with q | q
      · have h3 : t[i] ≤ t[m - 1] := List.pairwise_iff_getElem.1 hs i (m - 1) (by omega) (by omega) q
        omega
      · have e : i = m - 1 := by omega
        subst e
        omega
    · rw [if_neg k, List.append_nil]
      refine ⟨i1, fun z => ?_⟩
      rw [i2, List.mem_append, List.mem_singleton]
      refine ⟨fun h => .inl h, fun h => h.elim id (fun e => ?_)⟩
      unfold Lib.keeps at k
      rw [decide_eq_true_eq, not_or, Decidable.not_not] at k
      obtain ⟨k1, k2⟩ := k
      rw [eg, getElem!_pos t.toArray (m - 1) (by simp; omega)] at k2
      rw [e, k2, List.mem_iff_getElem]
      exact ⟨m - 1, by rw [List.length_take]; omega, by rw [List.getElem_take]; simp⟩
theorem asc_ext : ∀ l m : List Int, l.Pairwise (· < ·) → m.Pairwise (· < ·) → (∀ z, z ∈ l ↔ z ∈ m) → l = m
  | [], [], _, _, _ => rfl
  | [], b :: m, _, _, h => absurd ((h b).2 List.mem_cons_self) List.not_mem_nil
  | a :: l, [], _, _, h => absurd ((h a).1 List.mem_cons_self) List.not_mem_nil
  | a :: l, b :: m, h1, h2, h => by
    have ha := List.pairwise_cons.1 h1
    have hb := List.pairwise_cons.1 h2
    have e : a = b := by
      rcases List.mem_cons.1 ((h a).1 List.mem_cons_self) with e | e
      · exact e
      · rcases List.mem_cons.1 ((h b).2 List.mem_cons_self) with e2 | e2
        · exact e2.symm
        · have := hb.1 a e; have := ha.1 b e2; omega
    subst e
    rw [asc_ext l m ha.2 hb.2 (fun z => ⟨fun q => ?_, fun q => ?_⟩)]
    · rcases List.mem_cons.1 ((h z).1 (List.mem_cons_of_mem _ q)) with e | e
      · have := ha.1 z q; omega
      · exact e
    · rcases List.mem_cons.1 ((h z).2 (List.mem_cons_of_mem _ q)) with e | e
      · have := hb.1 z q; omega
      · exact e
/-- Those of a to z that are in it. -/
def letL (l : List UInt8) : List UInt8 := ((List.range' 97 26).map UInt8.ofNat).filter (l.contains ·)
theorem low_mem (c : UInt8) (h : isLow c = true) : c ∈ (List.range' 97 26).map UInt8.ofNat :=
  u8_all (fun c => isLow c = true → c ∈ (List.range' 97 26).map UInt8.ofNat) (by decide +kernel) c h
theorem letL_mem (l : List UInt8) (hl : l.all isLow = true) (c : UInt8) : c ∈ letL l ↔ c ∈ l := by
  unfold letL
  rw [List.mem_filter, List.contains_iff_mem]
  exact ⟨fun h => h.2, fun h => ⟨low_mem c (List.all_eq_true.1 hl c h), h⟩⟩
theorem letL_asc (l : List UInt8) : ((letL l).map fun b => (b.toNat : Int)).Pairwise (· < ·) := by
  rw [List.pairwise_map]
  have h : ((List.range' 97 26).map UInt8.ofNat).Pairwise (fun a b => (a.toNat : Int) < (b.toNat : Int)) := by decide +kernel
  exact h.sublist List.filter_sublist
theorem back_map (l : List UInt8) : (l.map fun b => (b.toNat : Int)).map (fun x => UInt8.ofNat x.toNat) = l := by
  rw [List.map_map]
  have : ((fun x : Int => UInt8.ofNat x.toNat) ∘ fun b : UInt8 => (b.toNat : Int)) = id := by
    funext b; exact of_toNat b
  rw [this, List.map_id]
/-- The text of its letters. -/
def letS (s : ByteArray) : ByteArray := ⟨(letL (bl s)).toArray⟩
theorem bl_letS (s : ByteArray) : bl (letS s) = letL (bl s) := by unfold letS; rw [bl_mk, List.toList_toArray]
theorem lettersOf_ev (s : ByteArray) (hs : s.size ≤ 20) (hl : (bl s).all isLow = true) : Ev (fun k => impl_lettersOf.f k s) (letS s) := by
  have hlb : (bytesOf s).length = s.size := by unfold bytesOf; rw [List.length_map]; rfl
  have hbo : bytesOf s = (bl s).map fun b => (b.toNat : Int) := rfl
  have t3 := sortB_ev (bytesOf s) (by omega)
  have t1 : ((bytesOf s).mergeSort fun x y => decide (x ≤ y)).Perm (bytesOf s) := List.mergeSort_perm _ _
  have t2 : ((bytesOf s).mergeSort fun x y => decide (x ≤ y)).Pairwise (· ≤ ·) := by
    refine (List.pairwise_mergeSort (le := fun x y : Int => decide (x ≤ y)) (fun a b c h1 h2 => ?_) (fun a b => ?_) (bytesOf s)).imp (fun h => of_decide_eq_true h)
    · have := of_decide_eq_true h1; have := of_decide_eq_true h2; exact decide_eq_true (by omega)
    · rcases Int.le_total a b with q | q
      · rw [decide_eq_true q]; rfl
      · rw [decide_eq_true q, Bool.or_true]
  generalize ((bytesOf s).mergeSort fun x y => decide (x ≤ y)) = t at t1 t2 t3
  have hlen : t.length = s.size := by rw [t1.length_eq, hlb]
  have hall : ∀ x ∈ t, 0 ≤ x ∧ x < 256 := by
    intro x hx
    have := t1.mem_iff.1 hx
    rw [hbo, List.mem_map] at this
    obtain ⟨b, _, rfl⟩ := this
    have := b.toNat_lt
    omega
  obtain ⟨c1, c2⟩ := compact_int t t2 t.length (Nat.le_refl _)
  have e : Lib.compactUpTo t.toArray t.length = (letL (bl s)).map fun b => (b.toNat : Int) := by
    refine asc_ext _ _ c1 (letL_asc _) (fun z => ?_)
    rw [c2, List.take_length, t1.mem_iff, hbo, List.mem_map, List.mem_map]
    constructor
    · rintro ⟨b, hb, rfl⟩; exact ⟨b, (letL_mem _ hl b).2 hb, rfl⟩
    · rintro ⟨b, hb, rfl⟩; exact ⟨b, (letL_mem _ hl b).1 hb, rfl⟩
  unfold impl_lettersOf.f
  refine Ev.bind t3 (Ev.const ?_)
  rw [if_pos ⟨hlen, by omega, by rw [List.all_eq_true]; intro x hx; simpa using hall x hx⟩, e, back_map]
  rfl
/-! ### the reference -/
theorem bkHas_l0 (s : ByteArray) (c : UInt8) (hs : s.size ≤ 1000000) : ∀ d i : Nat, i + d = s.size → Ev (fun k => spec_bkHas.l0 k s (c.toNat : Int) (i : Int)) (((bl s).drop i).contains c)
  | 0, i, hi => by
    apply Ev.succ; simp only [spec_bkHas.l0]
    refine Ev.neg (by omega) (Ev.const ?_)
    rw [List.drop_of_length_le (by rw [← bl_len]; omega)]; rfl
  | d + 1, i, hi => by
    have hlt : i < (bl s).length := by rw [← bl_len]; omega
    apply Ev.succ; simp only [spec_bkHas.l0]
    refine Ev.pos (by omega) (Ev.pos (by omega) ?_)
    rw [wrap_id (by omega) (by omega), bt_nat s i hlt, List.drop_eq_getElem_cons hlt, List.contains_cons]
    by_cases q : (bl s)[i] = c
    · refine Ev.pos (by rw [q]) (Ev.const ?_)
      rw [q]; simp
    · refine Ev.neg (fun h => q ((byte_eq _ _).1 h)) ?_
      rw [show (c == (bl s)[i]) = false by simpa using fun h => q h.symm, Bool.false_or]
      exact_mod_cast bkHas_l0 s c hs d (i + 1) (by omega)
theorem bkHas_ev (s : ByteArray) (c : UInt8) (hs : s.size ≤ 1000000) : Ev (fun k => spec_bkHas.f k s (c.toNat : Int)) ((bl s).contains c) := bkHas_l0 s c hs s.size 0 (by omega)
theorem enc_low : ∀ c : Nat, c < 123 → 97 ≤ c → Utf8.encode (wrap32 (c : Int)) = ⟨#[UInt8.ofNat c]⟩ := by decide +kernel
theorem bkL_l0 (s : ByteArray) (hs : s.size ≤ 1000000) : ∀ (d c : Nat) (x : ByteArray), c + d = 123 → 97 ≤ c → x.size ≤ c → ∃ r, Ev (fun k => spec_bkLettersOf.l0 k s x (c : Int)) r ∧ bl r = bl x ++ ((List.range' c d).map UInt8.ofNat).filter ((bl s).contains ·)
  | 0, c, x, hc, h97, hx => by
    refine ⟨x, ?_, by simp⟩
    apply Ev.succ; simp only [spec_bkLettersOf.l0]
    exact Ev.neg (by omega) (Ev.now _)
  | d + 1, c, x, hc, h97, hx => by
    have hb := bkHas_ev s (UInt8.ofNat c) hs
    rw [show (((UInt8.ofNat c).toNat : Nat) : Int) = (c : Int) by rw [show (UInt8.ofNat c).toNat = c from by simp; omega]] at hb
    have en : ((c : Int) + 1) % 256 = ((c + 1 : Nat) : Int) := by omega
    rw [List.range'_succ, List.map_cons, List.filter_cons]
    cases q : (bl s).contains (UInt8.ofNat c) with
    | true =>
      have hz : (x ++ (⟨#[UInt8.ofNat c]⟩ : ByteArray)).size = x.size + 1 := by rw [ByteArray.size_append]; rfl
      obtain ⟨r, r1, r2⟩ := bkL_l0 s hs d (c + 1) (x ++ ⟨#[UInt8.ofNat c]⟩) (by omega) (by omega) (by omega)
      refine ⟨r, ?_, by rw [r2, bl_append, if_pos rfl, List.append_assoc]; rfl⟩
      apply Ev.succ; simp only [spec_bkLettersOf.l0, en, enc_low c (by omega) h97]
      refine Ev.pos (by omega) (Ev.bind hb ?_)
      rw [q]
      exact Ev.yes (Ev.pos (by show x.size + 1 ≤ _; omega) r1)
    | false =>
      obtain ⟨r, r1, r2⟩ := bkL_l0 s hs d (c + 1) x (by omega) (by omega) (by omega)
      refine ⟨r, ?_, by rw [r2, if_neg (by decide)]⟩
      apply Ev.succ; simp only [spec_bkLettersOf.l0, en]
      refine Ev.pos (by omega) (Ev.bind hb ?_)
      rw [q]
      exact Ev.no r1
theorem bkLettersOf_ev (s : ByteArray) (hs : s.size ≤ 1000000) : Ev (fun k => spec_bkLettersOf.f k s) (letS s) := by
  obtain ⟨r, r1, r2⟩ := bkL_l0 s hs 26 97 ⟨#[]⟩ rfl (Nat.le_refl _) (by show 0 ≤ 97; omega)
  have e : r = letS s := bl_inj (by rw [r2, bl_letS, bl_empty]; rfl)
  rw [← e]
  exact r1
end Go.Proofs.YtcidlaabbkimdaaDoor

/- FnExactCountShown: three to the number of letters on both sides: over the functions that the walk computes. -/
namespace Go.Proofs.YtcidlaabbkimdaaDoor
open Go.RowKit Go.Proofs.YtcidlaabbkimdaaDoor.P Go.Proofs.YtcidlaabbkimdaaDoorW.PrintWords
set_option linter.unusedSimpArgs false
set_option linter.unusedVariables false
theorem tri_same : ∀ (n : Nat) (x : Int), triS n x = triN n x
  | 0, _ => rfl
  | n + 1, x => tri_same n (wrap64 (x * 3))
theorem letS_ascii (s : ByteArray) : ((letS s).data.toList.all fun c => decide (c.toNat < 128)) = true := by
  rw [show (letS s).data.toList = letL (bl s) from bl_letS s, List.all_eq_true]
  intro c hc
  unfold letL at hc
  obtain ⟨h, _⟩ := List.mem_filter.1 hc
  obtain ⟨n, hn, rfl⟩ := List.mem_map.1 h
  rw [List.mem_range'] at hn
  obtain ⟨i, hi, rfl⟩ := hn
  rw [decide_eq_true_eq, UInt8.toNat_ofNat']
  omega
theorem countShown_both (s : ByteArray) (h : s.size ≤ 9223372036854775807) : ∃ r : Int × Bool, Ev (fun k => spec_CountShown.f k s) r ∧ Ev (fun k => impl_CountShown.f k s) r := by
  unfold spec_CountShown.f impl_CountShown.f
  have hb := bkText_ev s
  have hi := isText_eq s h
  cases ht : textB (bl s) with
  | false => exact ⟨(0, false), Ev.bind hb (by rw [ht]; exact Ev.no (Ev.now _)), Ev.bindc hi (by rw [ht]; exact Ev.no (Ev.now _))⟩
  | true =>
    have ht' := ht
    unfold textB at ht'
    rw [Bool.and_eq_true, decide_eq_true_eq] at ht'
    have hz : s.size ≤ 20 := ht'.1
    have hasc := letS_ascii s
    refine ⟨(triN (letS s).size 1, true), Ev.bind hb ?_, Ev.bindc hi ?_⟩
    · rw [ht]
      refine Ev.yes (Ev.bind (bkLettersOf_ev s (by omega)) (Ev.pos hasc ?_))
      rw [tri_same]
      exact Ev.now _
    · rw [ht]
      exact Ev.yes (Ev.bind (lettersOf_ev s hz ht'.2) (Ev.pos hasc (Ev.now _)))
theorem pure_FnExactCountShown : PureFnExactCountShown := by
  intro s hs
  suffices h : Ev (fun k => laws_FnExactCountShown.f k s) true by obtain ⟨k, hk⟩ := h; exact ⟨k, hk k (Nat.le_refl _)⟩
  unfold laws_FnExactCountShown.f
  by_cases c : (s.size : Int) > 1048576
  · exact Ev.pos c (Ev.now _)
  · refine Ev.neg c ?_
    obtain ⟨r, r1, r2⟩ := countShown_both s hs
    refine Ev.bind r1 (Ev.bind r2 (Ev.pos rfl ?_))
    exact Ev.neg (by simp) (Ev.now _)
end Go.Proofs.YtcidlaabbkimdaaDoor

namespace Go.Proofs.YtcidlaabbkimdaaDoor
open Go.RowKit Go.Proofs.YtcidlaabbkimdaaDoorW.PrintWords Go.ChangeShapes Go.WideShapes

theorem C_scalar {α : Type} {enc : α → Value} {h1 : ∀ x, (enc x).oneCell' = true} {w : World} {A : Option Addr} {l : List α} (hn : l.length ≤ 9223372036854775807)
    (hcell : 0 < l.length → ∃ ad, A = some ad ∧ ∀ j x, l[j]? = some x → w.cell? (ad.add j) = some (enc x)) : (Kd.scalar enc h1).C w A l.length l := by
  refine ⟨rfl, hn, fun hp => ?_⟩
  obtain ⟨ad, hA, hc⟩ := hcell hp
  refine ⟨ad, hA, fun j x hx => ⟨[enc x], rfl, rfl, fun i u hu => ?_⟩⟩
  match i, hu with
  | 0, hu =>
    have : enc x = u := by simpa using hu
    subst this
    show w.cell? (ad.add (j * 1 + 0)) = _
    rw [Nat.mul_one, Nat.add_zero]
    exact hc j x hx
  | i + 1, hu => simp at hu

section
variable {H : Type} {enc : TypeId × Value → H} {P : Program} {w : World} {base : Nat} {spare : Nat → Bool} {held : Bool}

/-- A cell that reads at a slice of whole numbers. -/
theorem read_ints {t e : TypeId} {k : IntKind} {fuel : Nat} {v : Value} {y : DataW H × List MemPlace} (ht : P.underlying t = some (.slice e)) (he : P.underlying e = some (.int k)) (hc : P.cellsOf e = 1)
    (hf : DataW.trod enc P w base spare held fuel t [v] = some y) :
    ∃ (A : Option Addr) (c : Nat) (l : List Int), v = .slice A l.length c ∧ l.length ≤ c ∧ (∀ x ∈ l, (Lit.int k x).wf = true) ∧ (Kd.int k).C w A l.length l := by
  rcases open_ints ht he hc hf with ⟨hcs, _⟩ | ⟨a, len, cap, zs, hcs, _, hl, hm, hz, _, hcell, hwf⟩
  · obtain rfl : v = .slice none 0 0 := by simpa using hcs
    exact ⟨none, 0, [], rfl, Nat.le_refl _, fun x hx => by simp at hx, rfl, by simp, fun h => absurd h (by simp)⟩
  · obtain rfl : v = .slice (some a) len cap := by simpa using hcs
    have hlz : len ≤ zs.length := by rw [hz]; split <;> omega
    have hlen : (zs.take len).length = len := by rw [List.length_take]; omega
    refine ⟨some a, cap, zs.take len, by rw [hlen], by rw [hlen]; exact hl, fun x hx => hwf x (List.mem_of_mem_take hx), ?_⟩
    refine C_scalar (by rw [hlen]; unfold maxLen at hm; omega) (fun hp => ⟨a, rfl, fun j x hj => ?_⟩)
    have hj' : j < len := by have := (List.getElem?_eq_some_iff.1 hj).1; rw [hlen] at this; exact this
    rw [hcell j (by omega)]
    rw [List.getElem?_take_of_lt hj'] at hj
    rw [List.getD_eq_getElem?_getD, hj]; rfl

/-- A cell that reads at a slice of strings. -/
theorem read_strs {t e : TypeId} {fuel : Nat} {v : Value} {y : DataW H × List MemPlace} (ht : P.underlying t = some (.slice e)) (he : P.underlying e = some .string) (hc : P.cellsOf e = 1)
    (hf : DataW.trod enc P w base spare held fuel t [v] = some y) :
    ∃ (A : Option Addr) (c : Nat) (l : List ByteArray), v = .slice A l.length c ∧ l.length ≤ c ∧ (∀ s ∈ l, s.size ≤ 9223372036854775807) ∧ Kd.string.C w A l.length l := by
  rcases open_strings ht he hc hf with ⟨hcs, _⟩ | ⟨a, len, cap, zs, hcs, _, hl, hm, hz, _, hcell, hwf⟩
  · obtain rfl : v = .slice none 0 0 := by simpa using hcs
    exact ⟨none, 0, [], rfl, Nat.le_refl _, fun x hx => by simp at hx, rfl, by simp, fun h => absurd h (by simp)⟩
  · obtain rfl : v = .slice (some a) len cap := by simpa using hcs
    have hlz : len ≤ zs.length := by rw [hz]; split <;> omega
    have hlen : (zs.take len).length = len := by rw [List.length_take]; omega
    refine ⟨some a, cap, zs.take len, by rw [hlen], by rw [hlen]; exact hl, fun x hx => by have := hwf x (List.mem_of_mem_take hx); unfold maxLen at this; omega, ?_⟩
    refine C_scalar (by rw [hlen]; unfold maxLen at hm; omega) (fun hp => ⟨a, rfl, fun j x hj => ?_⟩)
    have hj' : j < len := by have := (List.getElem?_eq_some_iff.1 hj).1; rw [hlen] at this; exact this
    rw [hcell j (by omega)]
    rw [List.getElem?_take_of_lt hj'] at hj
    rw [List.getD_eq_getElem?_getD, hj]; rfl

theorem read_int {t : TypeId} {k : IntKind} {fuel : Nat} {v : Value} {y : DataW H × List MemPlace} (ht : P.underlying t = some (.int k))
    (hf : DataW.trod enc P w base spare held fuel t [v] = some y) : ∃ n : Int, v = .int k n ∧ (Lit.int k n).wf = true := by
  obtain ⟨n, e1, _, h⟩ := DataW.trod_int ht hf
  exact ⟨n, by simpa using e1, h⟩
end

/-- The cells of a datum that holds numbers alone, an array's elements being numbers or structs of numbers. -/
def litsOf : DataW Unit → List Value
  | .lit (.int k n) => [.int k n]
  | .agg l => l.flatMap fun
    | .lit (.int k n) => [.int k n]
    | .agg l2 => l2.flatMap fun
      | .lit (.int k n) => [.int k n]
      | _ => []
    | _ => []
  | _ => []
end Go.Proofs.YtcidlaabbkimdaaDoor

/- FnExactCountShownCardSaid: the law 'FnExactCountShown' answers true for every input, and leaves its arguments as they were. The row and its tied card, over the walk of its calls and the pure statement. -/
namespace Go.Proofs.YtcidlaabbkimdaaDoor.fnExactCountShown
open Go.ChangeShapes Go.WideShapes Go.ChangeAt Go.RowKit Go.Proofs.YtcidlaabbkimdaaDoor.P Go.Proofs.YtcidlaabbkimdaaDoorW.PrintWords
open Go.ChangeMaps (open_string shut_string)
set_option linter.unusedVariables false
theorem own : ownKnob Tryd.prog.godebug = none := by kernel_rfl
/-- What the row lists of package-level variables. -/
noncomputable def laidList : List (String × DataW Unit) := [("unicode/utf8.acceptRanges", Rows.laid_unicode_utf8_acceptRanges), ("unicode/utf8.first", Rows.laid_unicode_utf8_first)]
/-- A world that meets it: the settled one, the listed variables laid. -/
noncomputable def laidWorld (os : Os) : World :=
  let w0 := World.holding Tryd.prog os ⟨#[], #[], []⟩
  { w0 with heap := ((w0.heap.modify 2 fun o => match o with | .cells _ t frozen => .cells (litsOf Rows.laid_unicode_utf8_acceptRanges).toArray t frozen | o => o).modify 1 fun o => match o with | .cells _ t frozen => .cells (litsOf Rows.laid_unicode_utf8_first).toArray t frozen | o => o) }
theorem laidWorld_met (os : Os) (args : Array Value) : laidMetH Tryd.prog laidList ((laidWorld os).forCall (fun _ _ => 0) ⟨#[], args, []⟩).memory :=
  laidMetH_of_parts3 (fuel := 8) (laidMet_of_run' 8 (by kernel_rfl) (by kernel_rfl)) (by kernel_rfl) (by kernel_rfl)
set_option maxRecDepth 100000 in
theorem lifted (os : Os) (started : os.Started) (H : Type) (enc : TypeId × Value → H) :
    ReturnsInHanded {} Tryd.checked os 4 .any (fun w args => (Rows.fnExactCountShownSpec.pre enc Tryd.prog Tryd.f4 [] false w args ∧ laidMetH Tryd.prog laidList w) ∧ sizedMet enc Tryd.prog Tryd.f4 (OpenSpec.ofChange Rows.fnExactCountShownSpec) false w args)
      (Rows.fnExactCountShownSpec.post enc Tryd.prog Tryd.f4 false true false false) := by
  refine returnsInHanded_of_change_and (C := Tryd.checked) (X := fun w _ => laidMetH Tryd.prog laidList w) (fun _ _ _ hh h => h.of_heap hh) own started (by kernel_rfl) Tryd.func4
    (ChangeSpec.witness_at (enc := enc) (C := Tryd.checked) (os := os) (X := fun w _ => laidMetH Tryd.prog laidList w) false (laidWorld os) #[.string ByteArray.empty] 8 rfl (by kernel_rfl) (by kernel_rfl) (by kernel_rfl) (by kernel_rfl) (by kernel_rfl) (laidWorld_met os _)) ?_
  intro W base args ds gs before hval0 hW _ _ hL _
  have hval : ∀ (j : Nat) t v, Tryd.f4.params[j]? = some t → args[j]? = some v → Value.okWide Tryd.prog W .any base t v := hval0
  have hW' := hW
  obtain ⟨p, q, hA0, hV, rfl, hfz, hnd⟩ := hW
  have hA : DataW.TrodAll enc Tryd.prog W 0 (fun _ => true) true Tryd.f4.params.toList args.toList ds p := hA0
  rw [Tryd.params4] at hA hval
  obtain ⟨v0, vs0, d0, ds0, p0, q0, hargs, rfl, rfl, h0, r0⟩ := trodAll_cons hA
  obtain ⟨rfl, rfl, rfl⟩ := trodAll_nil r0
  obtain rfl : args = #[v0] := by cases args; simp_all
  obtain ⟨rfl, rfl⟩ := trodVars_none hV
  obtain ⟨a0, rfl, rfl, rfl, y0⟩ := open_string Tryd.underlying9 (hval 0 9 v0 rfl rfl) h0
  have z0 : a0.size ≤ 9223372036854775807 := by unfold maxLen at y0; omega
  clear hA0 hval0
  simp only [List.append_nil] at hW'
  obtain ⟨k, hk⟩ := pure_FnExactCountShown a0 z0
  refine (laws_FnExactCountShown.calls k a0 true W  hk).mono fun e W' ⟨he, bel0⟩ => ?_
  have bel : Below W.heap.size W W' := bel0
  subst he
  exact ⟨_, rfl, _, _, _, [], _, [], hW', trodAll_mk1 (shut_bool Tryd.underlying4 _), (trodAll_cons_mk (shut_string Tryd.underlying9 y0) trodAll_mk0), rfl, bel.frame _, fun h => by cases h⟩
theorem over : Rows.fnExactCountShownRow.holds Tryd.pinned (OpenSpec.ofChange Rows.fnExactCountShownSpec) :=
  OpenClaim.holds_of_wide 4 Tryd.f4 rfl rfl rfl rfl rfl rfl rfl ⟨rfl, rfl, rfl, rfl, rfl⟩ rfl rfl rfl rfl rfl (by kernel_rfl) Tryd.func4 (by kernel_rfl)
    (of_decide_eq_true (by kernel_rfl)) (by unfold Func.isWrapper; first | (rw [if_pos (by decide +kernel)]; kernel_rfl) | (rw [if_neg (by decide +kernel)]; exact ⟨rfl, rfl⟩))
    (fun os started H enc _ => lifted os started H enc)
theorem proved : Rows.FnExactCountShownSaid := over
theorem card : Rows.FnExactCountShownCardSaid :=
  Claim7.holds_tied_plain_at .later [] [.data, .pinned] true (true, "d140f6f1362a90cb9246e5652668875681c3f42ba2c2d01b802424be74bead35") false
    proved (fun _ h => by cases h) (by kernel_rfl) (fun _ h => by cases h) fnExactCountShown_row_tie rfl ⟨rfl, rfl⟩ (by kernel_rfl) rfl
    (fun f fn hf hfn => by
      obtain rfl : f = 4 := Option.some.inj ((show Tryd.prog.funcNamed "loop.example/g01350/laws.FnExactCountShown" = some 4 by kernel_rfl).symm.trans hf) |>.symm
      obtain rfl : fn = Tryd.f4 := (Option.some.inj (Tryd.func4.symm.trans hfn)).symm
      exact ⟨by kernel_rfl, fun j t ht => by
        rw [Tryd.params4] at ht
        have hm : t ∈ #[9] := Array.mem_of_getElem? ht
        have hm : t ∈ [9] := by simpa using hm
        have hall : ([9].all fun u => !Tryd.prog.wantsStandIn u) = true := by kernel_rfl
        exact (show Tryd.prog.wantsStandIn t = false by simpa using List.all_eq_true.1 hall t hm)⟩)
    (by kernel_rfl)
#print axioms card
end Go.Proofs.YtcidlaabbkimdaaDoor.fnExactCountShown
namespace Go.Proofs.YtcidlaabbkimdaaDoor
theorem fnExactCountShown_holds : Rows.FnExactCountShownCardSaid := fnExactCountShown.card
end Go.Proofs.YtcidlaabbkimdaaDoor

