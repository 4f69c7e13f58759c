/- Part 4 of 6 of the proof of: FnWalksGoCardSaid: the law 'FnWalksGo' answers true for every input, and leaves its arguments as they were. The row and its tied card, over the walk of its calls and the pure statement. -/
import Derived.Test.YtffbfkfbeggdnaaGreatDoorMFnWalksGo1
import Derived.Test.YtffbfkfbeggdnaaGreatDoorMFnWalksGo3
import Derived.Test.YtffbfkfbeggdnaaGreatDoorMFnWalksGo2
import Derived.Test.YtffbfkfbeggdnaaGreatDoorMFnWalksGoW
import Derived.Laws.RangeString
import Derived.Below
import Derived.Laws.Slices
-- printed by xprint.py
namespace Go.Proofs.YtffbfkfbeggdnaaGreatDoor.P
open Go.RowKit Go.Proofs.YtffbfkfbeggdnaaGreatDoorW.PrintWords Go.Proofs.YtffbfkfbeggdnaaGreatDoorW.PrintLast Go.Proofs.YtffbfkfbeggdnaaGreatDoorW.PrintMore
attribute [local go_sem] max2_int min2_int max_two min_two max_three min_three max_four min_four
set_option linter.unusedVariables false
set_option linter.unusedSimpArgs false

mutual
def spec_l1Cur_walk.j0 : Nat → ByteArray → Bool → List Int → Int → Int → Option (ByteArray × Int × Int)
 | 0,_,_,_,_,_ => none
 | k + 1,x1,x15,x1000,x1001,x1002 => if x15 = true then ((spec_l1Cur_of.f x1000 x1001 x1002 (([(⟨#[]⟩ : ByteArray),(⟨#[120]⟩ : ByteArray),(⟨#[49,50,51]⟩ : ByteArray),(⟨#[49,49,49,49,49,49,49,49,49,49,49,49,49,49,49,49,49,49,49,49,49,49,49,49,49,49,49,49,49,49,49,49,49,49,49,49,49,49,49,49]⟩ : ByteArray),(⟨#[49,54,49,54,49,54,49,54,49,54,49,54,49,54,49,54,49,54,49,54,49,54,49,54,49,54,49,54,49,54,49,54,49,54,49,54,49,54,49,54,49]⟩ : ByteArray),(⟨#[53]⟩ : ByteArray)] : List ByteArray))).bind fun bt108 => (some (bt108.1,bt108.2.1,bt108.2.2))) else ((spec_l1Cur_pick.f x1000 x1001 x1002 10).bind fun bt111 => ((spec_l1Num.f k bt111.1).bind fun t114 => ((spec_l1Cur_pick.f x1000 bt111.2.1 bt111.2.2 8).bind fun bt115 => (spec_l1Cur_walk.l0 k x1 t114 bt115.1 x1000 bt115.2.1 bt115.2.2))))
def spec_l1Cur_walk.l0 : Nat → ByteArray → ByteArray → Int → List Int → Int → Int → Option (ByteArray × Int × Int)
 | 0,_,_,_,_,_,_ => none
 | k + 1,x1,x5,x6,x1000,x1001,x1002 => if x6 > 0 then (if 0 ≤ (wrap64 ((x5.size : Int) - 1)) then (if (wrap64 ((x5.size : Int) - 1)) < (x5.size : Int) then ((spec_wkNext.f k x1 (bt x5 (wrap64 ((x5.size : Int) - 1)))).bind fun t118 => (if t118.toList = ([] : List UInt8) then (some (x5,x1001,x1002)) else ((spec_l1Cur_pick.f x1000 x1001 x1002 (t118.size : Int)).bind fun bt119 => (if 0 ≤ bt119.1 then (if bt119.1 ≤ (wrap64 (bt119.1 + 1)) then (if (wrap64 (bt119.1 + 1)) ≤ (t118.size : Int) then (if x5.size + (t118.extract (bt119.1 : Int).toNat ((wrap64 (bt119.1 + 1)) : Int).toNat).size ≤ 9223372036854775807 then (spec_l1Cur_walk.l0 k x1 (x5 ++ (t118.extract (bt119.1 : Int).toNat ((wrap64 (bt119.1 + 1)) : Int).toNat)) (wrap64 (x6 - 1)) x1000 bt119.2.1 bt119.2.2) else (none)) else (none)) else (none)) else (none))))) else (none)) else (none)) else (some (x5,x1001,x1002))
end
def spec_l1Cur_walk.f (k : Nat) (s0_0 : List Int) (s0_1 : Int) (s0_2 : Int) (a1 : ByteArray) : Option (ByteArray × Int × Int) := (spec_wkPiece.f a1).bind fun t101 => (if t101 = true then ((spec_l1Cur_one.f s0_0 s0_1 s0_2 14).bind fun bt102 => (spec_l1Cur_walk.j0 k a1 bt102.1 s0_0 bt102.2.1 bt102.2.2)) else (spec_l1Cur_walk.j0 k a1 true s0_0 s0_1 s0_2))
set_option maxHeartbeats 8000000 in
set_option maxRecDepth 100000 in
theorem spec_l1Cur_walk.calls (k : Nat) (g : Nat) (s0_0 : List Int) (s0_1 : Int) (s0_2 : Int) (a1 : ByteArray) (r1 : ByteArray) (r2 : Int) (r3 : Int) (w0 w : World) (hI : IsS50 w0 w g s0_0 s0_1 s0_2) (hB : Below w0.heap.size w0 w) (h : spec_l1Cur_walk.f k s0_0 s0_1 s0_2 a1 = some (r1,r2,r3)) :
  Calls Tryz.prog 71 #[.pointer (some ⟨g,0,none⟩),.string a1] w fun e w' => e = .returned (.string r1) ∧ IsS50 w0 w' g s0_0 r2 r3 ∧ Below w0.heap.size w0 w' ∧ KeepBut w w' g none := by
 have HI0 := Aside0.mk hI; have HK := Aside0.mk (KeepBut.refl w g none); have HL := Aside0.mk hB.size; clear hI; have HW0 := Aside0.mk hB.size; have HB := Aside0.mk hB; clear hB; have H : ((spec_wkPiece.f a1).bind fun t101 => (if t101 = true then ((spec_l1Cur_one.f s0_0 s0_1 s0_2 14).bind fun bt102 => (spec_l1Cur_walk.j0 k a1 bt102.1 s0_0 bt102.2.1 bt102.2.2)) else (spec_l1Cur_walk.j0 k a1 true s0_0 s0_1 s0_2))) = some (r1,r2,r3) := h; clear h; have HC3 := Aside0.mk H; clear H
 go_enter Tryz.func71,Tryz.ntmps71
 go_upto_region 1 with (fail)
 go_cut [15] (fun v15 wc => ∃ (kq : Nat) (x15_2 : Bool) (x1001_2 : Int) (x1002_2 : Int),v15 = .bool x15_2 ∧ Aside0 (spec_l1Cur_walk.j0 kq a1 x15_2 s0_0 x1001_2 x1002_2 = some (r1,r2,r3)) ∧ Aside0 (kq ≤ k) ∧ Aside0 (IsS50 w0 wc g s0_0 x1001_2 x1002_2) ∧ Aside0 (KeepBut w wc g none) ∧ Aside0 (Below w0.heap.size w0 wc))
 case first =>
  have H := HC3.out; clear HC3; replace H := Option.bind_eq_some_iff.mp H; obtain ⟨t101,A40,H⟩ := H; replace H : (if t101 = true then ((spec_l1Cur_one.f s0_0 s0_1 s0_2 14).bind fun bt102 => (spec_l1Cur_walk.j0 k a1 bt102.1 s0_0 bt102.2.1 bt102.2.2)) else (spec_l1Cur_walk.j0 k a1 true s0_0 s0_1 s0_2)) = some (r1,r2,r3) := H; have A4 := Aside0.mk A40; clear A40
  by_cases c5 : t101 = true
  ·
   subst c5; have H1 : ((spec_l1Cur_one.f s0_0 s0_1 s0_2 14).bind fun bt102 => (spec_l1Cur_walk.j0 k a1 bt102.1 s0_0 bt102.2.1 bt102.2.2)) = some (r1,r2,r3) := by rw [if_pos rfl] at H; exact H
   clear H; have H := H1; clear H1; replace H := Option.bind_eq_some_iff.mp H; obtain ⟨⟨t102,t103,t104⟩,A60,H⟩ := H; replace H : (spec_l1Cur_walk.j0 k a1 t102 s0_0 t103 t104) = some (r1,r2,r3) := H; have A6 := Aside0.mk A60; clear A60; have H' := Aside0.mk H; clear H; go_wp2_with (first | ((with_reducible refine gate_callee (f := 45) rfl ?_); refine goesL_ (some 10) rfl rfl Tryz.func45 (by kernel_rfl) rfl #[.string a1] rfl zrr ?_; (with_reducible refine (spec_wkPiece.calls a1 true _ A4.out).mono ?_); rintro e w' ⟨rfl,⟨nd,rfl⟩⟩; refine ⟨_,rfl,?_⟩) | (go_at_call 59; (with_reducible refine (spec_l1Cur_one.calls g s0_0 s0_1 s0_2 14 t102 t103 t104 w0 _ ?side1 ?side2 A6.out).mono ?_); (case side1 => repeat (first | (with_reducible first | exact HI0.out | apply IsS50.alloc | apply IsS50.drewN | apply IsS50.drew | apply IsS50.set_1 | apply IsS50.set_2) | exact HI0.out)); (case side2 => repeat (first | (with_reducible first | exact HB.out | apply below_alloc | apply pw_below_drewN | apply below_drew1 | refine below_set ?_ (IsS50.ge HI0.out)) | exact HB.out)); rintro e w7 ⟨rfl,hi,hb,hk⟩; have n0_ := Aside0.mk (KeepBut.trans (by repeat (first | (with_reducible first | exact HK.out | apply KeepBut.set_ | apply keep_drewN | apply keep_drew | apply keep_alloc) | exact HK.out)) hk (.inl rfl)); have n1_ := Aside0.mk (hb); have n2_ := Aside0.mk (hi); clear HK; clear HB; clear HI0; have HK := n0_; have HB := n1_; have HI0 := n2_; clear n0_ n1_ n2_; (try clear hb); (try clear hb2); (try clear hk); (try clear hi)))
   go_meet
   case rel => exact ⟨_,(t102),(t103),(t104),zrs,H',⟨by first | omega | exact Nat.le_refl _⟩,⟨by repeat (first | (with_reducible first | exact HI0.out | apply IsS50.alloc | apply IsS50.drewN | apply IsS50.drew | apply IsS50.set_1 | apply IsS50.set_2) | exact HI0.out)⟩,⟨by repeat (first | (with_reducible first | exact HK.out | apply KeepBut.set_ | apply keep_drewN | apply keep_drew | apply keep_alloc) | exact HK.out)⟩,⟨by repeat (first | (with_reducible first | exact HB.out | apply below_alloc | apply pw_below_drewN | apply below_drew1 | refine below_set ?_ (IsS50.ge HI0.out)) | exact HB.out)⟩⟩
  ·
   replace c5 := Bool.eq_false_iff.mpr c5; subst c5; have H1 : (spec_l1Cur_walk.j0 k a1 true s0_0 s0_1 s0_2) = some (r1,r2,r3) := by rw [if_neg (show ¬ (false = true) by decide)] at H; exact H
   clear H; have H := H1; clear H1; have H' := Aside0.mk H; clear H; go_wp2_with (first | ((with_reducible refine gate_callee (f := 45) rfl ?_); refine goesL_ (some 10) rfl rfl Tryz.func45 (by kernel_rfl) rfl #[.string a1] rfl zrr ?_; (with_reducible refine (spec_wkPiece.calls a1 false _ A4.out).mono ?_); rintro e w' ⟨rfl,⟨nd,rfl⟩⟩; refine ⟨_,rfl,?_⟩))
   go_meet
   case rel => exact ⟨_,(true),(s0_1),(s0_2),zrs,H',⟨by first | omega | exact Nat.le_refl _⟩,⟨by repeat (first | (with_reducible first | exact HI0.out | apply IsS50.alloc | apply IsS50.drewN | apply IsS50.drew | apply IsS50.set_1 | apply IsS50.set_2) | exact HI0.out)⟩,⟨by repeat (first | (with_reducible first | exact HK.out | apply KeepBut.set_ | apply keep_drewN | apply keep_drew | apply keep_alloc) | exact HK.out)⟩,⟨by repeat (first | (with_reducible first | exact HB.out | apply below_alloc | apply pw_below_drewN | apply below_drew1 | refine below_set ?_ (IsS50.ge HI0.out)) | exact HB.out)⟩⟩
 case rest =>
  clear HC3; try clear p2
  try clear c4
  try clear c5
  try clear c7
  obtain ⟨kq,x15_2,x1001_2,x1002_2,rfl,HA,HJ2,HI0,HK,HB⟩ := hcut
  cases kq with
  | zero => exact absurd HA.out (by simp [spec_l1Cur_walk.j0])
  | succ kj2 =>
   have H := HA.out; clear HA; simp only [spec_l1Cur_walk.j0] at H
   by_cases c8 : x15_2 = true
   ·
    subst c8; have H1 : ((spec_l1Cur_of.f s0_0 x1001_2 x1002_2 (([(⟨#[]⟩ : ByteArray),(⟨#[120]⟩ : ByteArray),(⟨#[49,50,51]⟩ : ByteArray),(⟨#[49,49,49,49,49,49,49,49,49,49,49,49,49,49,49,49,49,49,49,49,49,49,49,49,49,49,49,49,49,49,49,49,49,49,49,49,49,49,49,49]⟩ : ByteArray),(⟨#[49,54,49,54,49,54,49,54,49,54,49,54,49,54,49,54,49,54,49,54,49,54,49,54,49,54,49,54,49,54,49,54,49,54,49,54,49,54,49,54,49]⟩ : ByteArray),(⟨#[53]⟩ : ByteArray)] : List ByteArray))).bind fun bt108 => (some (bt108.1,bt108.2.1,bt108.2.2))) = some (r1,r2,r3) := by rw [if_pos rfl] at H; exact H
    clear H; have H := H1; clear H1; obtain ⟨y105,hy105⟩ : ∃ y_ : List ByteArray,y_ = (([(⟨#[]⟩ : ByteArray),(⟨#[120]⟩ : ByteArray),(⟨#[49,50,51]⟩ : ByteArray),(⟨#[49,49,49,49,49,49,49,49,49,49,49,49,49,49,49,49,49,49,49,49,49,49,49,49,49,49,49,49,49,49,49,49,49,49,49,49,49,49,49,49]⟩ : ByteArray),(⟨#[49,54,49,54,49,54,49,54,49,54,49,54,49,54,49,54,49,54,49,54,49,54,49,54,49,54,49,54,49,54,49,54,49,54,49,54,49,54,49,54,49]⟩ : ByteArray),(⟨#[53]⟩ : ByteArray)] : List ByteArray)) := ⟨_,rfl⟩; replace H : ((spec_l1Cur_of.f s0_0 x1001_2 x1002_2 y105).bind fun bt108 => (some (bt108.1,bt108.2.1,bt108.2.2))) = some (r1,r2,r3) := by first | (rw [hy105]; with_reducible exact H) | (have H2_ := (Option.bind_some _ _).symm.trans H; rw [hy105]; with_reducible exact H2_) | (have H2_ := (Option.bind_some _ _).symm.trans H; with_reducible exact H2_) | with_reducible exact H | (rw [hy105]; exact H) | exact H
    have Ny105 := Aside0.mk hy105; clear hy105; replace H := Option.bind_eq_some_iff.mp H; obtain ⟨⟨t108,t109,t110⟩,A90,H⟩ := H; replace H : (some (t108,t109,t110)) = some (r1,r2,r3) := H; have A9 := Aside0.mk A90; clear A90; simp only [Option.some.injEq,Prod.mk.injEq] at H; obtain ⟨rfl,rfl,rfl⟩ := H; go_wp2_with (first | ((with_reducible refine gate_dst (N := 17) rfl ?_); refine Kd.R_lit Kd.string _ 9 ?hg (N := 17) ?hd (xs := ([(⟨#[]⟩ : ByteArray),(⟨#[120]⟩ : ByteArray),(⟨#[49,50,51]⟩ : ByteArray),(⟨#[49,49,49,49,49,49,49,49,49,49,49,49,49,49,49,49,49,49,49,49,49,49,49,49,49,49,49,49,49,49,49,49,49,49,49,49,49,49,49,49]⟩ : ByteArray),(⟨#[49,54,49,54,49,54,49,54,49,54,49,54,49,54,49,54,49,54,49,54,49,54,49,54,49,54,49,54,49,54,49,54,49,54,49,54,49,54,49,54,49]⟩ : ByteArray),(⟨#[53]⟩ : ByteArray)] : List ByteArray)) (inner := [.string (⟨#[]⟩ : ByteArray),.string (⟨#[120]⟩ : ByteArray),.string (⟨#[49,50,51]⟩ : ByteArray),.string (⟨#[49,49,49,49,49,49,49,49,49,49,49,49,49,49,49,49,49,49,49,49,49,49,49,49,49,49,49,49,49,49,49,49,49,49,49,49,49,49,49,49]⟩ : ByteArray),.string (⟨#[49,54,49,54,49,54,49,54,49,54,49,54,49,54,49,54,49,54,49,54,49,54,49,54,49,54,49,54,49,54,49,54,49,54,49,54,49,54,49,54,49]⟩ : ByteArray),.string (⟨#[53]⟩ : ByteArray)]) (ok := fun _ => True) (okp := fun _ => True) ?hr ?hp (fun _ hk => hk) trivial (Below.refl _ _) (Nat.le_refl _) (by simp) ?_; (case hd => rfl); (case hg => rfl); (case hr => first | (go_simp; done) | (go_simp; rfl)); (case hp => exact (Reps.one (show Kd.M Kd.string _ _ _ (⟨#[]⟩ : ByteArray) [.string (⟨#[]⟩ : ByteArray)] from rfl) (Reps.one (show Kd.M Kd.string _ _ _ (⟨#[120]⟩ : ByteArray) [.string (⟨#[120]⟩ : ByteArray)] from rfl) (Reps.one (show Kd.M Kd.string _ _ _ (⟨#[49,50,51]⟩ : ByteArray) [.string (⟨#[49,50,51]⟩ : ByteArray)] from rfl) (Reps.one (show Kd.M Kd.string _ _ _ (⟨#[49,49,49,49,49,49,49,49,49,49,49,49,49,49,49,49,49,49,49,49,49,49,49,49,49,49,49,49,49,49,49,49,49,49,49,49,49,49,49,49]⟩ : ByteArray) [.string (⟨#[49,49,49,49,49,49,49,49,49,49,49,49,49,49,49,49,49,49,49,49,49,49,49,49,49,49,49,49,49,49,49,49,49,49,49,49,49,49,49,49]⟩ : ByteArray)] from rfl) (Reps.one (show Kd.M Kd.string _ _ _ (⟨#[49,54,49,54,49,54,49,54,49,54,49,54,49,54,49,54,49,54,49,54,49,54,49,54,49,54,49,54,49,54,49,54,49,54,49,54,49,54,49,54,49]⟩ : ByteArray) [.string (⟨#[49,54,49,54,49,54,49,54,49,54,49,54,49,54,49,54,49,54,49,54,49,54,49,54,49,54,49,54,49,54,49,54,49,54,49,54,49,54,49,54,49]⟩ : ByteArray)] from rfl) (Reps.one (show Kd.M Kd.string _ _ _ (⟨#[53]⟩ : ByteArray) [.string (⟨#[53]⟩ : ByteArray)] from rfl) (Reps.none _ _)))))))); intro v106 w10 ho11 hb hg_ hnew_; clear hg_ hnew_; (first | rw [← Ny105.out] at ho11 | (simp only [Int.reduceToNat] at ho11; rw [← Ny105.out] at ho11)); have n0_ := Aside0.mk (Kd.R_lower ho11 (keep_size (w := w) (g := g) (row := none) (by repeat (first | (with_reducible first | exact HK.out | apply KeepBut.set_ | apply keep_drewN | apply keep_drew | apply keep_alloc) | exact HK.out)))); have n1_ := Aside0.mk (IsS50.below (by repeat (first | (with_reducible first | exact HI0.out | apply IsS50.alloc | apply IsS50.drewN | apply IsS50.drew | apply IsS50.set_1 | apply IsS50.set_2) | exact HI0.out)) hb); have n2_ := Aside0.mk (KeepBut.trans (by repeat (first | (with_reducible first | exact HK.out | apply KeepBut.set_ | apply keep_drewN | apply keep_drew | apply keep_alloc) | exact HK.out)) (KeepBut.of_below hb g none) (.inl rfl)); have n3_ := Aside0.mk (below_step (by repeat (first | (with_reducible first | exact HB.out | apply below_alloc | apply pw_below_drewN | apply below_drew1 | refine below_set ?_ (IsS50.ge HI0.out)) | exact HB.out)) hb); clear HI0; clear HK; clear HB; have HO107 := n0_; have HI0 := n1_; have HK := n2_; have HB := n3_; clear n0_ n1_ n2_ n3_; clear hb ho11; obtain ⟨Ao12,co12,eo12⟩ := Kd.R_slice HO107.out; subst eo12) | ((with_reducible refine gate_callee (f := 60) rfl ?_); refine goesL_ (some 18) rfl rfl Tryz.func60 (by kernel_rfl) rfl #[.pointer (some ⟨g,0,none⟩),.slice Ao12 y105.length co12] rfl zrr ?_; (with_reducible refine (spec_l1Cur_of.calls g s0_0 x1001_2 x1002_2 _ _ y105 t108 t109 t110 w0 _ ?side1 ?side2 ?side3 ?side4 ?side5 A9.out).mono ?_); (case side1 => repeat (first | (with_reducible first | exact HI0.out | apply IsS50.alloc | apply IsS50.drewN | apply IsS50.drew | apply IsS50.set_1 | apply IsS50.set_2) | exact HI0.out)); (case side2 => repeat (first | (with_reducible first | exact HB.out | apply below_alloc | apply pw_below_drewN | apply below_drew1 | refine below_set ?_ (IsS50.ge HI0.out)) | exact HB.out)); (case side3 => repeat (first | exact (Kd.R_reads' HO107.out).2.2 | (with_reducible refine Kd.C_alloc ?_ _) | (with_reducible refine Kd.C_drewN ?_ _) | (with_reducible refine Kd.C_drew ?_))); (case side4 => exact (Kd.R_reads' HO107.out).2.1); (case side5 => exact far_slice (IsS50.own_ne HI0.out HO107.out (by decide))); rintro e w13 ⟨rfl,hi,hb,hk⟩; refine ⟨_,rfl,?_⟩; have n0_ := Aside0.mk (Kd.R_mono (Kd.R_keep (IsS50.apart (show IsS50 w0 _ g s0_0 x1001_2 x1002_2 from by repeat (first | (with_reducible first | exact HI0.out | apply IsS50.alloc | apply IsS50.drewN | apply IsS50.drew | apply IsS50.set_1 | apply IsS50.set_2) | exact HI0.out)) (by (with_reducible repeat (first | apply Kd.R_alloc | apply Kd.R_drewN | apply Kd.R_drew)); exact HO107.out) (by decide)) hk (fun _ h => h.2)) (fun _ h => h.1)); have n1_ := Aside0.mk (KeepBut.trans (by repeat (first | (with_reducible first | exact HK.out | apply KeepBut.set_ | apply keep_drewN | apply keep_drew | apply keep_alloc) | exact HK.out)) hk (.inl rfl)); have n2_ := Aside0.mk (hb); have n3_ := Aside0.mk (hi); clear HO107; clear HK; clear HB; clear HI0; have HO107 := n0_; have HK := n1_; have HB := n2_; have HI0 := n3_; clear n0_ n1_ n2_ n3_; (try clear hb); (try clear hb2); (try clear hk); (try clear hi)))
    go_ret
    exact ⟨zer,by repeat (first | (with_reducible first | exact HI0.out | apply IsS50.alloc | apply IsS50.drewN | apply IsS50.drew | apply IsS50.set_1 | apply IsS50.set_2) | exact HI0.out),by repeat (first | (with_reducible first | exact HB.out | apply below_alloc | apply pw_below_drewN | apply below_drew1 | refine below_set ?_ (IsS50.ge HI0.out)) | exact HB.out),by repeat (first | (with_reducible first | exact HK.out | apply KeepBut.set_ | apply keep_drewN | apply keep_drew | apply keep_alloc) | exact HK.out)⟩
   ·
    replace c8 := Bool.eq_false_iff.mpr c8; subst c8; have H1 : ((spec_l1Cur_pick.f s0_0 x1001_2 x1002_2 10).bind fun bt111 => ((spec_l1Num.f kj2 bt111.1).bind fun t114 => ((spec_l1Cur_pick.f s0_0 bt111.2.1 bt111.2.2 8).bind fun bt115 => (spec_l1Cur_walk.l0 kj2 a1 t114 bt115.1 s0_0 bt115.2.1 bt115.2.2)))) = some (r1,r2,r3) := by rw [if_neg (show ¬ (false = true) by decide)] at H; exact H
    clear H; have H := H1; clear H1; replace H := Option.bind_eq_some_iff.mp H; obtain ⟨⟨t111,t112,t113⟩,A140,H⟩ := H; replace H : ((spec_l1Num.f kj2 t111).bind fun t114 => ((spec_l1Cur_pick.f s0_0 t112 t113 8).bind fun bt115 => (spec_l1Cur_walk.l0 kj2 a1 t114 bt115.1 s0_0 bt115.2.1 bt115.2.2))) = some (r1,r2,r3) := H; have A14 := Aside0.mk A140; clear A140; replace H := Option.bind_eq_some_iff.mp H; obtain ⟨t114,A150,H⟩ := H; replace H : ((spec_l1Cur_pick.f s0_0 t112 t113 8).bind fun bt115 => (spec_l1Cur_walk.l0 kj2 a1 t114 bt115.1 s0_0 bt115.2.1 bt115.2.2)) = some (r1,r2,r3) := H; have A15 := Aside0.mk A150; clear A150; replace H := Option.bind_eq_some_iff.mp H; obtain ⟨⟨t115,t116,t117⟩,A160,H⟩ := H; replace H : (spec_l1Cur_walk.l0 kj2 a1 t114 t115 s0_0 t116 t117) = some (r1,r2,r3) := H; have A16 := Aside0.mk A160; clear A160; have H' := Aside0.mk H; clear H; go_wp2_with (first | ((with_reducible refine gate_callee (f := 61) rfl ?_); refine goesL_ (some 20) rfl rfl Tryz.func61 (by kernel_rfl) rfl #[.pointer (some ⟨g,0,none⟩),.int .i64 10] rfl zrr ?_; (with_reducible refine (spec_l1Cur_pick.calls g s0_0 x1001_2 x1002_2 10 t111 t112 t113 w0 _ ?side1 ?side2 A14.out).mono ?_); (case side1 => repeat (first | (with_reducible first | exact HI0.out | apply IsS50.alloc | apply IsS50.drewN | apply IsS50.drew | apply IsS50.set_1 | apply IsS50.set_2) | exact HI0.out)); (case side2 => repeat (first | (with_reducible first | exact HB.out | apply below_alloc | apply pw_below_drewN | apply below_drew1 | refine below_set ?_ (IsS50.ge HI0.out)) | exact HB.out)); rintro e w17 ⟨rfl,hi,hb,hk⟩; refine ⟨_,rfl,?_⟩; have n0_ := Aside0.mk (KeepBut.trans (by repeat (first | (with_reducible first | exact HK.out | apply KeepBut.set_ | apply keep_drewN | apply keep_drew | apply keep_alloc) | exact HK.out)) hk (.inl rfl)); have n1_ := Aside0.mk (hb); have n2_ := Aside0.mk (hi); clear HK; clear HB; clear HI0; have HK := n0_; have HB := n1_; have HI0 := n2_; clear n0_ n1_ n2_; (try clear hb); (try clear hb2); (try clear hk); (try clear hi)) | ((with_reducible refine gate_callee (f := 58) rfl ?_); refine goesL_ (some 21) rfl rfl Tryz.func58 (by kernel_rfl) rfl #[.int .i64 t111] rfl zrr ?_; (with_reducible refine (spec_l1Num.calls kj2 t111 t114 _ A15.out).mono ?_); rintro e w18 ⟨rfl,hb⟩; refine ⟨_,rfl,?_⟩; have n0_ := Aside0.mk (IsS50.below (by repeat (first | (with_reducible first | exact HI0.out | apply IsS50.alloc | apply IsS50.drewN | apply IsS50.drew | apply IsS50.set_1 | apply IsS50.set_2) | exact HI0.out)) hb); have n1_ := Aside0.mk (KeepBut.trans (by repeat (first | (with_reducible first | exact HK.out | apply KeepBut.set_ | apply keep_drewN | apply keep_drew | apply keep_alloc) | exact HK.out)) (KeepBut.of_below hb g none) (.inl rfl)); have n2_ := Aside0.mk (below_step (by repeat (first | (with_reducible first | exact HB.out | apply below_alloc | apply pw_below_drewN | apply below_drew1 | refine below_set ?_ (IsS50.ge HI0.out)) | exact HB.out)) hb); clear HI0; clear HK; clear HB; have HI0 := n0_; have HK := n1_; have HB := n2_; clear n0_ n1_ n2_; (try clear hb); (try clear hb2); (try clear hk); (try clear hi)) | ((with_reducible refine gate_callee (f := 61) rfl ?_); refine goesL_ (some 23) rfl rfl Tryz.func61 (by kernel_rfl) rfl #[.pointer (some ⟨g,0,none⟩),.int .i64 8] rfl zrr ?_; (with_reducible refine (spec_l1Cur_pick.calls g s0_0 t112 t113 8 t115 t116 t117 w0 _ ?side1 ?side2 A16.out).mono ?_); (case side1 => repeat (first | (with_reducible first | exact HI0.out | apply IsS50.alloc | apply IsS50.drewN | apply IsS50.drew | apply IsS50.set_1 | apply IsS50.set_2) | exact HI0.out)); (case side2 => repeat (first | (with_reducible first | exact HB.out | apply below_alloc | apply pw_below_drewN | apply below_drew1 | refine below_set ?_ (IsS50.ge HI0.out)) | exact HB.out)); rintro e w19 ⟨rfl,hi,hb,hk⟩; refine ⟨_,rfl,?_⟩; have n0_ := Aside0.mk (KeepBut.trans (by repeat (first | (with_reducible first | exact HK.out | apply KeepBut.set_ | apply keep_drewN | apply keep_drew | apply keep_alloc) | exact HK.out)) hk (.inl rfl)); have n1_ := Aside0.mk (hb); have n2_ := Aside0.mk (hi); clear HK; clear HB; clear HI0; have HK := n0_; have HB := n1_; have HI0 := n2_; clear n0_ n1_ n2_; (try clear hb); (try clear hb2); (try clear hk); (try clear hi)))
    go_loopg [5,6] kj2 (fun kq v5 v6 w' => ∃ (x5_2 : ByteArray) (x6_2 : Int) (x1001_2 : Int) (x1002_2 : Int),v5 = .string x5_2 ∧ v6 = .int .i64 x6_2 ∧ Aside0 (spec_l1Cur_walk.l0 kq a1 x5_2 x6_2 s0_0 x1001_2 x1002_2 = some (r1,r2,r3)) ∧ Aside0 (kq ≤ kj2) ∧ Aside0 (IsS50 w0 w' g s0_0 x1001_2 x1002_2) ∧ Aside0 (KeepBut w w' g none) ∧ Aside0 (Below w0.heap.size w0 w'))
    case atStart => exact ⟨(t114),(t115),(t116),(t117),zrs,zrs,H',⟨Nat.le_refl _⟩,⟨by repeat (first | (with_reducible first | exact HI0.out | apply IsS50.alloc | apply IsS50.drewN | apply IsS50.drew | apply IsS50.set_1 | apply IsS50.set_2) | exact HI0.out)⟩,⟨by repeat (first | (with_reducible first | exact HK.out | apply KeepBut.set_ | apply keep_drewN | apply keep_drew | apply keep_alloc) | exact HK.out)⟩,⟨by repeat (first | (with_reducible first | exact HB.out | apply below_alloc | apply pw_below_drewN | apply below_drew1 | refine below_set ?_ (IsS50.ge HI0.out)) | exact HB.out)⟩⟩
    case round =>
     clear H'; try clear p2
     try clear c4
     try clear c5
     try clear c6
     try clear c7
     try clear c8
     try clear p2
     obtain ⟨x5_2,x6_2,x1001_2,x1002_2,rfl,rfl,HA,HK2,HI0,HK,HB⟩ := hrel
     cases gk with
     | zero => exact absurd HA.out (by simp [spec_l1Cur_walk.l0])
     | succ k2 =>
      have H := HA.out; clear HA; simp only [spec_l1Cur_walk.l0] at H
      by_cases c20 : x6_2 > 0
      ·
       rw [if_pos c20] at H; have c20b0 : decide (0 < x6_2) = true := decide_eq_true c20; clear c20; obtain ⟨ji21,hji21⟩ : ∃ j_ : Int,(wrap64 ((x5_2.size : Int) - 1)) = j_ := ⟨_,rfl⟩; replace H : (if 0 ≤ (ji21) then (if (ji21) < (x5_2.size : Int) then ((spec_wkNext.f k2 a1 (bt x5_2 (ji21))).bind fun t118 => (if t118.toList = ([] : List UInt8) then (some (x5_2,x1001_2,x1002_2)) else ((spec_l1Cur_pick.f s0_0 x1001_2 x1002_2 (t118.size : Int)).bind fun bt119 => (if 0 ≤ bt119.1 then (if bt119.1 ≤ (wrap64 (bt119.1 + 1)) then (if (wrap64 (bt119.1 + 1)) ≤ (t118.size : Int) then (if x5_2.size + (t118.extract (bt119.1 : Int).toNat ((wrap64 (bt119.1 + 1)) : Int).toNat).size ≤ 9223372036854775807 then (spec_l1Cur_walk.l0 k2 a1 (x5_2 ++ (t118.extract (bt119.1 : Int).toNat ((wrap64 (bt119.1 + 1)) : Int).toNat)) (wrap64 (x6_2 - 1)) s0_0 bt119.2.1 bt119.2.2) else (none)) else (none)) else (none)) else (none))))) else (none)) else (none)) = some (r1,r2,r3) := by first | (rw [hji21] at H; exact H) | (simp only [hji21] at H ⊢; exact H)
       have hji21w : (IntKind.i64.wrap ((x5_2.size : Int) - 1)) = ji21 := (i64_w _).trans hji21
       by_cases c22 : 0 ≤ (ji21)
       ·
        rw [if_pos c22] at H; have c22b0 : decide (0 ≤ (ji21)) = true := decide_eq_true c22; clear c22
        by_cases c23 : (ji21) < (x5_2.size : Int)
        ·
         rw [if_pos c23] at H; have c23b0 : decide ((ji21) < (x5_2.size : Int)) = true := decide_eq_true c23; clear c23; replace H := Option.bind_eq_some_iff.mp H; obtain ⟨t118,A250,H⟩ := H; (try dsimp only at H); have A25 := Aside0.mk A250; clear A250
         by_cases c26 : t118.toList = ([] : List UInt8)
         ·
          rw [if_pos c26] at H; have c26b0 : (t118.toList == ([] : List UInt8)) = true := beq_iff_eq.mpr c26; have c26b1 : (t118.toList != ([] : List UInt8)) = false := bne_eq_false_iff_eq.mpr c26; clear c26; simp only [Option.some.injEq,Prod.mk.injEq] at H; obtain ⟨rfl,rfl,rfl⟩ := H; have p24 : 0 ≤ ((ji21) : Int) := zdd; have q24 : (ji21) < (x5_2.size : Int) := zdd; have hx24 := bt_at x5_2 (ji21); replace p24 := eq_true p24; replace q24 := eq_true q24; go_wp2_with (first | ((with_reducible refine gate_callee (f := 44) rfl ?_); refine goesL_ (some 34) rfl rfl Tryz.func44 (by kernel_rfl) rfl #[.string a1,.int .u8 (bt x5_2 (ji21))] rfl (by (try simp only [List.map_toArray,List.map_cons,List.map_nil]); first | done | (simp only [hji21]; rfl) | rfl | (simp only [List.length_drop,List.length_take]; rfl)) ?_; (with_reducible refine (spec_wkNext.calls k2 a1 (bt x5_2 (ji21)) t118 _ A25.out).mono ?_); rintro e w' ⟨rfl,⟨nd,rfl⟩⟩; refine ⟨_,rfl,?_⟩))
          go_ret
          exact ⟨by first | rfl | (simp [errW_none,errW_some] <;> rfl) | (simp only [← hji21]; first | rfl | (simp [errW_none,errW_some] <;> rfl)) | (simp [*,errW_none,errW_some] <;> rfl),by repeat (first | (with_reducible first | exact HI0.out | apply IsS50.alloc | apply IsS50.drewN | apply IsS50.drew | apply IsS50.set_1 | apply IsS50.set_2) | exact HI0.out),by repeat (first | (with_reducible first | exact HB.out | apply below_alloc | apply pw_below_drewN | apply below_drew1 | refine below_set ?_ (IsS50.ge HI0.out)) | exact HB.out),by repeat (first | (with_reducible first | exact HK.out | apply KeepBut.set_ | apply keep_drewN | apply keep_drew | apply keep_alloc) | exact HK.out)⟩
         ·
          rw [if_neg c26] at H; have c26b0 : (t118.toList == ([] : List UInt8)) = false := beq_eq_false_iff_ne.mpr c26; have c26b1 : (t118.toList != ([] : List UInt8)) = true := bne_iff_ne.mpr c26; replace H := Option.bind_eq_some_iff.mp H; obtain ⟨⟨t119,t120,t121⟩,A270,H⟩ := H; (try dsimp only at H); have A27 := Aside0.mk A270; clear A270
          by_cases c28 : 0 ≤ t119
          ·
           rw [if_pos c28] at H; have c28b0 := eq_true c28; have c28b1 : decide (0 ≤ t119) = true := decide_eq_true c28; clear c28
           by_cases c29 : t119 ≤ (wrap64 (t119 + 1))
           ·
            rw [if_pos c29] at H; have c29b0 := eq_true c29; have c29b1 : decide (t119 ≤ (wrap64 (t119 + 1))) = true := decide_eq_true c29
            by_cases c30 : (wrap64 (t119 + 1)) ≤ (t118.size : Int)
            ·
             rw [if_pos c30] at H; have c30b0 := eq_true c30; have c30b1 : decide ((wrap64 (t119 + 1)) ≤ (t118.size : Int)) = true := decide_eq_true c30
             by_cases c31 : x5_2.size + (t118.extract (t119 : Int).toNat ((wrap64 (t119 + 1)) : Int).toNat).size ≤ 9223372036854775807
             ·
              rw [if_pos c31] at H; have c31b0 := eq_true c31; have c31b1 : decide (x5_2.size + (t118.extract (t119 : Int).toNat ((wrap64 (t119 + 1)) : Int).toNat).size ≤ 9223372036854775807) = true := decide_eq_true c31; try have c31b2 : (9223372036854775807 < x5_2.size + (t118.extract (t119 : Int).toNat ((wrap64 (t119 + 1)) : Int).toNat).size) = False := eq_false (Nat.not_lt.2 c31)
              have H' := Aside0.mk H; clear H; have p24 : 0 ≤ ((ji21) : Int) := zdd; have q24 : (ji21) < (x5_2.size : Int) := zdd; have hx24 := bt_at x5_2 (ji21); replace p24 := eq_true p24; replace q24 := eq_true q24; go_wp2_with (first | ((with_reducible refine gate_callee (f := 44) rfl ?_); refine goesL_ (some 34) rfl rfl Tryz.func44 (by kernel_rfl) rfl #[.string a1,.int .u8 (bt x5_2 (ji21))] rfl (by (try simp only [List.map_toArray,List.map_cons,List.map_nil]); first | done | (simp only [hji21]; rfl) | rfl | (simp only [List.length_drop,List.length_take]; rfl)) ?_; (with_reducible refine (spec_wkNext.calls k2 a1 (bt x5_2 (ji21)) t118 _ A25.out).mono ?_); rintro e w' ⟨rfl,⟨nd,rfl⟩⟩; refine ⟨_,rfl,?_⟩) | ((with_reducible refine gate_callee (f := 61) rfl ?_); refine goesL_ (some 40) rfl rfl Tryz.func61 (by kernel_rfl) rfl #[.pointer (some ⟨g,0,none⟩),.int .i64 (t118.size : Int)] rfl zrr ?_; (with_reducible refine (spec_l1Cur_pick.calls g s0_0 x1001_2 x1002_2 (t118.size : Int) t119 t120 t121 w0 _ ?side1 ?side2 A27.out).mono ?_); (case side1 => repeat (first | (with_reducible first | exact HI0.out | apply IsS50.alloc | apply IsS50.drewN | apply IsS50.drew | apply IsS50.set_1 | apply IsS50.set_2) | exact HI0.out)); (case side2 => repeat (first | (with_reducible first | exact HB.out | apply below_alloc | apply pw_below_drewN | apply below_drew1 | refine below_set ?_ (IsS50.ge HI0.out)) | exact HB.out)); rintro e w32 ⟨rfl,hi,hb,hk⟩; refine ⟨_,rfl,?_⟩; have n0_ := Aside0.mk (KeepBut.trans (by repeat (first | (with_reducible first | exact HK.out | apply KeepBut.set_ | apply keep_drewN | apply keep_drew | apply keep_alloc) | exact HK.out)) hk (.inl rfl)); have n1_ := Aside0.mk (hb); have n2_ := Aside0.mk (hi); clear HK; clear HB; clear HI0; have HK := n0_; have HB := n1_; have HI0 := n2_; clear n0_ n1_ n2_; (try clear hb); (try clear hb2); (try clear hk); (try clear hi)))
              go_roundg k2
              case measure => have := HJ2.out; have := HK2.out; omega
              case rel => exact ⟨(x5_2 ++ (t118.extract (t119 : Int).toNat ((wrap64 (t119 + 1)) : Int).toNat)),(wrap64 (x6_2 - 1)),(t120),(t121),zrs,zrs,H',⟨by have := HJ2.out; have := HK2.out; omega⟩,⟨by repeat (first | (with_reducible first | exact HI0.out | apply IsS50.alloc | apply IsS50.drewN | apply IsS50.drew | apply IsS50.set_1 | apply IsS50.set_2) | exact HI0.out)⟩,⟨by repeat (first | (with_reducible first | exact HK.out | apply KeepBut.set_ | apply keep_drewN | apply keep_drew | apply keep_alloc) | exact HK.out)⟩,⟨by repeat (first | (with_reducible first | exact HB.out | apply below_alloc | apply pw_below_drewN | apply below_drew1 | refine below_set ?_ (IsS50.ge HI0.out)) | exact HB.out)⟩⟩
             · rw [if_neg c31] at H; exact absurd H (by simp)
            · rw [if_neg c30] at H; exact absurd H (by simp)
           · rw [if_neg c29] at H; exact absurd H (by simp)
          · rw [if_neg c28] at H; exact absurd H (by simp)
        · rw [if_neg c23] at H; exact absurd H (by simp)
       · rw [if_neg c22] at H; exact absurd H (by simp)
      ·
       rw [if_neg c20] at H; have c20b0 : decide (0 < x6_2) = false := decide_eq_false c20; clear c20; simp only [Option.some.injEq,Prod.mk.injEq] at H; obtain ⟨rfl,rfl,rfl⟩ := H; go_wp2
       go_ret
       exact ⟨zer,by repeat (first | (with_reducible first | exact HI0.out | apply IsS50.alloc | apply IsS50.drewN | apply IsS50.drew | apply IsS50.set_1 | apply IsS50.set_2) | exact HI0.out),by repeat (first | (with_reducible first | exact HB.out | apply below_alloc | apply pw_below_drewN | apply below_drew1 | refine below_set ?_ (IsS50.ge HI0.out)) | exact HB.out),by repeat (first | (with_reducible first | exact HK.out | apply KeepBut.set_ | apply keep_drewN | apply keep_drew | apply keep_alloc) | exact HK.out)⟩

end Go.Proofs.YtffbfkfbeggdnaaGreatDoor.P
-- printed by xprint.py
namespace Go.Proofs.YtffbfkfbeggdnaaGreatDoor.P
open Go.RowKit Go.Proofs.YtffbfkfbeggdnaaGreatDoorW.PrintWords Go.Proofs.YtffbfkfbeggdnaaGreatDoorW.PrintLast Go.Proofs.YtffbfkfbeggdnaaGreatDoorW.PrintMore
attribute [local go_sem] max2_int min2_int max_two min_two max_three min_three max_four min_four
set_option linter.unusedVariables false
set_option linter.unusedSimpArgs false

def spec_DrawIsWalk.g (k : Nat) (s0_0 : List Int) (s0_1 : Int) (s0_2 : Int) : Option (ByteArray × ByteArray × Int × Int) := (spec_l1Cur_piece.f s0_0 s0_1 s0_2).bind fun bt101 => ((spec_l1Cur_walk.f k s0_0 bt101.2.1 bt101.2.2 bt101.1).bind fun bt104 => ((spec_l1Cur_one.f s0_0 bt104.2.1 bt104.2.2 3).bind fun bt107 => (if bt107.1 = true then ((spec_l1Cur_piece.f s0_0 bt107.2.1 bt107.2.2).bind fun bt110 => (some (bt110.1,bt104.1,bt110.2.1,bt110.2.2))) else (some (bt101.1,bt104.1,bt107.2.1,bt107.2.2)))))
def spec_DrawIsWalk.f (k : Nat) (l0 : List Int) : Option (ByteArray × ByteArray) := (spec_DrawIsWalk.g k l0 0 0).bind fun p => some (p.1,p.2.1)
set_option maxHeartbeats 8000000 in
set_option maxRecDepth 100000 in
theorem spec_DrawIsWalk.calls (k : Nat) (A0 : Option Addr) (c0 : Nat) (l0 : List Int) (r1 : ByteArray) (r2 : ByteArray) (w : World) (hr0 : Kd.C (Kd.int .u8) w A0 l0.length l0) (hc0 : l0.length ≤ c0) (h : spec_DrawIsWalk.f k l0 = some (r1,r2)) :
  Calls Tryz.prog 51 #[.slice A0 l0.length c0] w fun e w' => e = .returned (.tuple #[.string r1,.string r2]) ∧ Below w.heap.size w w' := by
 unfold spec_DrawIsWalk.f at h
 have h0 := h; clear h; obtain ⟨⟨r1_,r2_,s1_,s2_⟩,h,hq⟩ := Option.bind_eq_some_iff.mp h0; clear h0; simp only [Option.some.injEq,Prod.mk.injEq] at hq; obtain ⟨rfl,rfl⟩ := hq; have HR0 := Aside0.mk hr0; clear hr0; have HBr := Aside0.mk (Below.refl w.heap.size w); have H : ((spec_l1Cur_piece.f l0 (0 : Int) (0 : Int)).bind fun bt101 => ((spec_l1Cur_walk.f k l0 bt101.2.1 bt101.2.2 bt101.1).bind fun bt104 => ((spec_l1Cur_one.f l0 bt104.2.1 bt104.2.2 3).bind fun bt107 => (if bt107.1 = true then ((spec_l1Cur_piece.f l0 bt107.2.1 bt107.2.2).bind fun bt110 => (some (bt110.1,bt104.1,bt110.2.1,bt110.2.2))) else (some (bt101.1,bt104.1,bt107.2.1,bt107.2.2)))))) = some (r1_,r2_,s1_,s2_) := h; clear h; replace H := Option.bind_eq_some_iff.mp H; obtain ⟨⟨t101,t102,t103⟩,A20,H⟩ := H; replace H : ((spec_l1Cur_walk.f k l0 t102 t103 t101).bind fun bt104 => ((spec_l1Cur_one.f l0 bt104.2.1 bt104.2.2 3).bind fun bt107 => (if bt107.1 = true then ((spec_l1Cur_piece.f l0 bt107.2.1 bt107.2.2).bind fun bt110 => (some (bt110.1,bt104.1,bt110.2.1,bt110.2.2))) else (some (t101,bt104.1,bt107.2.1,bt107.2.2))))) = some (r1_,r2_,s1_,s2_) := H; have A2 := Aside0.mk A20; clear A20; replace H := Option.bind_eq_some_iff.mp H; obtain ⟨⟨t104,t105,t106⟩,A30,H⟩ := H; replace H : ((spec_l1Cur_one.f l0 t105 t106 3).bind fun bt107 => (if bt107.1 = true then ((spec_l1Cur_piece.f l0 bt107.2.1 bt107.2.2).bind fun bt110 => (some (bt110.1,t104,bt110.2.1,bt110.2.2))) else (some (t101,t104,bt107.2.1,bt107.2.2)))) = some (r1_,r2_,s1_,s2_) := H; have A3 := Aside0.mk A30; clear A30; replace H := Option.bind_eq_some_iff.mp H; obtain ⟨⟨t107,t108,t109⟩,A40,H⟩ := H; replace H : (if t107 = true then ((spec_l1Cur_piece.f l0 t108 t109).bind fun bt110 => (some (bt110.1,t104,bt110.2.1,bt110.2.2))) else (some (t101,t104,t108,t109))) = some (r1_,r2_,s1_,s2_) := H; have A4 := Aside0.mk A40; clear A40
 by_cases c5 : t107 = true
 ·
  subst c5; have H1 : ((spec_l1Cur_piece.f l0 t108 t109).bind fun bt110 => (some (bt110.1,t104,bt110.2.1,bt110.2.2))) = some (r1_,r2_,s1_,s2_) := by rw [if_pos rfl] at H; exact H
  clear H; have H := H1; clear H1; replace H := Option.bind_eq_some_iff.mp H; obtain ⟨⟨t110,t111,t112⟩,A60,H⟩ := H; replace H : (some (t110,t104,t111,t112)) = some (r1_,r2_,s1_,s2_) := H; have A6 := Aside0.mk A60; clear A60; simp only [Option.some.injEq,Prod.mk.injEq] at H; obtain ⟨rfl,rfl,rfl,rfl⟩ := H
  go_enter Tryz.func51,Tryz.ntmps51
  go_wp2_with (first | ((with_reducible refine gate_dst (N := 9) rfl ?_); refine box_event ?hg (N := 9) ?hd (cs := #[.slice A0 l0.length c0,.int .i64 0,.int .u64 0]) (t := 50) ?hr ?_; (case hd => rfl); (case hg => rfl); (case hr => first | (go_simp; done) | (go_simp; rfl)); intro g hg wb hbox hb; have HI0 := Aside0.mk (show IsS50 w wb g l0 0 0 from ⟨A0,c0,hbox,by rw [hg]; exact below_size (by repeat (first | (with_reducible first | exact HBr.out | apply below_alloc | apply pw_below_drewN | apply below_drew1) | exact HBr.out)),HR0.out⟩); have HB := Aside0.mk (below_step (by repeat (first | (with_reducible first | exact HBr.out | apply below_alloc | apply pw_below_drewN | apply below_drew1) | exact HBr.out)) hb); have HL := Aside0.mk HB.out.size; have HW0 := Aside0.mk HB.out.size; have HK := Aside0.mk (KeepBut.refl wb g none); clear hb hbox hg) | ((with_reducible refine gate_callee (f := 30) rfl ?_); refine goesL_ (some 11) rfl rfl Tryz.func30 (by kernel_rfl) rfl #[.pointer (some ⟨g,0,none⟩)] rfl zrr ?_; (with_reducible refine (spec_l1Cur_piece.calls g l0 (0 : Int) (0 : Int) t101 t102 t103 w _ ?side1 ?side2 A2.out).mono ?_); (case side1 => repeat (first | (with_reducible first | exact HI0.out | apply IsS50.alloc | apply IsS50.drewN | apply IsS50.drew | apply IsS50.set_1 | apply IsS50.set_2) | exact HI0.out)); (case side2 => repeat (first | (with_reducible first | exact HB.out | apply below_alloc | apply pw_below_drewN | apply below_drew1 | refine below_set ?_ (IsS50.ge HI0.out)) | exact HB.out)); rintro e w7 ⟨rfl,hi,hb,hk⟩; refine ⟨_,rfl,?_⟩; have n0_ := Aside0.mk (KeepBut.trans (by repeat (first | (with_reducible first | exact HK.out | apply KeepBut.set_ | apply keep_drewN | apply keep_drew | apply keep_alloc) | exact HK.out)) hk (.inl rfl)); have n1_ := Aside0.mk (hb); have n2_ := Aside0.mk (hi); clear HK; clear HB; clear HI0; have HK := n0_; have HB := n1_; have HI0 := n2_; clear n0_ n1_ n2_; (try clear hb); (try clear hb2); (try clear hk); (try clear hi)) | ((with_reducible refine gate_callee (f := 71) rfl ?_); refine goesL_ (some 14) rfl rfl Tryz.func71 (by kernel_rfl) rfl #[.pointer (some ⟨g,0,none⟩),.string t101] rfl zrr ?_; (with_reducible refine (spec_l1Cur_walk.calls k g l0 t102 t103 t101 t104 t105 t106 w _ ?side1 ?side2 A3.out).mono ?_); (case side1 => repeat (first | (with_reducible first | exact HI0.out | apply IsS50.alloc | apply IsS50.drewN | apply IsS50.drew | apply IsS50.set_1 | apply IsS50.set_2) | exact HI0.out)); (case side2 => repeat (first | (with_reducible first | exact HB.out | apply below_alloc | apply pw_below_drewN | apply below_drew1 | refine below_set ?_ (IsS50.ge HI0.out)) | exact HB.out)); rintro e w8 ⟨rfl,hi,hb,hk⟩; refine ⟨_,rfl,?_⟩; have n0_ := Aside0.mk (KeepBut.trans (by repeat (first | (with_reducible first | exact HK.out | apply KeepBut.set_ | apply keep_drewN | apply keep_drew | apply keep_alloc) | exact HK.out)) hk (.inl rfl)); have n1_ := Aside0.mk (hb); have n2_ := Aside0.mk (hi); clear HK; clear HB; clear HI0; have HK := n0_; have HB := n1_; have HI0 := n2_; clear n0_ n1_ n2_; (try clear hb); (try clear hb2); (try clear hk); (try clear hi)) | ((with_reducible refine gate_callee (f := 59) rfl ?_); refine goesL_ (some 16) rfl rfl Tryz.func59 (by kernel_rfl) rfl #[.pointer (some ⟨g,0,none⟩),.int .i64 3] rfl zrr ?_; (with_reducible refine (spec_l1Cur_one.calls g l0 t105 t106 3 true t108 t109 w _ ?side1 ?side2 A4.out).mono ?_); (case side1 => repeat (first | (with_reducible first | exact HI0.out | apply IsS50.alloc | apply IsS50.drewN | apply IsS50.drew | apply IsS50.set_1 | apply IsS50.set_2) | exact HI0.out)); (case side2 => repeat (first | (with_reducible first | exact HB.out | apply below_alloc | apply pw_below_drewN | apply below_drew1 | refine below_set ?_ (IsS50.ge HI0.out)) | exact HB.out)); rintro e w9 ⟨rfl,hi,hb,hk⟩; refine ⟨_,rfl,?_⟩; have n0_ := Aside0.mk (KeepBut.trans (by repeat (first | (with_reducible first | exact HK.out | apply KeepBut.set_ | apply keep_drewN | apply keep_drew | apply keep_alloc) | exact HK.out)) hk (.inl rfl)); have n1_ := Aside0.mk (hb); have n2_ := Aside0.mk (hi); clear HK; clear HB; clear HI0; have HK := n0_; have HB := n1_; have HI0 := n2_; clear n0_ n1_ n2_; (try clear hb); (try clear hb2); (try clear hk); (try clear hi)) | ((with_reducible refine gate_callee (f := 30) rfl ?_); refine goesL_ (some 18) rfl rfl Tryz.func30 (by kernel_rfl) rfl #[.pointer (some ⟨g,0,none⟩)] rfl zrr ?_; (with_reducible refine (spec_l1Cur_piece.calls g l0 t108 t109 t110 t111 t112 w _ ?side1 ?side2 A6.out).mono ?_); (case side1 => repeat (first | (with_reducible first | exact HI0.out | apply IsS50.alloc | apply IsS50.drewN | apply IsS50.drew | apply IsS50.set_1 | apply IsS50.set_2) | exact HI0.out)); (case side2 => repeat (first | (with_reducible first | exact HB.out | apply below_alloc | apply pw_below_drewN | apply below_drew1 | refine below_set ?_ (IsS50.ge HI0.out)) | exact HB.out)); rintro e w10 ⟨rfl,hi,hb,hk⟩; refine ⟨_,rfl,?_⟩; have n0_ := Aside0.mk (KeepBut.trans (by repeat (first | (with_reducible first | exact HK.out | apply KeepBut.set_ | apply keep_drewN | apply keep_drew | apply keep_alloc) | exact HK.out)) hk (.inl rfl)); have n1_ := Aside0.mk (hb); have n2_ := Aside0.mk (hi); clear HK; clear HB; clear HI0; have HK := n0_; have HB := n1_; have HI0 := n2_; clear n0_ n1_ n2_; (try clear hb); (try clear hb2); (try clear hk); (try clear hi)))
  go_ret2
  exact ⟨zer,by repeat (first | (with_reducible first | exact HB.out | apply below_alloc | apply pw_below_drewN | apply below_drew1 | refine below_set ?_ (IsS50.ge HI0.out)) | exact HB.out)⟩
 ·
  replace c5 := Bool.eq_false_iff.mpr c5; subst c5; have H1 : (some (t101,t104,t108,t109)) = some (r1_,r2_,s1_,s2_) := by rw [if_neg (show ¬ (false = true) by decide)] at H; exact H
  clear H; have H := H1; clear H1; simp only [Option.some.injEq,Prod.mk.injEq] at H; obtain ⟨rfl,rfl,rfl,rfl⟩ := H
  go_enter Tryz.func51,Tryz.ntmps51
  go_wp2_with (first | ((with_reducible refine gate_dst (N := 9) rfl ?_); refine box_event ?hg (N := 9) ?hd (cs := #[.slice A0 l0.length c0,.int .i64 0,.int .u64 0]) (t := 50) ?hr ?_; (case hd => rfl); (case hg => rfl); (case hr => first | (go_simp; done) | (go_simp; rfl)); intro g hg wb hbox hb; have HI0 := Aside0.mk (show IsS50 w wb g l0 0 0 from ⟨A0,c0,hbox,by rw [hg]; exact below_size (by repeat (first | (with_reducible first | exact HBr.out | apply below_alloc | apply pw_below_drewN | apply below_drew1) | exact HBr.out)),HR0.out⟩); have HB := Aside0.mk (below_step (by repeat (first | (with_reducible first | exact HBr.out | apply below_alloc | apply pw_below_drewN | apply below_drew1) | exact HBr.out)) hb); have HL := Aside0.mk HB.out.size; have HW0 := Aside0.mk HB.out.size; have HK := Aside0.mk (KeepBut.refl wb g none); clear hb hbox hg) | ((with_reducible refine gate_callee (f := 30) rfl ?_); refine goesL_ (some 11) rfl rfl Tryz.func30 (by kernel_rfl) rfl #[.pointer (some ⟨g,0,none⟩)] rfl zrr ?_; (with_reducible refine (spec_l1Cur_piece.calls g l0 (0 : Int) (0 : Int) t101 t102 t103 w _ ?side1 ?side2 A2.out).mono ?_); (case side1 => repeat (first | (with_reducible first | exact HI0.out | apply IsS50.alloc | apply IsS50.drewN | apply IsS50.drew | apply IsS50.set_1 | apply IsS50.set_2) | exact HI0.out)); (case side2 => repeat (first | (with_reducible first | exact HB.out | apply below_alloc | apply pw_below_drewN | apply below_drew1 | refine below_set ?_ (IsS50.ge HI0.out)) | exact HB.out)); rintro e w11 ⟨rfl,hi,hb,hk⟩; refine ⟨_,rfl,?_⟩; have n0_ := Aside0.mk (KeepBut.trans (by repeat (first | (with_reducible first | exact HK.out | apply KeepBut.set_ | apply keep_drewN | apply keep_drew | apply keep_alloc) | exact HK.out)) hk (.inl rfl)); have n1_ := Aside0.mk (hb); have n2_ := Aside0.mk (hi); clear HK; clear HB; clear HI0; have HK := n0_; have HB := n1_; have HI0 := n2_; clear n0_ n1_ n2_; (try clear hb); (try clear hb2); (try clear hk); (try clear hi)) | ((with_reducible refine gate_callee (f := 71) rfl ?_); refine goesL_ (some 14) rfl rfl Tryz.func71 (by kernel_rfl) rfl #[.pointer (some ⟨g,0,none⟩),.string t101] rfl zrr ?_; (with_reducible refine (spec_l1Cur_walk.calls k g l0 t102 t103 t101 t104 t105 t106 w _ ?side1 ?side2 A3.out).mono ?_); (case side1 => repeat (first | (with_reducible first | exact HI0.out | apply IsS50.alloc | apply IsS50.drewN | apply IsS50.drew | apply IsS50.set_1 | apply IsS50.set_2) | exact HI0.out)); (case side2 => repeat (first | (with_reducible first | exact HB.out | apply below_alloc | apply pw_below_drewN | apply below_drew1 | refine below_set ?_ (IsS50.ge HI0.out)) | exact HB.out)); rintro e w12 ⟨rfl,hi,hb,hk⟩; refine ⟨_,rfl,?_⟩; have n0_ := Aside0.mk (KeepBut.trans (by repeat (first | (with_reducible first | exact HK.out | apply KeepBut.set_ | apply keep_drewN | apply keep_drew | apply keep_alloc) | exact HK.out)) hk (.inl rfl)); have n1_ := Aside0.mk (hb); have n2_ := Aside0.mk (hi); clear HK; clear HB; clear HI0; have HK := n0_; have HB := n1_; have HI0 := n2_; clear n0_ n1_ n2_; (try clear hb); (try clear hb2); (try clear hk); (try clear hi)) | ((with_reducible refine gate_callee (f := 59) rfl ?_); refine goesL_ (some 16) rfl rfl Tryz.func59 (by kernel_rfl) rfl #[.pointer (some ⟨g,0,none⟩),.int .i64 3] rfl zrr ?_; (with_reducible refine (spec_l1Cur_one.calls g l0 t105 t106 3 false t108 t109 w _ ?side1 ?side2 A4.out).mono ?_); (case side1 => repeat (first | (with_reducible first | exact HI0.out | apply IsS50.alloc | apply IsS50.drewN | apply IsS50.drew | apply IsS50.set_1 | apply IsS50.set_2) | exact HI0.out)); (case side2 => repeat (first | (with_reducible first | exact HB.out | apply below_alloc | apply pw_below_drewN | apply below_drew1 | refine below_set ?_ (IsS50.ge HI0.out)) | exact HB.out)); rintro e w13 ⟨rfl,hi,hb,hk⟩; refine ⟨_,rfl,?_⟩; have n0_ := Aside0.mk (KeepBut.trans (by repeat (first | (with_reducible first | exact HK.out | apply KeepBut.set_ | apply keep_drewN | apply keep_drew | apply keep_alloc) | exact HK.out)) hk (.inl rfl)); have n1_ := Aside0.mk (hb); have n2_ := Aside0.mk (hi); clear HK; clear HB; clear HI0; have HK := n0_; have HB := n1_; have HI0 := n2_; clear n0_ n1_ n2_; (try clear hb); (try clear hb2); (try clear hk); (try clear hi)))
  go_ret2
  exact ⟨zer,by repeat (first | (with_reducible first | exact HB.out | apply below_alloc | apply pw_below_drewN | apply below_drew1 | refine below_set ?_ (IsS50.ge HI0.out)) | exact HB.out)⟩

end Go.Proofs.YtffbfkfbeggdnaaGreatDoor.P
-- printed by xprint.py
namespace Go.Proofs.YtffbfkfbeggdnaaGreatDoor.P
open Go.RowKit Go.Proofs.YtffbfkfbeggdnaaGreatDoorW.PrintWords Go.Proofs.YtffbfkfbeggdnaaGreatDoorW.PrintLast Go.Proofs.YtffbfkfbeggdnaaGreatDoorW.PrintMore
attribute [local go_sem] max2_int min2_int max_two min_two max_three min_three max_four min_four
set_option linter.unusedVariables false
set_option linter.unusedSimpArgs false

def spec_DrawRankOfNumber.f (k : Nat) (l0 : List Int) : Option (ByteArray × ByteArray) := (spec_DrawIsWalk.f k l0).bind fun bt101 => (some (bt101.1,bt101.2))
set_option maxHeartbeats 8000000 in
set_option maxRecDepth 100000 in
theorem spec_DrawRankOfNumber.calls (k : Nat) (A0 : Option Addr) (c0 : Nat) (l0 : List Int) (r1 : ByteArray) (r2 : ByteArray) (w : World) (hr0 : Kd.C (Kd.int .u8) w A0 l0.length l0) (hc0 : l0.length ≤ c0) (h : spec_DrawRankOfNumber.f k l0 = some (r1,r2)) :
  Calls Tryz.prog 17 #[.slice A0 l0.length c0] w fun e w' => e = .returned (.tuple #[.string r1,.string r2]) ∧ Below w.heap.size w w' := by
 have HR0 := Aside0.mk hr0; have HC0 := Aside0.mk hc0; clear hr0 hc0; have HB := Aside0.mk (Below.refl w.heap.size w); have H : ((spec_DrawIsWalk.f k l0).bind fun bt101 => (some (bt101.1,bt101.2))) = some (r1,r2) := h; clear h; replace H := Option.bind_eq_some_iff.mp H; obtain ⟨⟨t101,t102⟩,A20,H⟩ := H; replace H : (some (t101,t102)) = some (r1,r2) := H; have A2 := Aside0.mk A20; clear A20; simp only [Option.some.injEq,Prod.mk.injEq] at H; obtain ⟨rfl,rfl⟩ := H
 go_enter Tryz.func17,Tryz.ntmps17
 go_wp2_with (first | ((with_reducible refine gate_callee (f := 51) rfl ?_); refine goesL_ (some 5) rfl rfl Tryz.func51 (by kernel_rfl) rfl #[.slice A0 l0.length c0] rfl zrr ?_; (with_reducible refine (spec_DrawIsWalk.calls k _ _ l0 t101 t102 _ ?side1 ?side2 A2.out).mono ?_); (case side1 => repeat (first | exact HR0.out | (with_reducible refine Kd.C_alloc ?_ _) | (with_reducible refine Kd.C_drewN ?_ _) | (with_reducible refine Kd.C_drew ?_))); (case side2 => exact HC0.out); rintro e w3 ⟨rfl,hb⟩; refine ⟨_,rfl,?_⟩; have n0_ := Aside0.mk (below_step zbw hb); clear HB; have HB := n0_; clear n0_; (try clear hb); (try clear hb2); (try clear hk); (try clear hi)))
 go_ret2
 exact ⟨zer,zbw⟩

end Go.Proofs.YtffbfkfbeggdnaaGreatDoor.P
-- printed by xprint.py
namespace Go.Proofs.YtffbfkfbeggdnaaGreatDoor.P
open Go.RowKit Go.Proofs.YtffbfkfbeggdnaaGreatDoorW.PrintWords Go.Proofs.YtffbfkfbeggdnaaGreatDoorW.PrintLast Go.Proofs.YtffbfkfbeggdnaaGreatDoorW.PrintMore
attribute [local go_sem] max2_int min2_int max_two min_two max_three min_three max_four min_four
set_option linter.unusedVariables false
set_option linter.unusedSimpArgs false

def spec_wkWalk.l0 : Nat → ByteArray → ByteArray → Int → Option (Bool)
 | 0,_,_,_ => none
 | k + 1,x0,x1,x5 => if x5 < (x1.size : Int) then (if 0 ≤ (wrap64 (x5 - 1)) then (if (wrap64 (x5 - 1)) < (x1.size : Int) then (if 0 ≤ x5 then ((spec_wkGoes.f k x0 (bt x1 (wrap64 (x5 - 1))) (bt x1 x5)).bind fun t102 => (if t102 = true then (spec_wkWalk.l0 k x0 x1 (wrap64 (x5 + 1))) else (some false))) else (none)) else (none)) else (none)) else (some true)
def spec_wkWalk.f (k : Nat) (a0 : ByteArray) (a1 : ByteArray) : Option (Bool) := (spec_wkDigits.f k a1).bind fun t101 => (if t101 = true then (spec_wkWalk.l0 k a0 a1 1) else (some false))
set_option maxHeartbeats 8000000 in
set_option maxRecDepth 100000 in
theorem spec_wkWalk.calls (k : Nat) (a0 : ByteArray) (a1 : ByteArray) (r : Bool) (w : World) (h : spec_wkWalk.f k a0 a1 = some r) :
  Calls Tryz.prog 53 #[.string a0,.string a1] w fun e w' => e = .returned (.bool r) ∧ Drawn0 w w' := by
 have H : ((spec_wkDigits.f k a1).bind fun t101 => (if t101 = true then (spec_wkWalk.l0 k a0 a1 1) else (some false))) = some r := h; clear h; replace H := Option.bind_eq_some_iff.mp H; obtain ⟨t101,A30,H⟩ := H; replace H : (if t101 = true then (spec_wkWalk.l0 k a0 a1 1) else (some false)) = some r := H; have A3 := Aside0.mk A30; clear A30
 by_cases c4 : t101 = true
 ·
  subst c4; have H1 : (spec_wkWalk.l0 k a0 a1 1) = some r := by rw [if_pos rfl] at H; exact H
  clear H; have H := H1; clear H1; have H' := Aside0.mk H; clear H
  go_enter Tryz.func53,Tryz.ntmps53
  go_wp2_with (first | (go_at_call 65; (with_reducible refine (spec_wkDigits.calls k a1 true _ A3.out).mono ?_); rintro e w' ⟨rfl,⟨nd,rfl⟩⟩; (try first | exact ⟨rfl,_,World.drewN_drewN _ _ _⟩ | exact ⟨rfl,_,Eq.trans (World.drewN_drewN _ _ _) (congrArg (World.drewN _) (Nat.add_assoc _ _ _))⟩)))
  repeat (go_quiet (first | (go_at_call 65; (with_reducible refine (spec_wkDigits.calls k a1 true _ A3.out).mono ?_); rintro e w' ⟨rfl,⟨nd,rfl⟩⟩; (try first | exact ⟨rfl,_,World.drewN_drewN _ _ _⟩ | exact ⟨rfl,_,Eq.trans (World.drewN_drewN _ _ _) (congrArg (World.drewN _) (Nat.add_assoc _ _ _))⟩))); try go_wp2_with (first | (go_at_call 65; (with_reducible refine (spec_wkDigits.calls k a1 true _ A3.out).mono ?_); rintro e w' ⟨rfl,⟨nd,rfl⟩⟩; (try first | exact ⟨rfl,_,World.drewN_drewN _ _ _⟩ | exact ⟨rfl,_,Eq.trans (World.drewN_drewN _ _ _) (congrArg (World.drewN _) (Nat.add_assoc _ _ _))⟩))))
  go_loopg [5] k (fun kq v5 w' => ∃ (x5_1 : Int),v5 = .int .i64 x5_1 ∧ Aside0 (spec_wkWalk.l0 kq a0 a1 x5_1 = some r) ∧ Aside0 (kq ≤ k) ∧ Drawn0 w w')
  case atStart => exact ⟨(1),zrs,H',⟨Nat.le_refl _⟩,by repeat (first | exact Drawn0.refl _ | apply Drawn0.step)⟩
  case round =>
   clear H'; try clear p2
   try clear c4
   obtain ⟨x5_1,rfl,HA,HK1,⟨m1,rfl⟩⟩ := hrel
   cases gk with
   | zero => exact absurd HA.out (by simp [spec_wkWalk.l0])
   | succ k1 =>
    have H := HA.out; clear HA; simp only [spec_wkWalk.l0] at H
    by_cases c5 : x5_1 < (a1.size : Int)
    ·
     rw [if_pos c5] at H; have c5b0 : decide (x5_1 < (a1.size : Int)) = true := decide_eq_true c5; clear c5; obtain ⟨ji6,hji6⟩ : ∃ j_ : Int,(wrap64 (x5_1 - 1)) = j_ := ⟨_,rfl⟩; replace H : (if 0 ≤ (ji6) then (if (ji6) < (a1.size : Int) then (if 0 ≤ x5_1 then ((spec_wkGoes.f k1 a0 (bt a1 (ji6)) (bt a1 x5_1)).bind fun t102 => (if t102 = true then (spec_wkWalk.l0 k1 a0 a1 (wrap64 (x5_1 + 1))) else (some false))) else (none)) else (none)) else (none)) = some r := by first | (rw [hji6] at H; exact H) | (simp only [hji6] at H ⊢; exact H)
     have hji6w : (IntKind.i64.wrap (x5_1 - 1)) = ji6 := (i64_w _).trans hji6
     by_cases c7 : 0 ≤ (ji6)
     ·
      rw [if_pos c7] at H; have c7b0 : decide (0 ≤ (ji6)) = true := decide_eq_true c7; clear c7
      by_cases c8 : (ji6) < (a1.size : Int)
      ·
       rw [if_pos c8] at H; have c8b0 : decide ((ji6) < (a1.size : Int)) = true := decide_eq_true c8; clear c8
       by_cases c10 : 0 ≤ x5_1
       ·
        rw [if_pos c10] at H; have c10b0 : decide (0 ≤ x5_1) = true := decide_eq_true c10; clear c10; replace H := Option.bind_eq_some_iff.mp H; obtain ⟨t102,A120,H⟩ := H; replace H : (if t102 = true then (spec_wkWalk.l0 k1 a0 a1 (wrap64 (x5_1 + 1))) else (some false)) = some r := H; have A12 := Aside0.mk A120; clear A120
        by_cases c13 : t102 = true
        ·
         subst c13; have H1 : (spec_wkWalk.l0 k1 a0 a1 (wrap64 (x5_1 + 1))) = some r := by rw [if_pos rfl] at H; exact H
         clear H; have H := H1; clear H1; have H' := Aside0.mk H; clear H; have p9 : 0 ≤ ((ji6) : Int) := zdd; have q9 : (ji6) < (a1.size : Int) := zdd; have hx9 := bt_at a1 (ji6); replace p9 := eq_true p9; replace q9 := eq_true q9; have p11 : 0 ≤ (x5_1 : Int) := zdd; have q11 : x5_1 < (a1.size : Int) := zdd; have hx11 := bt_at a1 x5_1; replace p11 := eq_true p11; replace q11 := eq_true q11; go_wp2_with (first | (go_at_call 70; (with_reducible refine (spec_wkGoes.calls k1 a0 (bt a1 (ji6)) (bt a1 x5_1) true _ A12.out).mono ?_); rintro e w' ⟨rfl,⟨nd,rfl⟩⟩; (try first | exact ⟨rfl,_,World.drewN_drewN _ _ _⟩ | exact ⟨rfl,_,Eq.trans (World.drewN_drewN _ _ _) (congrArg (World.drewN _) (Nat.add_assoc _ _ _))⟩)))
         repeat (go_quiet (first | (go_at_call 70; (with_reducible refine (spec_wkGoes.calls k1 a0 (bt a1 (ji6)) (bt a1 x5_1) true _ A12.out).mono ?_); rintro e w' ⟨rfl,⟨nd,rfl⟩⟩; (try first | exact ⟨rfl,_,World.drewN_drewN _ _ _⟩ | exact ⟨rfl,_,Eq.trans (World.drewN_drewN _ _ _) (congrArg (World.drewN _) (Nat.add_assoc _ _ _))⟩))); try go_wp2_with (first | (go_at_call 70; (with_reducible refine (spec_wkGoes.calls k1 a0 (bt a1 (ji6)) (bt a1 x5_1) true _ A12.out).mono ?_); rintro e w' ⟨rfl,⟨nd,rfl⟩⟩; (try first | exact ⟨rfl,_,World.drewN_drewN _ _ _⟩ | exact ⟨rfl,_,Eq.trans (World.drewN_drewN _ _ _) (congrArg (World.drewN _) (Nat.add_assoc _ _ _))⟩))))
         go_roundg k1
         case measure => have := HK1.out; omega
         case rel => exact ⟨(wrap64 (x5_1 + 1)),zrs,H',⟨by have := HK1.out; omega⟩,by repeat (first | exact Drawn0.refl _ | apply Drawn0.step)⟩
        ·
         replace c13 := Bool.eq_false_iff.mpr c13; subst c13; have H1 : (some false) = some r := by rw [if_neg (show ¬ (false = true) by decide)] at H; exact H
         clear H; have H := H1; clear H1; obtain rfl := Option.some.inj H; have p9 : 0 ≤ ((ji6) : Int) := zdd; have q9 : (ji6) < (a1.size : Int) := zdd; have hx9 := bt_at a1 (ji6); replace p9 := eq_true p9; replace q9 := eq_true q9; have p11 : 0 ≤ (x5_1 : Int) := zdd; have q11 : x5_1 < (a1.size : Int) := zdd; have hx11 := bt_at a1 x5_1; replace p11 := eq_true p11; replace q11 := eq_true q11; go_wp2_with (first | (go_at_call 70; (with_reducible refine (spec_wkGoes.calls k1 a0 (bt a1 (ji6)) (bt a1 x5_1) false _ A12.out).mono ?_); rintro e w' ⟨rfl,⟨nd,rfl⟩⟩; (try first | exact ⟨rfl,_,World.drewN_drewN _ _ _⟩ | exact ⟨rfl,_,Eq.trans (World.drewN_drewN _ _ _) (congrArg (World.drewN _) (Nat.add_assoc _ _ _))⟩)))
         repeat (go_quiet (first | (go_at_call 70; (with_reducible refine (spec_wkGoes.calls k1 a0 (bt a1 (ji6)) (bt a1 x5_1) false _ A12.out).mono ?_); rintro e w' ⟨rfl,⟨nd,rfl⟩⟩; (try first | exact ⟨rfl,_,World.drewN_drewN _ _ _⟩ | exact ⟨rfl,_,Eq.trans (World.drewN_drewN _ _ _) (congrArg (World.drewN _) (Nat.add_assoc _ _ _))⟩))); try go_wp2_with (first | (go_at_call 70; (with_reducible refine (spec_wkGoes.calls k1 a0 (bt a1 (ji6)) (bt a1 x5_1) false _ A12.out).mono ?_); rintro e w' ⟨rfl,⟨nd,rfl⟩⟩; (try first | exact ⟨rfl,_,World.drewN_drewN _ _ _⟩ | exact ⟨rfl,_,Eq.trans (World.drewN_drewN _ _ _) (congrArg (World.drewN _) (Nat.add_assoc _ _ _))⟩))))
         go_ret
         exact ⟨by first | rfl | (simp; done) | (simp only [← hji6] <;> (first | rfl | simp)) | (simp [*]; done),by repeat (first | exact Drawn0.refl _ | apply Drawn0.step)⟩
       · rw [if_neg c10] at H; exact absurd H (by simp)
      · rw [if_neg c8] at H; exact absurd H (by simp)
     · rw [if_neg c7] at H; exact absurd H (by simp)
    ·
     rw [if_neg c5] at H; have c5b0 : decide (x5_1 < (a1.size : Int)) = false := decide_eq_false c5; clear c5; obtain rfl := Option.some.inj H; go_wp2
     repeat (go_quiet (fail); try go_wp2)
     go_ret
     exact ⟨by first | rfl | (simp; done) | (simp [*]; done),by repeat (first | exact Drawn0.refl _ | apply Drawn0.step)⟩
 ·
  replace c4 := Bool.eq_false_iff.mpr c4; subst c4; have H1 : (some false) = some r := by rw [if_neg (show ¬ (false = true) by decide)] at H; exact H
  clear H; have H := H1; clear H1; obtain rfl := Option.some.inj H
  go_enter Tryz.func53,Tryz.ntmps53
  go_wp2_with (first | (go_at_call 65; (with_reducible refine (spec_wkDigits.calls k a1 false _ A3.out).mono ?_); rintro e w' ⟨rfl,⟨nd,rfl⟩⟩; (try first | exact ⟨rfl,_,World.drewN_drewN _ _ _⟩ | exact ⟨rfl,_,Eq.trans (World.drewN_drewN _ _ _) (congrArg (World.drewN _) (Nat.add_assoc _ _ _))⟩)))
  repeat (go_quiet (first | (go_at_call 65; (with_reducible refine (spec_wkDigits.calls k a1 false _ A3.out).mono ?_); rintro e w' ⟨rfl,⟨nd,rfl⟩⟩; (try first | exact ⟨rfl,_,World.drewN_drewN _ _ _⟩ | exact ⟨rfl,_,Eq.trans (World.drewN_drewN _ _ _) (congrArg (World.drewN _) (Nat.add_assoc _ _ _))⟩))); try go_wp2_with (first | (go_at_call 65; (with_reducible refine (spec_wkDigits.calls k a1 false _ A3.out).mono ?_); rintro e w' ⟨rfl,⟨nd,rfl⟩⟩; (try first | exact ⟨rfl,_,World.drewN_drewN _ _ _⟩ | exact ⟨rfl,_,Eq.trans (World.drewN_drewN _ _ _) (congrArg (World.drewN _) (Nat.add_assoc _ _ _))⟩))))
  go_ret
  exact ⟨by first | rfl | (simp; done) | (simp [*]; done),by repeat (first | exact Drawn0.refl _ | apply Drawn0.step)⟩

end Go.Proofs.YtffbfkfbeggdnaaGreatDoor.P
-- printed by xprint.py
namespace Go.Proofs.YtffbfkfbeggdnaaGreatDoor.P
open Go.RowKit Go.Proofs.YtffbfkfbeggdnaaGreatDoorW.PrintWords Go.Proofs.YtffbfkfbeggdnaaGreatDoorW.PrintLast Go.Proofs.YtffbfkfbeggdnaaGreatDoorW.PrintMore
attribute [local go_sem] max2_int min2_int max_two min_two max_three min_three max_four min_four
set_option linter.unusedVariables false
set_option linter.unusedSimpArgs false

def spec_IsWalk.f (k : Nat) (a0 : ByteArray) (a1 : ByteArray) : Option (Bool × Bool) := (spec_wkPiece.f a0).bind fun t101 => (if t101 = true then ((spec_wkWalk.f k a0 a1).bind fun t102 => (some (t102,true))) else (some (false,false)))
set_option maxHeartbeats 8000000 in
set_option maxRecDepth 100000 in
theorem spec_IsWalk.calls (k : Nat) (a0 : ByteArray) (a1 : ByteArray) (r1 : Bool) (r2 : Bool) (w : World) (h : spec_IsWalk.f k a0 a1 = some (r1,r2)) :
  Calls Tryz.prog 21 #[.string a0,.string a1] w fun e w' => e = .returned (.tuple #[.bool r1,.bool r2]) ∧ Drawn0 w w' := by
 have H : ((spec_wkPiece.f a0).bind fun t101 => (if t101 = true then ((spec_wkWalk.f k a0 a1).bind fun t102 => (some (t102,true))) else (some (false,false)))) = some (r1,r2) := h; clear h; replace H := Option.bind_eq_some_iff.mp H; obtain ⟨t101,A30,H⟩ := H; replace H : (if t101 = true then ((spec_wkWalk.f k a0 a1).bind fun t102 => (some (t102,true))) else (some (false,false))) = some (r1,r2) := H; have A3 := Aside0.mk A30; clear A30
 by_cases c4 : t101 = true
 ·
  subst c4; have H1 : ((spec_wkWalk.f k a0 a1).bind fun t102 => (some (t102,true))) = some (r1,r2) := by rw [if_pos rfl] at H; exact H
  clear H; have H := H1; clear H1; replace H := Option.bind_eq_some_iff.mp H; obtain ⟨t102,A50,H⟩ := H; replace H : (some (t102,true)) = some (r1,r2) := H; have A5 := Aside0.mk A50; clear A50; simp only [Option.some.injEq,Prod.mk.injEq] at H; obtain ⟨rfl,rfl⟩ := H
  go_enter Tryz.func21,Tryz.ntmps21
  go_wp2_with (first | ((with_reducible refine gate_callee (f := 45) rfl ?_); refine goesL_ (some 7) rfl rfl Tryz.func45 (by kernel_rfl) rfl #[.string a0] rfl zrr ?_; (with_reducible refine (spec_wkPiece.calls a0 true _ A3.out).mono ?_); rintro e w' ⟨rfl,⟨nd,rfl⟩⟩; refine ⟨_,rfl,?_⟩) | ((with_reducible refine gate_callee (f := 53) rfl ?_); refine goesL_ (some 11) rfl rfl Tryz.func53 (by kernel_rfl) rfl #[.string a0,.string a1] rfl zrr ?_; (with_reducible refine (spec_wkWalk.calls k a0 a1 t102 _ A5.out).mono ?_); rintro e w' ⟨rfl,⟨nd,rfl⟩⟩; refine ⟨_,rfl,?_⟩))
  go_ret2
  exact ⟨by first | rfl | (simp; done) | (simp [*]; done),by repeat (first | exact Drawn0.refl _ | apply Drawn0.step)⟩
 ·
  replace c4 := Bool.eq_false_iff.mpr c4; subst c4; have H1 : (some (false,false)) = some (r1,r2) := by rw [if_neg (show ¬ (false = true) by decide)] at H; exact H
  clear H; have H := H1; clear H1; simp only [Option.some.injEq,Prod.mk.injEq] at H; obtain ⟨rfl,rfl⟩ := H
  go_enter Tryz.func21,Tryz.ntmps21
  go_wp2_with (first | ((with_reducible refine gate_callee (f := 45) rfl ?_); refine goesL_ (some 7) rfl rfl Tryz.func45 (by kernel_rfl) rfl #[.string a0] rfl zrr ?_; (with_reducible refine (spec_wkPiece.calls a0 false _ A3.out).mono ?_); rintro e w' ⟨rfl,⟨nd,rfl⟩⟩; refine ⟨_,rfl,?_⟩))
  go_ret2
  exact ⟨by first | rfl | (simp; done) | (simp [*]; done),by repeat (first | exact Drawn0.refl _ | apply Drawn0.step)⟩

end Go.Proofs.YtffbfkfbeggdnaaGreatDoor.P
-- printed by xprint.py
namespace Go.Proofs.YtffbfkfbeggdnaaGreatDoor.P
open Go.RowKit Go.Proofs.YtffbfkfbeggdnaaGreatDoorW.PrintWords Go.Proofs.YtffbfkfbeggdnaaGreatDoorW.PrintLast Go.Proofs.YtffbfkfbeggdnaaGreatDoorW.PrintMore
attribute [local go_sem] max2_int min2_int max_two min_two max_three min_three max_four min_four
set_option linter.unusedVariables false
set_option linter.unusedSimpArgs false

def spec_NextKeys.f (k : Nat) (a0 : ByteArray) (a1 : ByteArray) : Option (ByteArray × Bool) := (spec_wkAsked.f k a0 a1).bind fun t101 => (if t101 = true then (if 0 < (a1.size : Int) then ((spec_wkNext.f k a0 (bt a1 0)).bind fun t102 => (some (t102,true))) else (none)) else (some ((⟨#[]⟩ : ByteArray),false)))
theorem spec_NextKeys.mono : ∀ y0 y1 k,LeO (spec_NextKeys.f k y0 y1) (spec_NextKeys.f (k + 1) y0 y1) := by
 intro y0 y1 k
 unfold spec_NextKeys.f
 repeat' first
   | (with_reducible exact spec_wkAsked.mono _ _ _)
   | (with_reducible exact spec_wkNext.mono _ _ _)
   | (with_reducible exact LeO.refl _)
   | (with_reducible exact LeO.none _)
   | (with_reducible refine LeO.ite ?_ ?_)
   | (with_reducible refine LeO.bind ?_ (fun _ => ?_))
   | exact spec_wkAsked.mono _ _ _
   | exact spec_wkNext.mono _ _ _
   | exact LeO.none _
   | refine LeO.ite ?_ ?_
   | refine LeO.bind ?_ (fun _ => ?_)
set_option maxHeartbeats 8000000 in
set_option maxRecDepth 100000 in
theorem spec_NextKeys.calls (k : Nat) (a0 : ByteArray) (a1 : ByteArray) (r1 : ByteArray) (r2 : Bool) (w : World) (h : spec_NextKeys.f k a0 a1 = some (r1,r2)) :
  Calls Tryz.prog 9 #[.string a0,.string a1] w fun e w' => e = .returned (.tuple #[.string r1,.bool r2]) ∧ Drawn0 w w' := by
 have H : ((spec_wkAsked.f k a0 a1).bind fun t101 => (if t101 = true then (if 0 < (a1.size : Int) then ((spec_wkNext.f k a0 (bt a1 0)).bind fun t102 => (some (t102,true))) else (none)) else (some ((⟨#[]⟩ : ByteArray),false)))) = some (r1,r2) := h; clear h; replace H := Option.bind_eq_some_iff.mp H; obtain ⟨t101,A30,H⟩ := H; replace H : (if t101 = true then (if 0 < (a1.size : Int) then ((spec_wkNext.f k a0 (bt a1 0)).bind fun t102 => (some (t102,true))) else (none)) else (some ((⟨#[]⟩ : ByteArray),false))) = some (r1,r2) := H; have A3 := Aside0.mk A30; clear A30
 by_cases c4 : t101 = true
 ·
  subst c4; have H1 : (if 0 < (a1.size : Int) then ((spec_wkNext.f k a0 (bt a1 0)).bind fun t102 => (some (t102,true))) else (none)) = some (r1,r2) := by rw [if_pos rfl] at H; exact H
  clear H; have H := H1; clear H1
  by_cases c5 : 0 < (a1.size : Int)
  ·
   rw [if_pos c5] at H; have c5b0 : decide (0 < (a1.size : Int)) = true := decide_eq_true c5; have c5b1 : decide (0 < a1.size) = true := decide_eq_true (by omega); clear c5; replace H := Option.bind_eq_some_iff.mp H; obtain ⟨t102,A70,H⟩ := H; replace H : (some (t102,true)) = some (r1,r2) := H; have A7 := Aside0.mk A70; clear A70; simp only [Option.some.injEq,Prod.mk.injEq] at H; obtain ⟨rfl,rfl⟩ := H
   go_enter Tryz.func9,Tryz.ntmps9
   go_wp2_with (first | ((with_reducible refine gate_callee (f := 39) rfl ?_); refine goesL_ (some 8) rfl rfl Tryz.func39 (by kernel_rfl) rfl #[.string a0,.string a1] rfl zrr ?_; (with_reducible refine (spec_wkAsked.calls k a0 a1 true _ A3.out).mono ?_); rintro e w' ⟨rfl,⟨nd,rfl⟩⟩; refine ⟨_,rfl,?_⟩; have p6 : 0 ≤ (0 : Int) := (by omega); have q6 : 0 < a1.size := (by have : (0 : Int) < (a1.size : Int) := zdd; omega); have hx6 : ∀ h : 0 < a1.size,((a1[0]'h).toNat : Int) = bt a1 0 := bt_at a1 0; clear p6; have qi6 : (0 < (a1.size : Int)) = True := eq_true (zdd); replace q6 := eq_true q6) | ((with_reducible refine gate_callee (f := 44) rfl ?_); refine goesL_ (some 13) rfl rfl Tryz.func44 (by kernel_rfl) rfl #[.string a0,.int .u8 (bt a1 0)] rfl zrr ?_; (with_reducible refine (spec_wkNext.calls k a0 (bt a1 0) t102 _ A7.out).mono ?_); rintro e w' ⟨rfl,⟨nd,rfl⟩⟩; refine ⟨_,rfl,?_⟩))
   go_ret2
   exact ⟨by first | rfl | (simp; done) | (simp [*]; done),by repeat (first | exact Drawn0.refl _ | apply Drawn0.step)⟩
  · rw [if_neg c5] at H; exact absurd H (by simp)
 ·
  replace c4 := Bool.eq_false_iff.mpr c4; subst c4; have H1 : (some ((⟨#[]⟩ : ByteArray),false)) = some (r1,r2) := by rw [if_neg (show ¬ (false = true) by decide)] at H; exact H
  clear H; have H := H1; clear H1; simp only [Option.some.injEq,Prod.mk.injEq] at H; obtain ⟨rfl,rfl⟩ := H
  go_enter Tryz.func9,Tryz.ntmps9
  go_wp2_with (first | ((with_reducible refine gate_callee (f := 39) rfl ?_); refine goesL_ (some 8) rfl rfl Tryz.func39 (by kernel_rfl) rfl #[.string a0,.string a1] rfl zrr ?_; (with_reducible refine (spec_wkAsked.calls k a0 a1 false _ A3.out).mono ?_); rintro e w' ⟨rfl,⟨nd,rfl⟩⟩; refine ⟨_,rfl,?_⟩))
  go_ret2
  exact ⟨by first | rfl | (simp; done) | (simp [*]; done),by repeat (first | exact Drawn0.refl _ | apply Drawn0.step)⟩

end Go.Proofs.YtffbfkfbeggdnaaGreatDoor.P
-- printed by xprint.py
namespace Go.Proofs.YtffbfkfbeggdnaaGreatDoor.P
open Go.RowKit Go.Proofs.YtffbfkfbeggdnaaGreatDoorW.PrintWords Go.Proofs.YtffbfkfbeggdnaaGreatDoorW.PrintLast Go.Proofs.YtffbfkfbeggdnaaGreatDoorW.PrintMore
attribute [local go_sem] max2_int min2_int max_two min_two max_three min_three max_four min_four
set_option linter.unusedVariables false
set_option linter.unusedSimpArgs false

mutual
def spec_NumberOfRank.j0 : Nat → ByteArray → ByteArray → Int → Int → Bool → Option (ByteArray × Bool)
 | 0,_,_,_,_,_ => none
 | k + 1,x0,x1,x2,x3,x36 => if x36 = true then (some ((⟨#[]⟩ : ByteArray),false)) else ((spec_wkTable.f k x0 (wrap64 (x2 - 1)) 0).bind fun t103 => (if 0 < (x1.size : Int) then (spec_NumberOfRank.l0 k x0 x3 t103 x1 (bt x1 0) (wrap64 (x2 - 2))) else (none)))
def spec_NumberOfRank.l0 : Nat → ByteArray → Int → List (List Int) → ByteArray → Int → Int → Option (ByteArray × Bool)
 | 0,_,_,_,_,_,_ => none
 | k + 1,x0,x3,x12,x13,x14,x15 => if x15 ≥ 0 then ((spec_wkNext.f k x0 x14).bind fun t106 => (spec_NumberOfRank.l1 k x0 x3 x12 x13 x14 x15 t106 0)) else (some (x13,true))
def spec_NumberOfRank.l1 : Nat → ByteArray → Int → List (List Int) → ByteArray → Int → Int → ByteArray → Int → Option (ByteArray × Bool)
 | 0,_,_,_,_,_,_,_,_ => none
 | k + 1,x0,x3,x12,x13,x14,x15,x16,x17 => if x17 < (x16.size : Int) then (if 0 ≤ x15 then (if x15 < (x12.length : Int) then (if 0 ≤ x17 then (if 0 ≤ (((bt x16 x17) - 48) % 256) then (if (((bt x16 x17) - 48) % 256) < ((rd_L5 x12 x15).length : Int) then (if x3 < (rd (rd_L5 x12 x15) (((bt x16 x17) - 48) % 256)) then (if x13.size + (Utf8.encode (wrap32 (bt x16 x17))).size ≤ 9223372036854775807 then (spec_NumberOfRank.l0 k x0 x3 x12 (x13 ++ (Utf8.encode (wrap32 (bt x16 x17)))) (bt x16 x17) (wrap64 (x15 - 1))) else (none)) else (spec_NumberOfRank.l1 k x0 (wrap64 (x3 - (rd (rd_L5 x12 x15) (((bt x16 x17) - 48) % 256)))) x12 x13 x14 x15 x16 (wrap64 (x17 + 1)))) else (none)) else (none)) else (none)) else (none)) else (none)) else (if x13.size + (Utf8.encode (wrap32 (x14))).size ≤ 9223372036854775807 then (spec_NumberOfRank.l0 k x0 x3 x12 (x13 ++ (Utf8.encode (wrap32 (x14)))) x14 (wrap64 (x15 - 1))) else (none))
end
def spec_NumberOfRank.f (k : Nat) (a0 : ByteArray) (a1 : ByteArray) (a2 : Int) (a3 : Int) : Option (ByteArray × Bool) := (spec_CountNumbers.f k a0 a1 a2).bind fun bt101 => (if bt101.2 = true then (if a3 < 0 then (spec_NumberOfRank.j0 k a0 a1 a2 a3 true) else (spec_NumberOfRank.j0 k a0 a1 a2 a3 (decide (a3 ≥ bt101.1)))) else (spec_NumberOfRank.j0 k a0 a1 a2 a3 true))
set_option maxHeartbeats 8000000 in
set_option maxRecDepth 100000 in
theorem spec_NumberOfRank.calls (k : Nat) (a0 : ByteArray) (a1 : ByteArray) (a2 : Int) (a3 : Int) (r1 : ByteArray) (r2 : Bool) (w : World) (h : spec_NumberOfRank.f k a0 a1 a2 a3 = some (r1,r2)) :
  Calls Tryz.prog 16 #[.string a0,.string a1,.int .i64 a2,.int .i64 a3] w fun e w' => e = .returned (.tuple #[.string r1,.bool r2]) ∧ Below w.heap.size w w' := by
 have HB := Aside0.mk (Below.refl w.heap.size w); have H : ((spec_CountNumbers.f k a0 a1 a2).bind fun bt101 => (if bt101.2 = true then (if a3 < 0 then (spec_NumberOfRank.j0 k a0 a1 a2 a3 true) else (spec_NumberOfRank.j0 k a0 a1 a2 a3 (decide (a3 ≥ bt101.1)))) else (spec_NumberOfRank.j0 k a0 a1 a2 a3 true))) = some (r1,r2) := h; clear h; replace H := Option.bind_eq_some_iff.mp H; obtain ⟨⟨t101,t102⟩,A50,H⟩ := H; replace H : (if t102 = true then (if a3 < 0 then (spec_NumberOfRank.j0 k a0 a1 a2 a3 true) else (spec_NumberOfRank.j0 k a0 a1 a2 a3 (decide (a3 ≥ t101)))) else (spec_NumberOfRank.j0 k a0 a1 a2 a3 true)) = some (r1,r2) := H; have A5 := Aside0.mk A50; clear A50; have HC6 := Aside0.mk H; clear H
 go_enter Tryz.func16,Tryz.ntmps16
 go_upto_region 2 with (first | (go_at_call 7; (with_reducible refine (spec_CountNumbers.calls k a0 a1 a2 t101 t102 _ A5.out).mono ?_); rintro e w7 ⟨rfl,hb⟩; have n0_ := Aside0.mk (below_step zbw hb); clear HB; have HB := n0_; clear n0_; (try clear hb); (try clear hb2); (try clear hk); (try clear hi)))
 repeat (go_quiet (first | (go_at_call 7; (with_reducible refine (spec_CountNumbers.calls k a0 a1 a2 t101 t102 _ A5.out).mono ?_); rintro e w7 ⟨rfl,hb⟩; have n0_ := Aside0.mk (below_step zbw hb); clear HB; have HB := n0_; clear n0_; (try clear hb); (try clear hb2); (try clear hk); (try clear hi))); go_upto_region 2 with (first | (go_at_call 7; (with_reducible refine (spec_CountNumbers.calls k a0 a1 a2 t101 t102 _ A5.out).mono ?_); rintro e w7 ⟨rfl,hb⟩; have n0_ := Aside0.mk (below_step zbw hb); clear HB; have HB := n0_; clear n0_; (try clear hb); (try clear hb2); (try clear hk); (try clear hi))))
 (try simp only [Act.put,List.setIfInBounds_toArray,List.set_cons_zero,List.set_cons_succ])
 go_cut [36] (fun v36 wc => ∃ (kq : Nat) (x36_5 : Bool),v36 = .bool x36_5 ∧ Aside0 (spec_NumberOfRank.j0 kq a0 a1 a2 a3 x36_5 = some (r1,r2)) ∧ Aside0 (kq ≤ k) ∧ Aside0 (Below w.heap.size w wc))
 case first =>
  have H := HC6.out; clear HC6
  by_cases c8 : t102 = true
  ·
   subst c8; have H1 : (if a3 < 0 then (spec_NumberOfRank.j0 k a0 a1 a2 a3 true) else (spec_NumberOfRank.j0 k a0 a1 a2 a3 (decide (a3 ≥ t101)))) = some (r1,r2) := by rw [if_pos rfl] at H; exact H
   clear H; have H := H1; clear H1
   by_cases c9 : a3 < 0
   ·
    rw [if_pos c9] at H; have c9b0 : decide (a3 < 0) = true := decide_eq_true c9; clear c9
    (first | rw [c9b0] | (simp only [i64_w,i32_w]; rw [c9b0]) | skip)
    have H' := Aside0.mk H; clear H; go_wp2
    repeat (go_quiet (fail); try go_wp2)
    go_meet
    case rel => exact ⟨_,(true),zrs,H',⟨by first | omega | exact Nat.le_refl _⟩,⟨zbw⟩⟩
   ·
    rw [if_neg c9] at H; have c9b0 : decide (a3 < 0) = false := decide_eq_false c9; clear c9
    (first | rw [c9b0] | (simp only [i64_w,i32_w]; rw [c9b0]) | skip)
    have H' := Aside0.mk H; clear H; go_wp2
    repeat (go_quiet (fail); try go_wp2)
    go_meet
    case rel => exact ⟨_,(decide (a3 ≥ t101)),zrs,H',⟨by first | omega | exact Nat.le_refl _⟩,⟨zbw⟩⟩
  ·
   replace c8 := Bool.eq_false_iff.mpr c8; subst c8; have H1 : (spec_NumberOfRank.j0 k a0 a1 a2 a3 true) = some (r1,r2) := by rw [if_neg (show ¬ (false = true) by decide)] at H; exact H
   clear H; have H := H1; clear H1; have H' := Aside0.mk H; clear H; go_wp2
   repeat (go_quiet (fail); try go_wp2)
   go_meet
   case rel => exact ⟨_,(true),zrs,H',⟨by first | omega | exact Nat.le_refl _⟩,⟨zbw⟩⟩
 case rest =>
  clear HC6; try clear c1
  try clear p2
  try clear c8
  try clear c9
  try clear c9b0
  obtain ⟨kq,x36_5,rfl,HA,HJ5,HB⟩ := hcut
  cases kq with
  | zero => exact absurd HA.out (by simp [spec_NumberOfRank.j0])
  | succ kj5 =>
   have H := HA.out; clear HA; simp only [spec_NumberOfRank.j0] at H
   by_cases c10 : x36_5 = true
   ·
    subst c10; have H1 : (some ((⟨#[]⟩ : ByteArray),false)) = some (r1,r2) := by rw [if_pos rfl] at H; exact H
    clear H; have H := H1; clear H1; simp only [Option.some.injEq,Prod.mk.injEq] at H; obtain ⟨rfl,rfl⟩ := H; go_wp2
    repeat (go_quiet (fail); try go_wp2)
    go_ret2
    exact ⟨zer,zbw⟩
   ·
    replace c10 := Bool.eq_false_iff.mpr c10; subst c10; have H1 : ((spec_wkTable.f kj5 a0 (wrap64 (a2 - 1)) 0).bind fun t103 => (if 0 < (a1.size : Int) then (spec_NumberOfRank.l0 kj5 a0 a3 t103 a1 (bt a1 0) (wrap64 (a2 - 2))) else (none))) = some (r1,r2) := by rw [if_neg (show ¬ (false = true) by decide)] at H; exact H
    clear H; have H := H1; clear H1; replace H := Option.bind_eq_some_iff.mp H; obtain ⟨t103,A110,H⟩ := H; replace H : (if 0 < (a1.size : Int) then (spec_NumberOfRank.l0 kj5 a0 a3 t103 a1 (bt a1 0) (wrap64 (a2 - 2))) else (none)) = some (r1,r2) := H; have A11 := Aside0.mk A110; clear A110
    by_cases c12 : 0 < (a1.size : Int)
    ·
     rw [if_pos c12] at H; have c12b0 : decide (0 < (a1.size : Int)) = true := decide_eq_true c12; have c12b1 : decide (0 < a1.size) = true := decide_eq_true (by omega); clear c12; have H' := Aside0.mk H; clear H; go_wp2_with (first | (go_at_call 46; (with_reducible refine (spec_wkTable.calls kj5 a0 (wrap64 (a2 - 1)) 0 t103 _ A11.out).mono ?_); rintro e w14 ⟨v104,rfl,ho0,hb⟩; have n0_ := Aside0.mk (Kd.S_lower ho0 (below_size zbw)); have n1_ := Aside0.mk (below_step zbw hb); clear HB; have HO105 := n0_; have HB := n1_; clear n0_ n1_; (try clear hb); (try clear hb2); (try clear hk); (try clear hi); (try clear ho0); have p13 : 0 ≤ (0 : Int) := (by omega); have q13 : 0 < a1.size := (by have : (0 : Int) < (a1.size : Int) := zdd; omega); have hx13 : ∀ h : 0 < a1.size,((a1[0]'h).toNat : Int) = bt a1 0 := bt_at a1 0; clear p13; have qi13 : (0 < (a1.size : Int)) = True := eq_true (zdd); replace q13 := eq_true q13))
     repeat (go_quiet (first | (go_at_call 46; (with_reducible refine (spec_wkTable.calls kj5 a0 (wrap64 (a2 - 1)) 0 t103 _ A11.out).mono ?_); rintro e w14 ⟨v104,rfl,ho0,hb⟩; have n0_ := Aside0.mk (Kd.S_lower ho0 (below_size zbw)); have n1_ := Aside0.mk (below_step zbw hb); clear HB; have HO105 := n0_; have HB := n1_; clear n0_ n1_; (try clear hb); (try clear hb2); (try clear hk); (try clear hi); (try clear ho0); have p13 : 0 ≤ (0 : Int) := (by omega); have q13 : 0 < a1.size := (by have : (0 : Int) < (a1.size : Int) := zdd; omega); have hx13 : ∀ h : 0 < a1.size,((a1[0]'h).toNat : Int) = bt a1 0 := bt_at a1 0; clear p13; have qi13 : (0 < (a1.size : Int)) = True := eq_true (zdd); replace q13 := eq_true q13)); try go_wp2_with (first | (go_at_call 46; (with_reducible refine (spec_wkTable.calls kj5 a0 (wrap64 (a2 - 1)) 0 t103 _ A11.out).mono ?_); rintro e w14 ⟨v104,rfl,ho0,hb⟩; have n0_ := Aside0.mk (Kd.S_lower ho0 (below_size zbw)); have n1_ := Aside0.mk (below_step zbw hb); clear HB; have HO105 := n0_; have HB := n1_; clear n0_ n1_; (try clear hb); (try clear hb2); (try clear hk); (try clear hi); (try clear ho0); have p13 : 0 ≤ (0 : Int) := (by omega); have q13 : 0 < a1.size := (by have : (0 : Int) < (a1.size : Int) := zdd; omega); have hx13 : ∀ h : 0 < a1.size,((a1[0]'h).toNat : Int) = bt a1 0 := bt_at a1 0; clear p13; have qi13 : (0 < (a1.size : Int)) = True := eq_true (zdd); replace q13 := eq_true q13)))
     go_loopg [3,13,14,15] kj5 (fun kq v3 v13 v14 v15 w' => ∃ (x3_2 : Int) (x13_2 : ByteArray) (x14_2 : Int) (x15_2 : Int),v3 = .int .i64 x3_2 ∧ v13 = .string x13_2 ∧ v14 = .int .u8 x14_2 ∧ v15 = .int .i64 x15_2 ∧ Aside0 (spec_NumberOfRank.l0 kq a0 x3_2 t103 x13_2 x14_2 x15_2 = some (r1,r2)) ∧ Aside0 (kq ≤ kj5) ∧ Aside0 (Kd.S (Kd.slice 3 (Kd.int .i64)) 53 w' w.heap.size (fun _ => True) v104 t103) ∧ Aside0 (Below w.heap.size w w'))
     case atStart => exact ⟨(a3),(a1),(bt a1 0),(wrap64 (a2 - 2)),zrs,zrs,zrs,zrs,H',⟨Nat.le_refl _⟩,⟨by (with_reducible repeat (first | apply Kd.S_alloc | apply Kd.S_drewN | apply Kd.S_drew)); exact HO105.out⟩,⟨zbw⟩⟩
     case round =>
      clear H'; try clear c1
      try clear p1
      try clear q1
      try clear hx1
      try clear qi1
      try clear p2
      try clear p6
      try clear c8
      try clear c9
      try clear c9b0
      try clear c10
      try clear c12
      try clear c12b0
      try clear c12b1
      try clear p13
      try clear q13
      try clear hx13
      try clear qi13
      try clear p13
      try clear p2
      try clear q13
      obtain ⟨x3_2,x13_2,x14_2,x15_2,rfl,rfl,rfl,rfl,HA,HK2,HO_12,HB⟩ := hrel
      cases gk with
      | zero => exact absurd HA.out (by simp [spec_NumberOfRank.l0])
      | succ k2 =>
       have H := HA.out; clear HA; simp only [spec_NumberOfRank.l0] at H
       by_cases c15 : x15_2 ≥ 0
       ·
        rw [if_pos c15] at H; have c15b0 : decide (0 ≤ x15_2) = true := decide_eq_true c15; clear c15; replace H := Option.bind_eq_some_iff.mp H; obtain ⟨t106,A160,H⟩ := H; replace H : (spec_NumberOfRank.l1 k2 a0 x3_2 t103 x13_2 x14_2 x15_2 t106 0) = some (r1,r2) := H; have A16 := Aside0.mk A160; clear A160; have H' := Aside0.mk H; clear H; go_wp2_with (first | (go_at_call 44; (with_reducible refine (spec_wkNext.calls k2 a0 x14_2 t106 _ A16.out).mono ?_); rintro e w' ⟨rfl,⟨nd,rfl⟩⟩; (try first | exact ⟨rfl,_,World.drewN_drewN _ _ _⟩ | exact ⟨rfl,_,Eq.trans (World.drewN_drewN _ _ _) (congrArg (World.drewN _) (Nat.add_assoc _ _ _))⟩)))
        repeat (go_quiet (first | (go_at_call 44; (with_reducible refine (spec_wkNext.calls k2 a0 x14_2 t106 _ A16.out).mono ?_); rintro e w' ⟨rfl,⟨nd,rfl⟩⟩; (try first | exact ⟨rfl,_,World.drewN_drewN _ _ _⟩ | exact ⟨rfl,_,Eq.trans (World.drewN_drewN _ _ _) (congrArg (World.drewN _) (Nat.add_assoc _ _ _))⟩))); try go_wp2_with (first | (go_at_call 44; (with_reducible refine (spec_wkNext.calls k2 a0 x14_2 t106 _ A16.out).mono ?_); rintro e w' ⟨rfl,⟨nd,rfl⟩⟩; (try first | exact ⟨rfl,_,World.drewN_drewN _ _ _⟩ | exact ⟨rfl,_,Eq.trans (World.drewN_drewN _ _ _) (congrArg (World.drewN _) (Nat.add_assoc _ _ _))⟩))))
        go_loopg [3,14,17] k2 (fun kq v3 v14 v17 w' => ∃ (x3_3 : Int) (x14_3 : Int) (x17_3 : Int),v3 = .int .i64 x3_3 ∧ v14 = .int .u8 x14_3 ∧ v17 = .int .i64 x17_3 ∧ Aside0 (spec_NumberOfRank.l1 kq a0 x3_3 t103 x13_2 x14_3 x15_2 t106 x17_3 = some (r1,r2)) ∧ Aside0 (kq ≤ k2) ∧ Aside0 (Kd.S (Kd.slice 3 (Kd.int .i64)) 53 w' w.heap.size (fun _ => True) v104 t103) ∧ Aside0 (Below w.heap.size w w'))
        case atStart => exact ⟨(x3_2),(x14_2),(0),zrs,zrs,zrs,H',⟨Nat.le_refl _⟩,⟨by (with_reducible repeat (first | apply Kd.S_alloc | apply Kd.S_drewN | apply Kd.S_drew)); exact HO_12.out⟩,⟨zbw⟩⟩
        case round =>
         clear H'; try clear c1
         try clear p1
         try clear q1
         try clear hx1
         try clear qi1
         try clear p2
         try clear p6
         try clear c8
         try clear c9
         try clear c9b0
         try clear c10
         try clear c12
         try clear c12b0
         try clear c12b1
         try clear p13
         try clear q13
         try clear hx13
         try clear qi13
         try clear c15
         try clear c15b0
         try clear c16
         try clear p1
         try clear p13
         try clear p2
         try clear p6
         try clear q1
         try clear q13
         obtain ⟨x3_3,x14_3,x17_3,rfl,rfl,rfl,HA,HK3,HO_12,HB⟩ := hrel
         cases gk with
         | zero => exact absurd HA.out (by simp [spec_NumberOfRank.l1])
         | succ k3 =>
          have H := HA.out; clear HA; simp only [spec_NumberOfRank.l1] at H
          by_cases c17 : x17_3 < (t106.size : Int)
          ·
           rw [if_pos c17] at H; have c17b0 : decide (x17_3 < (t106.size : Int)) = true := decide_eq_true c17; clear c17
           by_cases c18 : 0 ≤ x15_2
           ·
            rw [if_pos c18] at H; have c18b0 : decide (0 ≤ x15_2) = true := decide_eq_true c18; clear c18
            by_cases c19 : x15_2 < (t103.length : Int)
            ·
             rw [if_pos c19] at H; have c19b0 : decide (x15_2 < (t103.length : Int)) = true := decide_eq_true c19; clear c19
             by_cases c20 : 0 ≤ x17_3
             ·
              rw [if_pos c20] at H; have c20b0 : decide (0 ≤ x17_3) = true := decide_eq_true c20; clear c20; obtain ⟨ji22,hji22⟩ : ∃ j_ : Int,(((bt t106 x17_3) - 48) % 256) = j_ := ⟨_,rfl⟩; have huji22 : IntKind.u8.wrap ((bt t106 x17_3) - 48) = ji22 := hji22; replace H : (if 0 ≤ (ji22) then (if (ji22) < ((rd_L5 t103 x15_2).length : Int) then (if x3_3 < (rd (rd_L5 t103 x15_2) (ji22)) then (if x13_2.size + (Utf8.encode (wrap32 (bt t106 x17_3))).size ≤ 9223372036854775807 then (spec_NumberOfRank.l0 k3 a0 x3_3 t103 (x13_2 ++ (Utf8.encode (wrap32 (bt t106 x17_3)))) (bt t106 x17_3) (wrap64 (x15_2 - 1))) else (none)) else (spec_NumberOfRank.l1 k3 a0 (wrap64 (x3_3 - (rd (rd_L5 t103 x15_2) (ji22)))) t103 x13_2 x14_3 x15_2 t106 (wrap64 (x17_3 + 1)))) else (none)) else (none)) = some (r1,r2) := by first | (rw [hji22] at H; exact H) | (simp only [hji22] at H ⊢; exact H)
              by_cases c23 : 0 ≤ (ji22)
              ·
               rw [if_pos c23] at H; have c23b0 : decide (0 ≤ (ji22)) = true := decide_eq_true c23; clear c23
               by_cases c24 : (ji22) < ((rd_L5 t103 x15_2).length : Int)
               ·
                rw [if_pos c24] at H; have c24b0 : decide ((ji22) < ((rd_L5 t103 x15_2).length : Int)) = true := decide_eq_true c24; clear c24
                by_cases c25 : x3_3 < (rd (rd_L5 t103 x15_2) (ji22))
                ·
                 rw [if_pos c25] at H; have c25b0 : decide (x3_3 < (rd (rd_L5 t103 x15_2) (ji22))) = true := decide_eq_true c25; clear c25
                 by_cases c27 : x13_2.size + (Utf8.encode (wrap32 (bt t106 x17_3))).size ≤ 9223372036854775807
                 ·
                  rw [if_pos c27] at H; have c27b0 := eq_true c27; have c27b1 : decide (x13_2.size + (Utf8.encode (wrap32 (bt t106 x17_3))).size ≤ 9223372036854775807) = true := decide_eq_true c27; try have c27b2 : (9223372036854775807 < x13_2.size + (Utf8.encode (wrap32 (bt t106 x17_3))).size) = False := eq_false (Nat.not_lt.2 c27)
                  have H' := Aside0.mk H; clear H; obtain ⟨Ao28,co28,eo28⟩ := Kd.S_slice HO_12.out; subst eo28; have p107 : 0 ≤ (x15_2 : Int) := zdd; have q107 : x15_2 < (t103.length : Int) := zdd; obtain ⟨ad107,A107_0,c107_0,e107,hx107_0,hl107_0,hi107_0⟩ := at_L5 (Kd.S_reads' HO_12.out).2.2 x15_2 p107 q107
                  cases e107
                  obtain ⟨ce107,hce107,hMe107,hcc107⟩ := Kd.S_get HO_12.out [] x15_2 p107 (by first | exact q107 | exact zdd | (have e_ := (Kd.S_reads' HO_12.out).1; omega)); obtain ⟨ve107_0,rfl,ge107_0⟩ := hMe107; have hv107_0 := hcc107 0 _ rfl; rw [Nat.add_zero,show ((Kd.slice 3 (Kd.int .i64))).sz = 1 from rfl,Nat.mul_one] at hv107_0; replace hv107_0 := Option.some.inj (hv107_0.symm.trans hx107_0); rw [hv107_0] at ge107_0; have HL107_0 := Aside0.mk (show Kd.R (Kd.int .i64) 3 _ _ _ _ (rd_L5 t103 x15_2) from ge107_0); clear hv107_0 ge107_0; clear hcc107 hce107; have HR107_0 := Aside0.mk hi107_0; have HC107_0 := Aside0.mk hl107_0; clear hi107_0 hl107_0; replace p107 := eq_true p107; replace q107 := eq_true q107; have p21 : 0 ≤ (x17_3 : Int) := zdd; have q21 : x17_3 < (t106.size : Int) := zdd; have hx21 := bt_at t106 x17_3; replace p21 := eq_true p21; replace q21 := eq_true q21; have p108 : 0 ≤ ((ji22) : Int) := zdd; have q108 : (ji22) < ((rd_L5 t103 x15_2).length : Int) := zdd; obtain ⟨ad108,e108,hx108_0⟩ := Kd.at_int (by repeat (first | (with_reducible exact HR107_0.out) | (with_reducible refine Kd.C_alloc ?_ _) | (with_reducible refine Kd.C_drewN ?_ _) | (with_reducible refine Kd.C_drew ?_) | exact HR107_0.out)) (ji22) p108 q108
                  cases e108
                  replace p108 := eq_true p108; replace q108 := eq_true q108; have p26 : 0 ≤ (x17_3 : Int) := zdd; have q26 : x17_3 < (t106.size : Int) := zdd; have hx26 := bt_at t106 x17_3; replace p26 := eq_true p26; replace q26 := eq_true q26; have hcv29 : ∀ W : World,(convert 21 9 (.int .i32 (wrap32 (bt t106 x17_3)))).run Tryz.prog W = .ok (.string (Utf8.encode (wrap32 (bt t106 x17_3)))) W := fun W => run_convert_int_string W 21 9 .i32 (wrap32 (bt t106 x17_3)) (by rw [Tryz.underlying21]; rfl) Tryz.underlying9
                  go_wp2
                  repeat (go_quiet (fail); try go_wp2)
                  go_roundg k3
                  case measure => have := HJ5.out; have := HK2.out; have := HK3.out; omega
                  case rel => exact ⟨(x3_3),(x13_2 ++ (Utf8.encode (wrap32 (bt t106 x17_3)))),(bt t106 x17_3),(wrap64 (x15_2 - 1)),zrs,zrs,zrs,zrs,H',⟨by have := HJ5.out; have := HK2.out; have := HK3.out; omega⟩,⟨by (with_reducible repeat (first | apply Kd.S_alloc | apply Kd.S_drewN | apply Kd.S_drew)); exact HO_12.out⟩,⟨zbw⟩⟩
                 · rw [if_neg c27] at H; exact absurd H (by simp)
                ·
                 rw [if_neg c25] at H; have c25b0 : decide (x3_3 < (rd (rd_L5 t103 x15_2) (ji22))) = false := decide_eq_false c25; clear c25; have H' := Aside0.mk H; clear H; obtain ⟨Ao30,co30,eo30⟩ := Kd.S_slice HO_12.out; subst eo30; have p107 : 0 ≤ (x15_2 : Int) := zdd; have q107 : x15_2 < (t103.length : Int) := zdd; obtain ⟨ad107,A107_0,c107_0,e107,hx107_0,hl107_0,hi107_0⟩ := at_L5 (Kd.S_reads' HO_12.out).2.2 x15_2 p107 q107
                 cases e107
                 obtain ⟨ce107,hce107,hMe107,hcc107⟩ := Kd.S_get HO_12.out [] x15_2 p107 (by first | exact q107 | exact zdd | (have e_ := (Kd.S_reads' HO_12.out).1; omega)); obtain ⟨ve107_0,rfl,ge107_0⟩ := hMe107; have hv107_0 := hcc107 0 _ rfl; rw [Nat.add_zero,show ((Kd.slice 3 (Kd.int .i64))).sz = 1 from rfl,Nat.mul_one] at hv107_0; replace hv107_0 := Option.some.inj (hv107_0.symm.trans hx107_0); rw [hv107_0] at ge107_0; have HL107_0 := Aside0.mk (show Kd.R (Kd.int .i64) 3 _ _ _ _ (rd_L5 t103 x15_2) from ge107_0); clear hv107_0 ge107_0; clear hcc107 hce107; have HR107_0 := Aside0.mk hi107_0; have HC107_0 := Aside0.mk hl107_0; clear hi107_0 hl107_0; replace p107 := eq_true p107; replace q107 := eq_true q107; have p21 : 0 ≤ (x17_3 : Int) := zdd; have q21 : x17_3 < (t106.size : Int) := zdd; have hx21 := bt_at t106 x17_3; replace p21 := eq_true p21; replace q21 := eq_true q21; have p108 : 0 ≤ ((ji22) : Int) := zdd; have q108 : (ji22) < ((rd_L5 t103 x15_2).length : Int) := zdd; obtain ⟨ad108,e108,hx108_0⟩ := Kd.at_int (by repeat (first | (with_reducible exact HR107_0.out) | (with_reducible refine Kd.C_alloc ?_ _) | (with_reducible refine Kd.C_drewN ?_ _) | (with_reducible refine Kd.C_drew ?_) | exact HR107_0.out)) (ji22) p108 q108
                 cases e108
                 replace p108 := eq_true p108; replace q108 := eq_true q108; go_wp2
                 repeat (go_quiet (fail); try go_wp2)
                 go_roundg k3
                 case measure => have := HJ5.out; have := HK2.out; have := HK3.out; omega
                 case rel => exact ⟨(wrap64 (x3_3 - (rd (rd_L5 t103 x15_2) (ji22)))),(x14_3),(wrap64 (x17_3 + 1)),(by first | rfl | (simp; done) | (simp only [← hji22] <;> (first | rfl | simp)) | (simp [*]; done)),zrs,zrs,H',⟨by have := HJ5.out; have := HK2.out; have := HK3.out; omega⟩,⟨by (with_reducible repeat (first | apply Kd.S_alloc | apply Kd.S_drewN | apply Kd.S_drew)); exact HO_12.out⟩,⟨zbw⟩⟩
               · rw [if_neg c24] at H; exact absurd H (by simp)
              · rw [if_neg c23] at H; exact absurd H (by simp)
             · rw [if_neg c20] at H; exact absurd H (by simp)
            · rw [if_neg c19] at H; exact absurd H (by simp)
           · rw [if_neg c18] at H; exact absurd H (by simp)
          ·
           rw [if_neg c17] at H; have c17b0 : decide (x17_3 < (t106.size : Int)) = false := decide_eq_false c17; clear c17
           by_cases c31 : x13_2.size + (Utf8.encode (wrap32 (x14_3))).size ≤ 9223372036854775807
           ·
            rw [if_pos c31] at H; have c31b0 := eq_true c31; have c31b1 : decide (x13_2.size + (Utf8.encode (wrap32 (x14_3))).size ≤ 9223372036854775807) = true := decide_eq_true c31; try have c31b2 : (9223372036854775807 < x13_2.size + (Utf8.encode (wrap32 (x14_3))).size) = False := eq_false (Nat.not_lt.2 c31)
            have H' := Aside0.mk H; clear H; have hcv32 : ∀ W : World,(convert 21 9 (.int .i32 (wrap32 (x14_3)))).run Tryz.prog W = .ok (.string (Utf8.encode (wrap32 (x14_3)))) W := fun W => run_convert_int_string W 21 9 .i32 (wrap32 (x14_3)) (by rw [Tryz.underlying21]; rfl) Tryz.underlying9
            go_wp2
            repeat (go_quiet (fail); try go_wp2)
            go_roundg k3
            case measure => have := HJ5.out; have := HK2.out; have := HK3.out; omega
            case rel => exact ⟨(x3_3),(x13_2 ++ (Utf8.encode (wrap32 (x14_3)))),(x14_3),(wrap64 (x15_2 - 1)),zrs,zrs,zrs,zrs,H',⟨by have := HJ5.out; have := HK2.out; have := HK3.out; omega⟩,⟨by (with_reducible repeat (first | apply Kd.S_alloc | apply Kd.S_drewN | apply Kd.S_drew)); exact HO_12.out⟩,⟨zbw⟩⟩
           · rw [if_neg c31] at H; exact absurd H (by simp)
       ·
        rw [if_neg c15] at H; have c15b0 : decide (0 ≤ x15_2) = false := decide_eq_false c15; clear c15; simp only [Option.some.injEq,Prod.mk.injEq] at H; obtain ⟨rfl,rfl⟩ := H; go_wp2
        repeat (go_quiet (fail); try go_wp2)
        go_ret2
        exact ⟨zer,zbw⟩
    · rw [if_neg c12] at H; exact absurd H (by simp)

end Go.Proofs.YtffbfkfbeggdnaaGreatDoor.P
-- printed by xprint.py
namespace Go.Proofs.YtffbfkfbeggdnaaGreatDoor.P
open Go.RowKit Go.Proofs.YtffbfkfbeggdnaaGreatDoorW.PrintWords Go.Proofs.YtffbfkfbeggdnaaGreatDoorW.PrintLast Go.Proofs.YtffbfkfbeggdnaaGreatDoorW.PrintMore
attribute [local go_sem] max2_int min2_int max_two min_two max_three min_three max_four min_four
set_option linter.unusedVariables false
set_option linter.unusedSimpArgs false

mutual
def spec_RankOfNumber.j0 : Nat → ByteArray → ByteArray → Bool → Option (Int × Bool)
 | 0,_,_,_ => none
 | k + 1,x0,x1,x19 => if x19 = true then (some (0,false)) else ((spec_wkTable.f k x0 (wrap64 ((x1.size : Int) - 1)) 0).bind fun t103 => (if 0 ≤ (wrap64 ((x1.size : Int) - 1)) then (if (wrap64 ((x1.size : Int) - 1)) < (t103.length : Int) then (if 0 < (x1.size : Int) then (if 0 ≤ (((bt x1 0) - 48) % 256) then (if (((bt x1 0) - 48) % 256) < ((rd_L5 t103 (wrap64 ((x1.size : Int) - 1))).length : Int) then (if (rd (rd_L5 t103 (wrap64 ((x1.size : Int) - 1))) (((bt x1 0) - 48) % 256)) > 1000000000000000 then (some (0,false)) else (spec_RankOfNumber.l0 k x0 x1 t103 0 1)) else (none)) else (none)) else (none)) else (none)) else (none)))
def spec_RankOfNumber.l0 : Nat → ByteArray → ByteArray → List (List Int) → Int → Int → Option (Int × Bool)
 | 0,_,_,_,_,_ => none
 | k + 1,x0,x1,x6,x7,x8 => if x8 < (x1.size : Int) then (if 0 ≤ (wrap64 (x8 - 1)) then (if (wrap64 (x8 - 1)) < (x1.size : Int) then ((spec_wkNext.f k x0 (bt x1 (wrap64 (x8 - 1)))).bind fun t108 => (spec_RankOfNumber.l1 k x0 x1 x6 x7 x8 t108 0)) else (none)) else (none)) else (some (x7,true))
def spec_RankOfNumber.l1 : Nat → ByteArray → ByteArray → List (List Int) → Int → Int → ByteArray → Int → Option (Int × Bool)
 | 0,_,_,_,_,_,_,_ => none
 | k + 1,x0,x1,x6,x7,x8,x9,x10 => if x10 < (x9.size : Int) then (if 0 ≤ x10 then (if 0 ≤ x8 then (if x8 < (x1.size : Int) then (if (bt x9 x10) = (bt x1 x8) then (spec_RankOfNumber.l0 k x0 x1 x6 x7 (wrap64 (x8 + 1))) else (if 0 ≤ (wrap64 ((wrap64 ((x1.size : Int) - 1)) - x8)) then (if (wrap64 ((wrap64 ((x1.size : Int) - 1)) - x8)) < (x6.length : Int) then (if 0 ≤ (((bt x9 x10) - 48) % 256) then (if (((bt x9 x10) - 48) % 256) < ((rd_L5 x6 (wrap64 ((wrap64 ((x1.size : Int) - 1)) - x8))).length : Int) then (spec_RankOfNumber.l1 k x0 x1 x6 (wrap64 (x7 + (rd (rd_L5 x6 (wrap64 ((wrap64 ((x1.size : Int) - 1)) - x8))) (((bt x9 x10) - 48) % 256)))) x8 x9 (wrap64 (x10 + 1))) else (none)) else (none)) else (none)) else (none))) else (none)) else (none)) else (none)) else (spec_RankOfNumber.l0 k x0 x1 x6 x7 (wrap64 (x8 + 1)))
end
def spec_RankOfNumber.f (k : Nat) (a0 : ByteArray) (a1 : ByteArray) : Option (Int × Bool) := (spec_wkPiece.f a0).bind fun t101 => (if t101 = true then ((spec_wkWalk.f k a0 a1).bind fun t102 => (spec_RankOfNumber.j0 k a0 a1 (!t102))) else (spec_RankOfNumber.j0 k a0 a1 true))
set_option maxHeartbeats 8000000 in
set_option maxRecDepth 100000 in
theorem spec_RankOfNumber.calls (k : Nat) (a0 : ByteArray) (a1 : ByteArray) (r1 : Int) (r2 : Bool) (w : World) (h : spec_RankOfNumber.f k a0 a1 = some (r1,r2)) :
  Calls Tryz.prog 19 #[.string a0,.string a1] w fun e w' => e = .returned (.tuple #[.int .i64 r1,.bool r2]) ∧ Below w.heap.size w w' := by
 have HB := Aside0.mk (Below.refl w.heap.size w); have H : ((spec_wkPiece.f a0).bind fun t101 => (if t101 = true then ((spec_wkWalk.f k a0 a1).bind fun t102 => (spec_RankOfNumber.j0 k a0 a1 (!t102))) else (spec_RankOfNumber.j0 k a0 a1 true))) = some (r1,r2) := h; clear h; have HC3 := Aside0.mk H; clear H
 go_enter Tryz.func19,Tryz.ntmps19
 go_upto_region 1 with (fail)
 repeat (go_quiet (fail); go_upto_region 1 with (fail))
 go_cut [19] (fun v19 wc => ∃ (kq : Nat) (x19_2 : Bool),v19 = .bool x19_2 ∧ Aside0 (spec_RankOfNumber.j0 kq a0 a1 x19_2 = some (r1,r2)) ∧ Aside0 (kq ≤ k) ∧ Aside0 (Below w.heap.size w wc))
 case first =>
  have H := HC3.out; clear HC3; replace H := Option.bind_eq_some_iff.mp H; obtain ⟨t101,A40,H⟩ := H; replace H : (if t101 = true then ((spec_wkWalk.f k a0 a1).bind fun t102 => (spec_RankOfNumber.j0 k a0 a1 (!t102))) else (spec_RankOfNumber.j0 k a0 a1 true)) = some (r1,r2) := H; have A4 := Aside0.mk A40; clear A40
  by_cases c5 : t101 = true
  ·
   subst c5; have H1 : ((spec_wkWalk.f k a0 a1).bind fun t102 => (spec_RankOfNumber.j0 k a0 a1 (!t102))) = some (r1,r2) := by rw [if_pos rfl] at H; exact H
   clear H; have H := H1; clear H1; replace H := Option.bind_eq_some_iff.mp H; obtain ⟨t102,A60,H⟩ := H; replace H : (spec_RankOfNumber.j0 k a0 a1 (!t102)) = some (r1,r2) := H; have A6 := Aside0.mk A60; clear A60; have H' := Aside0.mk H; clear H; go_wp2_with (first | (go_at_call 45; (with_reducible refine (spec_wkPiece.calls a0 true _ A4.out).mono ?_); rintro e w' ⟨rfl,⟨nd,rfl⟩⟩; (try first | exact ⟨rfl,_,World.drewN_drewN _ _ _⟩ | exact ⟨rfl,_,Eq.trans (World.drewN_drewN _ _ _) (congrArg (World.drewN _) (Nat.add_assoc _ _ _))⟩)) | (go_at_call 53; (with_reducible refine (spec_wkWalk.calls k a0 a1 t102 _ A6.out).mono ?_); rintro e w' ⟨rfl,⟨nd,rfl⟩⟩; (try first | exact ⟨rfl,_,World.drewN_drewN _ _ _⟩ | exact ⟨rfl,_,Eq.trans (World.drewN_drewN _ _ _) (congrArg (World.drewN _) (Nat.add_assoc _ _ _))⟩)))
   repeat (go_quiet (first | (go_at_call 45; (with_reducible refine (spec_wkPiece.calls a0 true _ A4.out).mono ?_); rintro e w' ⟨rfl,⟨nd,rfl⟩⟩; (try first | exact ⟨rfl,_,World.drewN_drewN _ _ _⟩ | exact ⟨rfl,_,Eq.trans (World.drewN_drewN _ _ _) (congrArg (World.drewN _) (Nat.add_assoc _ _ _))⟩)) | (go_at_call 53; (with_reducible refine (spec_wkWalk.calls k a0 a1 t102 _ A6.out).mono ?_); rintro e w' ⟨rfl,⟨nd,rfl⟩⟩; (try first | exact ⟨rfl,_,World.drewN_drewN _ _ _⟩ | exact ⟨rfl,_,Eq.trans (World.drewN_drewN _ _ _) (congrArg (World.drewN _) (Nat.add_assoc _ _ _))⟩))); try go_wp2_with (first | (go_at_call 45; (with_reducible refine (spec_wkPiece.calls a0 true _ A4.out).mono ?_); rintro e w' ⟨rfl,⟨nd,rfl⟩⟩; (try first | exact ⟨rfl,_,World.drewN_drewN _ _ _⟩ | exact ⟨rfl,_,Eq.trans (World.drewN_drewN _ _ _) (congrArg (World.drewN _) (Nat.add_assoc _ _ _))⟩)) | (go_at_call 53; (with_reducible refine (spec_wkWalk.calls k a0 a1 t102 _ A6.out).mono ?_); rintro e w' ⟨rfl,⟨nd,rfl⟩⟩; (try first | exact ⟨rfl,_,World.drewN_drewN _ _ _⟩ | exact ⟨rfl,_,Eq.trans (World.drewN_drewN _ _ _) (congrArg (World.drewN _) (Nat.add_assoc _ _ _))⟩))))
   go_meet
   case rel => exact ⟨_,(!t102),zrs,H',⟨by first | omega | exact Nat.le_refl _⟩,⟨zbw⟩⟩
  ·
   replace c5 := Bool.eq_false_iff.mpr c5; subst c5; have H1 : (spec_RankOfNumber.j0 k a0 a1 true) = some (r1,r2) := by rw [if_neg (show ¬ (false = true) by decide)] at H; exact H
   clear H; have H := H1; clear H1; have H' := Aside0.mk H; clear H; go_wp2_with (first | (go_at_call 45; (with_reducible refine (spec_wkPiece.calls a0 false _ A4.out).mono ?_); rintro e w' ⟨rfl,⟨nd,rfl⟩⟩; (try first | exact ⟨rfl,_,World.drewN_drewN _ _ _⟩ | exact ⟨rfl,_,Eq.trans (World.drewN_drewN _ _ _) (congrArg (World.drewN _) (Nat.add_assoc _ _ _))⟩)))
   repeat (go_quiet (first | (go_at_call 45; (with_reducible refine (spec_wkPiece.calls a0 false _ A4.out).mono ?_); rintro e w' ⟨rfl,⟨nd,rfl⟩⟩; (try first | exact ⟨rfl,_,World.drewN_drewN _ _ _⟩ | exact ⟨rfl,_,Eq.trans (World.drewN_drewN _ _ _) (congrArg (World.drewN _) (Nat.add_assoc _ _ _))⟩))); try go_wp2_with (first | (go_at_call 45; (with_reducible refine (spec_wkPiece.calls a0 false _ A4.out).mono ?_); rintro e w' ⟨rfl,⟨nd,rfl⟩⟩; (try first | exact ⟨rfl,_,World.drewN_drewN _ _ _⟩ | exact ⟨rfl,_,Eq.trans (World.drewN_drewN _ _ _) (congrArg (World.drewN _) (Nat.add_assoc _ _ _))⟩))))
   go_meet
   case rel => exact ⟨_,(true),zrs,H',⟨by first | omega | exact Nat.le_refl _⟩,⟨zbw⟩⟩
 case rest =>
  clear HC3; try clear c1
  try clear p2
  try clear c5
  obtain ⟨kq,x19_2,rfl,HA,HJ2,HB⟩ := hcut
  cases kq with
  | zero => exact absurd HA.out (by simp [spec_RankOfNumber.j0])
  | succ kj2 =>
   have H := HA.out; clear HA; simp only [spec_RankOfNumber.j0] at H
   by_cases c7 : x19_2 = true
   ·
    subst c7; have H1 : (some (0,false)) = some (r1,r2) := by rw [if_pos rfl] at H; exact H
    clear H; have H := H1; clear H1; simp only [Option.some.injEq,Prod.mk.injEq] at H; obtain ⟨rfl,rfl⟩ := H; go_wp2
    repeat (go_quiet (fail); try go_wp2)
    go_ret2
    exact ⟨zer,zbw⟩
   ·
    replace c7 := Bool.eq_false_iff.mpr c7; subst c7; have H1 : ((spec_wkTable.f kj2 a0 (wrap64 ((a1.size : Int) - 1)) 0).bind fun t103 => (if 0 ≤ (wrap64 ((a1.size : Int) - 1)) then (if (wrap64 ((a1.size : Int) - 1)) < (t103.length : Int) then (if 0 < (a1.size : Int) then (if 0 ≤ (((bt a1 0) - 48) % 256) then (if (((bt a1 0) - 48) % 256) < ((rd_L5 t103 (wrap64 ((a1.size : Int) - 1))).length : Int) then (if (rd (rd_L5 t103 (wrap64 ((a1.size : Int) - 1))) (((bt a1 0) - 48) % 256)) > 1000000000000000 then (some (0,false)) else (spec_RankOfNumber.l0 kj2 a0 a1 t103 0 1)) else (none)) else (none)) else (none)) else (none)) else (none))) = some (r1,r2) := by rw [if_neg (show ¬ (false = true) by decide)] at H; exact H
    clear H; have H := H1; clear H1; replace H := Option.bind_eq_some_iff.mp H; obtain ⟨t103,A80,H⟩ := H; (try dsimp only at H); have A8 := Aside0.mk A80; clear A80; obtain ⟨ji9,hji9⟩ : ∃ j_ : Int,(wrap64 ((a1.size : Int) - 1)) = j_ := ⟨_,rfl⟩; replace H : (if 0 ≤ (ji9) then (if (ji9) < (t103.length : Int) then (if 0 < (a1.size : Int) then (if 0 ≤ (((bt a1 0) - 48) % 256) then (if (((bt a1 0) - 48) % 256) < ((rd_L5 t103 (ji9)).length : Int) then (if (rd (rd_L5 t103 (ji9)) (((bt a1 0) - 48) % 256)) > 1000000000000000 then (some (0,false)) else (spec_RankOfNumber.l0 kj2 a0 a1 t103 0 1)) else (none)) else (none)) else (none)) else (none)) else (none)) = some (r1,r2) := by first | (rw [hji9] at H; exact H) | (simp only [hji9] at H ⊢; exact H)
    (try rw [hji9] at A8)
    have hji9w : (IntKind.i64.wrap ((a1.size : Int) - 1)) = ji9 := (i64_w _).trans hji9
    by_cases c10 : 0 ≤ (ji9)
    ·
     rw [if_pos c10] at H; have c10b0 : decide (0 ≤ (ji9)) = true := decide_eq_true c10; clear c10
     by_cases c11 : (ji9) < (t103.length : Int)
     ·
      rw [if_pos c11] at H; have c11b0 : decide ((ji9) < (t103.length : Int)) = true := decide_eq_true c11; clear c11
      by_cases c12 : 0 < (a1.size : Int)
      ·
       rw [if_pos c12] at H; have c12b0 : decide (0 < (a1.size : Int)) = true := decide_eq_true c12; have c12b1 : decide (0 < a1.size) = true := decide_eq_true (by omega); clear c12; obtain ⟨ji14,hji14⟩ : ∃ j_ : Int,(((bt a1 0) - 48) % 256) = j_ := ⟨_,rfl⟩; have huji14 : IntKind.u8.wrap ((bt a1 0) - 48) = ji14 := hji14; replace H : (if 0 ≤ (ji14) then (if (ji14) < ((rd_L5 t103 (ji9)).length : Int) then (if (rd (rd_L5 t103 (ji9)) (ji14)) > 1000000000000000 then (some (0,false)) else (spec_RankOfNumber.l0 kj2 a0 a1 t103 0 1)) else (none)) else (none)) = some (r1,r2) := by first | (rw [hji14] at H; exact H) | (simp only [hji14] at H ⊢; exact H)
       (try rw [hji14] at A8)
       by_cases c15 : 0 ≤ (ji14)
       ·
        rw [if_pos c15] at H; have c15b0 : decide (0 ≤ (ji14)) = true := decide_eq_true c15; clear c15
        by_cases c16 : (ji14) < ((rd_L5 t103 (ji9)).length : Int)
        ·
         rw [if_pos c16] at H; have c16b0 : decide ((ji14) < ((rd_L5 t103 (ji9)).length : Int)) = true := decide_eq_true c16; clear c16
         by_cases c17 : (rd (rd_L5 t103 (ji9)) (ji14)) > 1000000000000000
         ·
          rw [if_pos c17] at H; have c17b0 : decide (1000000000000000 < (rd (rd_L5 t103 (ji9)) (ji14))) = true := decide_eq_true c17; clear c17; simp only [Option.some.injEq,Prod.mk.injEq] at H; obtain ⟨rfl,rfl⟩ := H; go_wp2_with (first | (go_at_call 46; (with_reducible refine (spec_wkTable.calls kj2 a0 ji9 0 t103 _ A8.out).mono ?_); rintro e w18 ⟨v104,rfl,ho0,hb⟩; have n0_ := Aside0.mk (Kd.S_lower ho0 (below_size zbw)); have n1_ := Aside0.mk (below_step zbw hb); clear HB; have HO105 := n0_; have HB := n1_; clear n0_ n1_; (try clear hb); (try clear hb2); (try clear hk); (try clear hi); (try clear ho0); obtain ⟨Ao19,co19,eo19⟩ := Kd.S_slice HO105.out; subst eo19; have p106 : 0 ≤ ((ji9) : Int) := zdd; have q106 : (ji9) < (t103.length : Int) := zdd; obtain ⟨ad106,A106_0,c106_0,e106,hx106_0,hl106_0,hi106_0⟩ := at_L5 (Kd.S_reads' HO105.out).2.2 (ji9) p106 q106; cases e106; obtain ⟨ce106,hce106,hMe106,hcc106⟩ := Kd.S_get HO105.out [] (ji9) p106 (by first | exact q106 | exact zdd | (have e_ := (Kd.S_reads' HO105.out).1; omega)); obtain ⟨ve106_0,rfl,ge106_0⟩ := hMe106; have hv106_0 := hcc106 0 _ rfl; rw [Nat.add_zero,show ((Kd.slice 3 (Kd.int .i64))).sz = 1 from rfl,Nat.mul_one] at hv106_0; replace hv106_0 := Option.some.inj (hv106_0.symm.trans hx106_0); rw [hv106_0] at ge106_0; have HL106_0 := Aside0.mk (show Kd.R (Kd.int .i64) 3 _ _ _ _ (rd_L5 t103 (ji9)) from ge106_0); clear hv106_0 ge106_0; clear hcc106 hce106; have HR106_0 := Aside0.mk hi106_0; have HC106_0 := Aside0.mk hl106_0; clear hi106_0 hl106_0; replace p106 := eq_true p106; replace q106 := eq_true q106; have p13 : 0 ≤ (0 : Int) := (by omega); have q13 : 0 < a1.size := (by have : (0 : Int) < (a1.size : Int) := zdd; omega); have hx13 : ∀ h : 0 < a1.size,((a1[0]'h).toNat : Int) = bt a1 0 := bt_at a1 0; clear p13; have qi13 : (0 < (a1.size : Int)) = True := eq_true (zdd); replace q13 := eq_true q13; have p107 : 0 ≤ ((ji14) : Int) := zdd; have q107 : (ji14) < ((rd_L5 t103 (ji9)).length : Int) := zdd; obtain ⟨ad107,e107,hx107_0⟩ := Kd.at_int (by repeat (first | (with_reducible exact HR106_0.out) | (with_reducible refine Kd.C_alloc ?_ _) | (with_reducible refine Kd.C_drewN ?_ _) | (with_reducible refine Kd.C_drew ?_) | exact HR106_0.out)) (ji14) p107 q107; cases e107; replace p107 := eq_true p107; replace q107 := eq_true q107))
          repeat (go_quiet (first | (go_at_call 46; (with_reducible refine (spec_wkTable.calls kj2 a0 ji9 0 t103 _ A8.out).mono ?_); rintro e w18 ⟨v104,rfl,ho0,hb⟩; have n0_ := Aside0.mk (Kd.S_lower ho0 (below_size zbw)); have n1_ := Aside0.mk (below_step zbw hb); clear HB; have HO105 := n0_; have HB := n1_; clear n0_ n1_; (try clear hb); (try clear hb2); (try clear hk); (try clear hi); (try clear ho0); obtain ⟨Ao19,co19,eo19⟩ := Kd.S_slice HO105.out; subst eo19; have p106 : 0 ≤ ((ji9) : Int) := zdd; have q106 : (ji9) < (t103.length : Int) := zdd; obtain ⟨ad106,A106_0,c106_0,e106,hx106_0,hl106_0,hi106_0⟩ := at_L5 (Kd.S_reads' HO105.out).2.2 (ji9) p106 q106; cases e106; obtain ⟨ce106,hce106,hMe106,hcc106⟩ := Kd.S_get HO105.out [] (ji9) p106 (by first | exact q106 | exact zdd | (have e_ := (Kd.S_reads' HO105.out).1; omega)); obtain ⟨ve106_0,rfl,ge106_0⟩ := hMe106; have hv106_0 := hcc106 0 _ rfl; rw [Nat.add_zero,show ((Kd.slice 3 (Kd.int .i64))).sz = 1 from rfl,Nat.mul_one] at hv106_0; replace hv106_0 := Option.some.inj (hv106_0.symm.trans hx106_0); rw [hv106_0] at ge106_0; have HL106_0 := Aside0.mk (show Kd.R (Kd.int .i64) 3 _ _ _ _ (rd_L5 t103 (ji9)) from ge106_0); clear hv106_0 ge106_0; clear hcc106 hce106; have HR106_0 := Aside0.mk hi106_0; have HC106_0 := Aside0.mk hl106_0; clear hi106_0 hl106_0; replace p106 := eq_true p106; replace q106 := eq_true q106; have p13 : 0 ≤ (0 : Int) := (by omega); have q13 : 0 < a1.size := (by have : (0 : Int) < (a1.size : Int) := zdd; omega); have hx13 : ∀ h : 0 < a1.size,((a1[0]'h).toNat : Int) = bt a1 0 := bt_at a1 0; clear p13; have qi13 : (0 < (a1.size : Int)) = True := eq_true (zdd); replace q13 := eq_true q13; have p107 : 0 ≤ ((ji14) : Int) := zdd; have q107 : (ji14) < ((rd_L5 t103 (ji9)).length : Int) := zdd; obtain ⟨ad107,e107,hx107_0⟩ := Kd.at_int (by repeat (first | (with_reducible exact HR106_0.out) | (with_reducible refine Kd.C_alloc ?_ _) | (with_reducible refine Kd.C_drewN ?_ _) | (with_reducible refine Kd.C_drew ?_) | exact HR106_0.out)) (ji14) p107 q107; cases e107; replace p107 := eq_true p107; replace q107 := eq_true q107)); try go_wp2_with (first | (go_at_call 46; (with_reducible refine (spec_wkTable.calls kj2 a0 ji9 0 t103 _ A8.out).mono ?_); rintro e w18 ⟨v104,rfl,ho0,hb⟩; have n0_ := Aside0.mk (Kd.S_lower ho0 (below_size zbw)); have n1_ := Aside0.mk (below_step zbw hb); clear HB; have HO105 := n0_; have HB := n1_; clear n0_ n1_; (try clear hb); (try clear hb2); (try clear hk); (try clear hi); (try clear ho0); obtain ⟨Ao19,co19,eo19⟩ := Kd.S_slice HO105.out; subst eo19; have p106 : 0 ≤ ((ji9) : Int) := zdd; have q106 : (ji9) < (t103.length : Int) := zdd; obtain ⟨ad106,A106_0,c106_0,e106,hx106_0,hl106_0,hi106_0⟩ := at_L5 (Kd.S_reads' HO105.out).2.2 (ji9) p106 q106; cases e106; obtain ⟨ce106,hce106,hMe106,hcc106⟩ := Kd.S_get HO105.out [] (ji9) p106 (by first | exact q106 | exact zdd | (have e_ := (Kd.S_reads' HO105.out).1; omega)); obtain ⟨ve106_0,rfl,ge106_0⟩ := hMe106; have hv106_0 := hcc106 0 _ rfl; rw [Nat.add_zero,show ((Kd.slice 3 (Kd.int .i64))).sz = 1 from rfl,Nat.mul_one] at hv106_0; replace hv106_0 := Option.some.inj (hv106_0.symm.trans hx106_0); rw [hv106_0] at ge106_0; have HL106_0 := Aside0.mk (show Kd.R (Kd.int .i64) 3 _ _ _ _ (rd_L5 t103 (ji9)) from ge106_0); clear hv106_0 ge106_0; clear hcc106 hce106; have HR106_0 := Aside0.mk hi106_0; have HC106_0 := Aside0.mk hl106_0; clear hi106_0 hl106_0; replace p106 := eq_true p106; replace q106 := eq_true q106; have p13 : 0 ≤ (0 : Int) := (by omega); have q13 : 0 < a1.size := (by have : (0 : Int) < (a1.size : Int) := zdd; omega); have hx13 : ∀ h : 0 < a1.size,((a1[0]'h).toNat : Int) = bt a1 0 := bt_at a1 0; clear p13; have qi13 : (0 < (a1.size : Int)) = True := eq_true (zdd); replace q13 := eq_true q13; have p107 : 0 ≤ ((ji14) : Int) := zdd; have q107 : (ji14) < ((rd_L5 t103 (ji9)).length : Int) := zdd; obtain ⟨ad107,e107,hx107_0⟩ := Kd.at_int (by repeat (first | (with_reducible exact HR106_0.out) | (with_reducible refine Kd.C_alloc ?_ _) | (with_reducible refine Kd.C_drewN ?_ _) | (with_reducible refine Kd.C_drew ?_) | exact HR106_0.out)) (ji14) p107 q107; cases e107; replace p107 := eq_true p107; replace q107 := eq_true q107)))
          go_ret2
          exact ⟨by first | rfl | (simp [errW_none,errW_some] <;> rfl) | (simp only [← hji9,← hji14]; first | rfl | (simp [errW_none,errW_some] <;> rfl)) | (simp [*,errW_none,errW_some] <;> rfl),zbw⟩
         ·
          rw [if_neg c17] at H; have c17b0 : decide (1000000000000000 < (rd (rd_L5 t103 (ji9)) (ji14))) = false := decide_eq_false c17; clear c17; have H' := Aside0.mk H; clear H; go_wp2_with (first | (go_at_call 46; (with_reducible refine (spec_wkTable.calls kj2 a0 ji9 0 t103 _ A8.out).mono ?_); rintro e w20 ⟨v104,rfl,ho0,hb⟩; have n0_ := Aside0.mk (Kd.S_lower ho0 (below_size zbw)); have n1_ := Aside0.mk (below_step zbw hb); clear HB; have HO105 := n0_; have HB := n1_; clear n0_ n1_; (try clear hb); (try clear hb2); (try clear hk); (try clear hi); (try clear ho0); obtain ⟨Ao21,co21,eo21⟩ := Kd.S_slice HO105.out; subst eo21; have p106 : 0 ≤ ((ji9) : Int) := zdd; have q106 : (ji9) < (t103.length : Int) := zdd; obtain ⟨ad106,A106_0,c106_0,e106,hx106_0,hl106_0,hi106_0⟩ := at_L5 (Kd.S_reads' HO105.out).2.2 (ji9) p106 q106; cases e106; obtain ⟨ce106,hce106,hMe106,hcc106⟩ := Kd.S_get HO105.out [] (ji9) p106 (by first | exact q106 | exact zdd | (have e_ := (Kd.S_reads' HO105.out).1; omega)); obtain ⟨ve106_0,rfl,ge106_0⟩ := hMe106; have hv106_0 := hcc106 0 _ rfl; rw [Nat.add_zero,show ((Kd.slice 3 (Kd.int .i64))).sz = 1 from rfl,Nat.mul_one] at hv106_0; replace hv106_0 := Option.some.inj (hv106_0.symm.trans hx106_0); rw [hv106_0] at ge106_0; have HL106_0 := Aside0.mk (show Kd.R (Kd.int .i64) 3 _ _ _ _ (rd_L5 t103 (ji9)) from ge106_0); clear hv106_0 ge106_0; clear hcc106 hce106; have HR106_0 := Aside0.mk hi106_0; have HC106_0 := Aside0.mk hl106_0; clear hi106_0 hl106_0; replace p106 := eq_true p106; replace q106 := eq_true q106; have p13 : 0 ≤ (0 : Int) := (by omega); have q13 : 0 < a1.size := (by have : (0 : Int) < (a1.size : Int) := zdd; omega); have hx13 : ∀ h : 0 < a1.size,((a1[0]'h).toNat : Int) = bt a1 0 := bt_at a1 0; clear p13; have qi13 : (0 < (a1.size : Int)) = True := eq_true (zdd); replace q13 := eq_true q13; have p107 : 0 ≤ ((ji14) : Int) := zdd; have q107 : (ji14) < ((rd_L5 t103 (ji9)).length : Int) := zdd; obtain ⟨ad107,e107,hx107_0⟩ := Kd.at_int (by repeat (first | (with_reducible exact HR106_0.out) | (with_reducible refine Kd.C_alloc ?_ _) | (with_reducible refine Kd.C_drewN ?_ _) | (with_reducible refine Kd.C_drew ?_) | exact HR106_0.out)) (ji14) p107 q107; cases e107; replace p107 := eq_true p107; replace q107 := eq_true q107))
          repeat (go_quiet (first | (go_at_call 46; (with_reducible refine (spec_wkTable.calls kj2 a0 ji9 0 t103 _ A8.out).mono ?_); rintro e w20 ⟨v104,rfl,ho0,hb⟩; have n0_ := Aside0.mk (Kd.S_lower ho0 (below_size zbw)); have n1_ := Aside0.mk (below_step zbw hb); clear HB; have HO105 := n0_; have HB := n1_; clear n0_ n1_; (try clear hb); (try clear hb2); (try clear hk); (try clear hi); (try clear ho0); obtain ⟨Ao21,co21,eo21⟩ := Kd.S_slice HO105.out; subst eo21; have p106 : 0 ≤ ((ji9) : Int) := zdd; have q106 : (ji9) < (t103.length : Int) := zdd; obtain ⟨ad106,A106_0,c106_0,e106,hx106_0,hl106_0,hi106_0⟩ := at_L5 (Kd.S_reads' HO105.out).2.2 (ji9) p106 q106; cases e106; obtain ⟨ce106,hce106,hMe106,hcc106⟩ := Kd.S_get HO105.out [] (ji9) p106 (by first | exact q106 | exact zdd | (have e_ := (Kd.S_reads' HO105.out).1; omega)); obtain ⟨ve106_0,rfl,ge106_0⟩ := hMe106; have hv106_0 := hcc106 0 _ rfl; rw [Nat.add_zero,show ((Kd.slice 3 (Kd.int .i64))).sz = 1 from rfl,Nat.mul_one] at hv106_0; replace hv106_0 := Option.some.inj (hv106_0.symm.trans hx106_0); rw [hv106_0] at ge106_0; have HL106_0 := Aside0.mk (show Kd.R (Kd.int .i64) 3 _ _ _ _ (rd_L5 t103 (ji9)) from ge106_0); clear hv106_0 ge106_0; clear hcc106 hce106; have HR106_0 := Aside0.mk hi106_0; have HC106_0 := Aside0.mk hl106_0; clear hi106_0 hl106_0; replace p106 := eq_true p106; replace q106 := eq_true q106; have p13 : 0 ≤ (0 : Int) := (by omega); have q13 : 0 < a1.size := (by have : (0 : Int) < (a1.size : Int) := zdd; omega); have hx13 : ∀ h : 0 < a1.size,((a1[0]'h).toNat : Int) = bt a1 0 := bt_at a1 0; clear p13; have qi13 : (0 < (a1.size : Int)) = True := eq_true (zdd); replace q13 := eq_true q13; have p107 : 0 ≤ ((ji14) : Int) := zdd; have q107 : (ji14) < ((rd_L5 t103 (ji9)).length : Int) := zdd; obtain ⟨ad107,e107,hx107_0⟩ := Kd.at_int (by repeat (first | (with_reducible exact HR106_0.out) | (with_reducible refine Kd.C_alloc ?_ _) | (with_reducible refine Kd.C_drewN ?_ _) | (with_reducible refine Kd.C_drew ?_) | exact HR106_0.out)) (ji14) p107 q107; cases e107; replace p107 := eq_true p107; replace q107 := eq_true q107)); try go_wp2_with (first | (go_at_call 46; (with_reducible refine (spec_wkTable.calls kj2 a0 ji9 0 t103 _ A8.out).mono ?_); rintro e w20 ⟨v104,rfl,ho0,hb⟩; have n0_ := Aside0.mk (Kd.S_lower ho0 (below_size zbw)); have n1_ := Aside0.mk (below_step zbw hb); clear HB; have HO105 := n0_; have HB := n1_; clear n0_ n1_; (try clear hb); (try clear hb2); (try clear hk); (try clear hi); (try clear ho0); obtain ⟨Ao21,co21,eo21⟩ := Kd.S_slice HO105.out; subst eo21; have p106 : 0 ≤ ((ji9) : Int) := zdd; have q106 : (ji9) < (t103.length : Int) := zdd; obtain ⟨ad106,A106_0,c106_0,e106,hx106_0,hl106_0,hi106_0⟩ := at_L5 (Kd.S_reads' HO105.out).2.2 (ji9) p106 q106; cases e106; obtain ⟨ce106,hce106,hMe106,hcc106⟩ := Kd.S_get HO105.out [] (ji9) p106 (by first | exact q106 | exact zdd | (have e_ := (Kd.S_reads' HO105.out).1; omega)); obtain ⟨ve106_0,rfl,ge106_0⟩ := hMe106; have hv106_0 := hcc106 0 _ rfl; rw [Nat.add_zero,show ((Kd.slice 3 (Kd.int .i64))).sz = 1 from rfl,Nat.mul_one] at hv106_0; replace hv106_0 := Option.some.inj (hv106_0.symm.trans hx106_0); rw [hv106_0] at ge106_0; have HL106_0 := Aside0.mk (show Kd.R (Kd.int .i64) 3 _ _ _ _ (rd_L5 t103 (ji9)) from ge106_0); clear hv106_0 ge106_0; clear hcc106 hce106; have HR106_0 := Aside0.mk hi106_0; have HC106_0 := Aside0.mk hl106_0; clear hi106_0 hl106_0; replace p106 := eq_true p106; replace q106 := eq_true q106; have p13 : 0 ≤ (0 : Int) := (by omega); have q13 : 0 < a1.size := (by have : (0 : Int) < (a1.size : Int) := zdd; omega); have hx13 : ∀ h : 0 < a1.size,((a1[0]'h).toNat : Int) = bt a1 0 := bt_at a1 0; clear p13; have qi13 : (0 < (a1.size : Int)) = True := eq_true (zdd); replace q13 := eq_true q13; have p107 : 0 ≤ ((ji14) : Int) := zdd; have q107 : (ji14) < ((rd_L5 t103 (ji9)).length : Int) := zdd; obtain ⟨ad107,e107,hx107_0⟩ := Kd.at_int (by repeat (first | (with_reducible exact HR106_0.out) | (with_reducible refine Kd.C_alloc ?_ _) | (with_reducible refine Kd.C_drewN ?_ _) | (with_reducible refine Kd.C_drew ?_) | exact HR106_0.out)) (ji14) p107 q107; cases e107; replace p107 := eq_true p107; replace q107 := eq_true q107)))
          go_loopg [7,8] kj2 (fun kq v7 v8 w' => ∃ (x7_2 : Int) (x8_2 : Int),v7 = .int .i64 x7_2 ∧ v8 = .int .i64 x8_2 ∧ Aside0 (spec_RankOfNumber.l0 kq a0 a1 t103 x7_2 x8_2 = some (r1,r2)) ∧ Aside0 (kq ≤ kj2) ∧ Aside0 (Kd.S (Kd.slice 3 (Kd.int .i64)) 53 w' w.heap.size (fun _ => True) (.slice (some ad106) t103.length co21) t103) ∧ Aside0 (Kd.C (Kd.int .i64) w' (some ad107) (rd_L5 t103 (ji9)).length (rd_L5 t103 (ji9))) ∧ Aside0 (Below w.heap.size w w'))
          case atStart => exact ⟨(0),(1),zrs,zrs,H',⟨Nat.le_refl _⟩,⟨by (with_reducible repeat (first | apply Kd.S_alloc | apply Kd.S_drewN | apply Kd.S_drew)); exact HO105.out⟩,⟨by repeat (first | (with_reducible exact HR106_0.out) | (with_reducible refine Kd.C_alloc ?_ _) | (with_reducible refine Kd.C_drewN ?_ _) | (with_reducible refine Kd.C_drew ?_) | exact HR106_0.out)⟩,⟨zbw⟩⟩
          case round =>
           clear H'; try clear c1
           try clear p1
           try clear q1
           try clear hx1
           try clear qi1
           try clear p2
           try clear c5
           try clear p6
           try clear c7
           try clear c10
           try clear c10b0
           try clear p10
           try clear q10
           try clear hx10
           try clear c11
           try clear c11b0
           try clear c12
           try clear c12b0
           try clear c12b1
           try clear p13
           try clear q13
           try clear hx13
           try clear qi13
           try clear c15
           try clear c15b0
           try clear c16
           try clear c16b0
           try clear c17
           try clear c17b0
           try clear c19
           try clear hx106_0
           try clear hx107_0
           try clear p106
           try clear p107
           try clear p13
           try clear p2
           try clear q106
           try clear q107
           try clear q13
           obtain ⟨x7_2,x8_2,rfl,rfl,HA,HK2,HO_6,HR106_0,HB⟩ := hrel
           cases gk with
           | zero => exact absurd HA.out (by simp [spec_RankOfNumber.l0])
           | succ k2 =>
            have H := HA.out; clear HA; simp only [spec_RankOfNumber.l0] at H
            by_cases c22 : x8_2 < (a1.size : Int)
            ·
             rw [if_pos c22] at H; have c22b0 : decide (x8_2 < (a1.size : Int)) = true := decide_eq_true c22; clear c22; obtain ⟨ji23,hji23⟩ : ∃ j_ : Int,(wrap64 (x8_2 - 1)) = j_ := ⟨_,rfl⟩; replace H : (if 0 ≤ (ji23) then (if (ji23) < (a1.size : Int) then ((spec_wkNext.f k2 a0 (bt a1 (ji23))).bind fun t108 => (spec_RankOfNumber.l1 k2 a0 a1 t103 x7_2 x8_2 t108 0)) else (none)) else (none)) = some (r1,r2) := by first | (rw [hji23] at H; exact H) | (simp only [hji23] at H ⊢; exact H)
             have hji23w : (IntKind.i64.wrap (x8_2 - 1)) = ji23 := (i64_w _).trans hji23
             by_cases c24 : 0 ≤ (ji23)
             ·
              rw [if_pos c24] at H; have c24b0 : decide (0 ≤ (ji23)) = true := decide_eq_true c24; clear c24
              by_cases c25 : (ji23) < (a1.size : Int)
              ·
               rw [if_pos c25] at H; have c25b0 : decide ((ji23) < (a1.size : Int)) = true := decide_eq_true c25; clear c25; replace H := Option.bind_eq_some_iff.mp H; obtain ⟨t108,A270,H⟩ := H; replace H : (spec_RankOfNumber.l1 k2 a0 a1 t103 x7_2 x8_2 t108 0) = some (r1,r2) := H; have A27 := Aside0.mk A270; clear A270; have H' := Aside0.mk H; clear H; have p26 : 0 ≤ ((ji23) : Int) := zdd; have q26 : (ji23) < (a1.size : Int) := zdd; have hx26 := bt_at a1 (ji23); replace p26 := eq_true p26; replace q26 := eq_true q26; go_wp2_with (first | (go_at_call 44; (with_reducible refine (spec_wkNext.calls k2 a0 (bt a1 (ji23)) t108 _ A27.out).mono ?_); rintro e w' ⟨rfl,⟨nd,rfl⟩⟩; (try first | exact ⟨rfl,_,World.drewN_drewN _ _ _⟩ | exact ⟨rfl,_,Eq.trans (World.drewN_drewN _ _ _) (congrArg (World.drewN _) (Nat.add_assoc _ _ _))⟩)))
               repeat (go_quiet (first | (go_at_call 44; (with_reducible refine (spec_wkNext.calls k2 a0 (bt a1 (ji23)) t108 _ A27.out).mono ?_); rintro e w' ⟨rfl,⟨nd,rfl⟩⟩; (try first | exact ⟨rfl,_,World.drewN_drewN _ _ _⟩ | exact ⟨rfl,_,Eq.trans (World.drewN_drewN _ _ _) (congrArg (World.drewN _) (Nat.add_assoc _ _ _))⟩))); try go_wp2_with (first | (go_at_call 44; (with_reducible refine (spec_wkNext.calls k2 a0 (bt a1 (ji23)) t108 _ A27.out).mono ?_); rintro e w' ⟨rfl,⟨nd,rfl⟩⟩; (try first | exact ⟨rfl,_,World.drewN_drewN _ _ _⟩ | exact ⟨rfl,_,Eq.trans (World.drewN_drewN _ _ _) (congrArg (World.drewN _) (Nat.add_assoc _ _ _))⟩))))
               go_loopg [7,10] k2 (fun kq v7 v10 w' => ∃ (x7_3 : Int) (x10_3 : Int),v7 = .int .i64 x7_3 ∧ v10 = .int .i64 x10_3 ∧ Aside0 (spec_RankOfNumber.l1 kq a0 a1 t103 x7_3 x8_2 t108 x10_3 = some (r1,r2)) ∧ Aside0 (kq ≤ k2) ∧ Aside0 (Kd.S (Kd.slice 3 (Kd.int .i64)) 53 w' w.heap.size (fun _ => True) (.slice (some ad106) t103.length co21) t103) ∧ Aside0 (Kd.C (Kd.int .i64) w' (some ad107) (rd_L5 t103 (ji9)).length (rd_L5 t103 (ji9))) ∧ Aside0 (Below w.heap.size w w'))
               case atStart => exact ⟨(x7_2),(0),zrs,zrs,H',⟨Nat.le_refl _⟩,⟨by (with_reducible repeat (first | apply Kd.S_alloc | apply Kd.S_drewN | apply Kd.S_drew)); exact HO_6.out⟩,⟨by repeat (first | (with_reducible exact HR106_0.out) | (with_reducible refine Kd.C_alloc ?_ _) | (with_reducible refine Kd.C_drewN ?_ _) | (with_reducible refine Kd.C_drew ?_) | exact HR106_0.out)⟩,⟨zbw⟩⟩
               case round =>
                clear H'; try clear c1
                try clear p1
                try clear q1
                try clear hx1
                try clear qi1
                try clear c2
                try clear p2
                try clear q2
                try clear hx2
                try clear c5
                try clear p6
                try clear c7
                try clear c10
                try clear c10b0
                try clear p10
                try clear q10
                try clear hx10
                try clear c11
                try clear c11b0
                try clear c12
                try clear c12b0
                try clear c12b1
                try clear p13
                try clear q13
                try clear hx13
                try clear qi13
                try clear c15
                try clear c15b0
                try clear c16
                try clear c16b0
                try clear c17
                try clear c17b0
                try clear c19
                try clear c22
                try clear c22b0
                try clear c24
                try clear c24b0
                try clear c25
                try clear c25b0
                try clear p26
                try clear q26
                try clear hx26
                try clear hx106_0
                try clear hx107_0
                try clear p1
                try clear p10
                try clear p106
                try clear p107
                try clear p13
                try clear p2
                try clear p26
                try clear p6
                try clear q1
                try clear q10
                try clear q106
                try clear q107
                try clear q13
                try clear q26
                obtain ⟨x7_3,x10_3,rfl,rfl,HA,HK3,HO_6,HR106_0,HB⟩ := hrel
                cases gk with
                | zero => exact absurd HA.out (by simp [spec_RankOfNumber.l1])
                | succ k3 =>
                 have H := HA.out; clear HA; simp only [spec_RankOfNumber.l1] at H
                 by_cases c28 : x10_3 < (t108.size : Int)
                 ·
                  rw [if_pos c28] at H; have c28b0 : decide (x10_3 < (t108.size : Int)) = true := decide_eq_true c28; clear c28
                  by_cases c29 : 0 ≤ x10_3
                  ·
                   rw [if_pos c29] at H; have c29b0 : decide (0 ≤ x10_3) = true := decide_eq_true c29; clear c29
                   by_cases c31 : 0 ≤ x8_2
                   ·
                    rw [if_pos c31] at H; have c31b0 : decide (0 ≤ x8_2) = true := decide_eq_true c31; clear c31
                    by_cases c32 : x8_2 < (a1.size : Int)
                    ·
                     rw [if_pos c32] at H; have c32b0 : decide (x8_2 < (a1.size : Int)) = true := decide_eq_true c32; clear c32
                     by_cases c34 : (bt t108 x10_3) = (bt a1 x8_2)
                     ·
                      rw [if_pos c34] at H; have c34b0 : ((bt t108 x10_3) == (bt a1 x8_2)) = true := beq_iff_eq.mpr c34; have c34b1 : ((bt t108 x10_3) != (bt a1 x8_2)) = false := bne_eq_false_iff_eq.mpr c34; clear c34; have H' := Aside0.mk H; clear H; have p30 : 0 ≤ (x10_3 : Int) := zdd; have q30 : x10_3 < (t108.size : Int) := zdd; have hx30 := bt_at t108 x10_3; replace p30 := eq_true p30; replace q30 := eq_true q30; have p33 : 0 ≤ (x8_2 : Int) := zdd; have q33 : x8_2 < (a1.size : Int) := zdd; have hx33 := bt_at a1 x8_2; replace p33 := eq_true p33; replace q33 := eq_true q33; go_wp2
                      repeat (go_quiet (fail); try go_wp2)
                      go_roundg k3
                      case measure => have := HJ2.out; have := HK2.out; have := HK3.out; omega
                      case rel => exact ⟨(x7_3),(wrap64 (x8_2 + 1)),zrs,zrs,H',⟨by have := HJ2.out; have := HK2.out; have := HK3.out; omega⟩,⟨by (with_reducible repeat (first | apply Kd.S_alloc | apply Kd.S_drewN | apply Kd.S_drew)); exact HO_6.out⟩,⟨by repeat (first | (with_reducible exact HR106_0.out) | (with_reducible refine Kd.C_alloc ?_ _) | (with_reducible refine Kd.C_drewN ?_ _) | (with_reducible refine Kd.C_drew ?_) | exact HR106_0.out)⟩,⟨zbw⟩⟩
                     ·
                      rw [if_neg c34] at H; have c34b0 : ((bt t108 x10_3) == (bt a1 x8_2)) = false := beq_eq_false_iff_ne.mpr c34; have c34b1 : ((bt t108 x10_3) != (bt a1 x8_2)) = true := bne_iff_ne.mpr c34; obtain ⟨ji35,hji35⟩ : ∃ j_ : Int,(wrap64 ((wrap64 ((a1.size : Int) - 1)) - x8_2)) = j_ := ⟨_,rfl⟩; replace H : (if 0 ≤ (ji35) then (if (ji35) < (t103.length : Int) then (if 0 ≤ (((bt t108 x10_3) - 48) % 256) then (if (((bt t108 x10_3) - 48) % 256) < ((rd_L5 t103 (ji35)).length : Int) then (spec_RankOfNumber.l1 k3 a0 a1 t103 (wrap64 (x7_3 + (rd (rd_L5 t103 (ji35)) (((bt t108 x10_3) - 48) % 256)))) x8_2 t108 (wrap64 (x10_3 + 1))) else (none)) else (none)) else (none)) else (none)) = some (r1,r2) := by first | (rw [hji35] at H; exact H) | (simp only [hji35] at H ⊢; exact H)
                      have hji35w : (IntKind.i64.wrap ((wrap64 ((a1.size : Int) - 1)) - x8_2)) = ji35 := (i64_w _).trans hji35; have hji35v : (IntKind.i64.wrap (ji9 - x8_2)) = ji35 := (i64_w _).trans (by rw [← hji9]; exact hji35)
                      by_cases c36 : 0 ≤ (ji35)
                      ·
                       rw [if_pos c36] at H; have c36b0 : decide (0 ≤ (ji35)) = true := decide_eq_true c36; clear c36
                       by_cases c37 : (ji35) < (t103.length : Int)
                       ·
                        rw [if_pos c37] at H; have c37b0 : decide ((ji35) < (t103.length : Int)) = true := decide_eq_true c37; clear c37; obtain ⟨ji39,hji39⟩ : ∃ j_ : Int,(((bt t108 x10_3) - 48) % 256) = j_ := ⟨_,rfl⟩; have huji39 : IntKind.u8.wrap ((bt t108 x10_3) - 48) = ji39 := hji39; replace H : (if 0 ≤ (ji39) then (if (ji39) < ((rd_L5 t103 (ji35)).length : Int) then (spec_RankOfNumber.l1 k3 a0 a1 t103 (wrap64 (x7_3 + (rd (rd_L5 t103 (ji35)) (ji39)))) x8_2 t108 (wrap64 (x10_3 + 1))) else (none)) else (none)) = some (r1,r2) := by first | (rw [hji39] at H; exact H) | (simp only [hji39] at H ⊢; exact H)
                        by_cases c40 : 0 ≤ (ji39)
                        ·
                         rw [if_pos c40] at H; have c40b0 : decide (0 ≤ (ji39)) = true := decide_eq_true c40; clear c40
                         by_cases c41 : (ji39) < ((rd_L5 t103 (ji35)).length : Int)
                         ·
                          rw [if_pos c41] at H; have c41b0 : decide ((ji39) < ((rd_L5 t103 (ji35)).length : Int)) = true := decide_eq_true c41; clear c41; have H' := Aside0.mk H; clear H; have p30 : 0 ≤ (x10_3 : Int) := zdd; have q30 : x10_3 < (t108.size : Int) := zdd; have hx30 := bt_at t108 x10_3; replace p30 := eq_true p30; replace q30 := eq_true q30; have p33 : 0 ≤ (x8_2 : Int) := zdd; have q33 : x8_2 < (a1.size : Int) := zdd; have hx33 := bt_at a1 x8_2; replace p33 := eq_true p33; replace q33 := eq_true q33; have p109 : 0 ≤ ((ji35) : Int) := zdd; have q109 : (ji35) < (t103.length : Int) := zdd; obtain ⟨ad109,A109_0,c109_0,e109,hx109_0,hl109_0,hi109_0⟩ := at_L5 (Kd.S_reads' HO_6.out).2.2 (ji35) p109 q109; obtain rfl : ad106 = ad109 := (by injection e109); obtain ⟨ce109,hce109,hMe109,hcc109⟩ := Kd.S_get HO_6.out [] (ji35) p109 (by first | exact q109 | exact zdd | (have e_ := (Kd.S_reads' HO_6.out).1; omega)); obtain ⟨ve109_0,rfl,ge109_0⟩ := hMe109; have hv109_0 := hcc109 0 _ rfl; rw [Nat.add_zero,show ((Kd.slice 3 (Kd.int .i64))).sz = 1 from rfl,Nat.mul_one] at hv109_0; replace hv109_0 := Option.some.inj (hv109_0.symm.trans hx109_0); rw [hv109_0] at ge109_0; have HL109_0 := Aside0.mk (show Kd.R (Kd.int .i64) 3 _ _ _ _ (rd_L5 t103 (ji35)) from ge109_0); clear hv109_0 ge109_0; clear hcc109 hce109; have HR109_0 := Aside0.mk hi109_0; have HC109_0 := Aside0.mk hl109_0; clear hi109_0 hl109_0; replace p109 := eq_true p109; replace q109 := eq_true q109; have p38 : 0 ≤ (x10_3 : Int) := zdd; have q38 : x10_3 < (t108.size : Int) := zdd; have hx38 := bt_at t108 x10_3; replace p38 := eq_true p38; replace q38 := eq_true q38; have p110 : 0 ≤ ((ji39) : Int) := zdd; have q110 : (ji39) < ((rd_L5 t103 (ji35)).length : Int) := zdd; obtain ⟨ad110,e110,hx110_0⟩ := Kd.at_int (by repeat (first | (with_reducible exact HR109_0.out) | (with_reducible refine Kd.C_alloc ?_ _) | (with_reducible refine Kd.C_drewN ?_ _) | (with_reducible refine Kd.C_drew ?_) | exact HR109_0.out)) (ji39) p110 q110
                          cases e110
                          replace p110 := eq_true p110; replace q110 := eq_true q110; go_wp2
                          repeat (go_quiet (fail); try go_wp2)
                          go_roundg k3
                          case measure => have := HJ2.out; have := HK2.out; have := HK3.out; omega
                          case rel => exact ⟨(wrap64 (x7_3 + (rd (rd_L5 t103 (ji35)) (ji39)))),(wrap64 (x10_3 + 1)),(by first | rfl | (simp; done) | (simp only [← hji35,← hji39] <;> (first | rfl | simp)) | (simp [*]; done)),zrs,H',⟨by have := HJ2.out; have := HK2.out; have := HK3.out; omega⟩,⟨by (with_reducible repeat (first | apply Kd.S_alloc | apply Kd.S_drewN | apply Kd.S_drew)); exact HO_6.out⟩,⟨by repeat (first | (with_reducible exact HR106_0.out) | (with_reducible refine Kd.C_alloc ?_ _) | (with_reducible refine Kd.C_drewN ?_ _) | (with_reducible refine Kd.C_drew ?_) | exact HR106_0.out)⟩,⟨zbw⟩⟩
                         · rw [if_neg c41] at H; exact absurd H (by simp)
                        · rw [if_neg c40] at H; exact absurd H (by simp)
                       · rw [if_neg c37] at H; exact absurd H (by simp)
                      · rw [if_neg c36] at H; exact absurd H (by simp)
                    · rw [if_neg c32] at H; exact absurd H (by simp)
                   · rw [if_neg c31] at H; exact absurd H (by simp)
                  · rw [if_neg c29] at H; exact absurd H (by simp)
                 ·
                  rw [if_neg c28] at H; have c28b0 : decide (x10_3 < (t108.size : Int)) = false := decide_eq_false c28; clear c28; have H' := Aside0.mk H; clear H; go_wp2
                  repeat (go_quiet (fail); try go_wp2)
                  go_roundg k3
                  case measure => have := HJ2.out; have := HK2.out; have := HK3.out; omega
                  case rel => exact ⟨(x7_3),(wrap64 (x8_2 + 1)),zrs,zrs,H',⟨by have := HJ2.out; have := HK2.out; have := HK3.out; omega⟩,⟨by (with_reducible repeat (first | apply Kd.S_alloc | apply Kd.S_drewN | apply Kd.S_drew)); exact HO_6.out⟩,⟨by repeat (first | (with_reducible exact HR106_0.out) | (with_reducible refine Kd.C_alloc ?_ _) | (with_reducible refine Kd.C_drewN ?_ _) | (with_reducible refine Kd.C_drew ?_) | exact HR106_0.out)⟩,⟨zbw⟩⟩
              · rw [if_neg c25] at H; exact absurd H (by simp)
             · rw [if_neg c24] at H; exact absurd H (by simp)
            ·
             rw [if_neg c22] at H; have c22b0 : decide (x8_2 < (a1.size : Int)) = false := decide_eq_false c22; clear c22; simp only [Option.some.injEq,Prod.mk.injEq] at H; obtain ⟨rfl,rfl⟩ := H; go_wp2
             repeat (go_quiet (fail); try go_wp2)
             go_ret2
             exact ⟨by first | rfl | (simp [errW_none,errW_some] <;> rfl) | (simp only [← hji9,← hji14]; first | rfl | (simp [errW_none,errW_some] <;> rfl)) | (simp [*,errW_none,errW_some] <;> rfl),zbw⟩
        · rw [if_neg c16] at H; exact absurd H (by simp)
       · rw [if_neg c15] at H; exact absurd H (by simp)
      · rw [if_neg c12] at H; exact absurd H (by simp)
     · rw [if_neg c11] at H; exact absurd H (by simp)
    · rw [if_neg c10] at H; exact absurd H (by simp)

end Go.Proofs.YtffbfkfbeggdnaaGreatDoor.P
namespace Go.Proofs.YtffbfkfbeggdnaaGreatDoor
open Go.RowKit Go.Proofs.YtffbfkfbeggdnaaGreatDoorW.PrintWords
set_option linter.unusedSimpArgs false
/-! A range over a string of ASCII bytes: its place, a block of its own anywhere in memory. -/
def iterAt (w : World) (g : Nat) (s : ByteArray) (pos : Nat) : World := { w with heap := w.heap.setIfInBounds g (.stringIter s pos) }
section
variable {w w0 : World} {g B : Nat} {s : ByteArray} {pos : Nat} {o : Obj} {P : Program}
theorem iterAt_heap (h : w.heap[g]? = some o) : (iterAt w g s pos).heap[g]? = some (.stringIter s pos) := by
  have := (Array.getElem?_eq_some_iff.1 h).1
  simp [iterAt, Array.getElem?_setIfInBounds, this]
theorem iterAt_other {k : Nat} (hk : k ≠ g) : (iterAt w g s pos).heap[k]? = w.heap[k]? := by
  simp [iterAt, Array.getElem?_setIfInBounds, Ne.symm hk]
theorem iterAt_size : (iterAt w g s pos).heap.size = w.heap.size := by simp [iterAt]
theorem iterAt_below (hb : Below B w0 w) (hg : B ≤ g) : Below B w0 (iterAt w g s pos) :=
  hb.trans ⟨rfl, rfl, rfl, by rw [iterAt_size]; exact Nat.le_refl _, fun k hk => iterAt_other (by omega)⟩
theorem iterAt_cell {a : Addr} (h : a.block ≠ g) : (iterAt w g s pos).cell? a = w.cell? a := by
  simp only [World.cell?, iterAt_other h]
theorem run_next_at (ty : TypeId) (hg : w.heap[g]? = some (.stringIter s pos)) (h : pos < s.size) (ha : (s[pos]'h).toNat < 128) :
    (Instr.next (.pointer (some ⟨g, 0, none⟩)) true ty).run P w = .ok (.tuple #[.bool true, .int .i64 pos, .int .i32 (s[pos]'h).toNat]) (iterAt w g s (pos + 1)) := by
  simp only [Instr.next, getObj, setObj, Sem.run_bind, Sem.run, hg, Result.andThen, h, if_true, decode_ascii s pos h ha]
  simp [goInt, Sem.run, hg, iterAt]
theorem run_next_stop (ty : TypeId) (hg : w.heap[g]? = some (.stringIter s pos)) (h : ¬ pos < s.size) :
    (Instr.next (.pointer (some ⟨g, 0, none⟩)) true ty).run P w = .ok (.tuple #[.bool false]) w := by
  simp [Instr.next, getObj, Sem.run, hg, h]
theorem run_slice_str (ty : TypeId) (lo hi : Int) (hu : (underlying ty).run P w = .ok .string w) (h0 : 0 ≤ lo) (h1 : lo ≤ hi) (h2 : hi ≤ s.size) :
    (Instr.slice ty (.string s) (some (.int .i64 lo)) (some (.int .i64 hi)) none).run P w = .ok (.string (s.extract lo.toNat hi.toNat)) w := by
  have e1 := run_sliceBound (P := P) (w := w) .i64 hi s.size .sliceAlen (by omega) h2
  have e2 := run_sliceBound (P := P) (w := w) .i64 lo hi.toNat .sliceB h0 (by omega)
  simp [Instr.slice, Instr.sliceBounds, Sem.run, hu, Result.andThen, goInt, e1, e2]
/-- A row of the call's own is no iterator. -/
theorem Kd.R_iterAt {α : Type} {d : Kd α} {e base : Nat} {ok : Nat → Prop} {v : Value} {xs : List α} {pos' : Nat} (h : d.R e w base ok v xs) (hg : w.heap[g]? = some (.stringIter s pos)) : d.R e (iterAt w g s pos') base ok v xs := by
  have hb := Kd.R_bound h
  refine Kd.R_mono (Kd.R_move hb (fun k hk => iterAt_other ?_)) (fun _ hk => hk.1)
  rintro rfl
  obtain ⟨_, _, _, q, _, cells, hc⟩ := hk
  rw [hg] at hc
  cases hc
end
end Go.Proofs.YtffbfkfbeggdnaaGreatDoor
