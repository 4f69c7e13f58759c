/- Part 3 of 6 of the proof of: FnWalksGoCardSaid: the law 'FnWalksGo' answers true for every input, and leaves its arguments as they were. The row and its tied card, over the walk of its calls and the pure statement. -/
import Derived.Test.YtffbfkfbeggdnaaGreatDoorMFnWalksGo1
import Derived.Test.YtffbfkfbeggdnaaGreatDoorMFnWalksGo2
-- printed by xprint.py
namespace Go.Proofs.YtffbfkfbeggdnaaGreatDoor.P
open Go.RowKit Go.Proofs.YtffbfkfbeggdnaaGreatDoorW.PrintWords Go.Proofs.YtffbfkfbeggdnaaGreatDoorW.PrintLast Go.Proofs.YtffbfkfbeggdnaaGreatDoorW.PrintMore
attribute [local go_sem] max2_int min2_int max_two min_two max_three min_three max_four min_four
set_option linter.unusedVariables false
set_option linter.unusedSimpArgs false

mutual
def spec_wkTable.l0 : Nat → ByteArray → Int → Int → List Int → Int → Int → Option (List (List Int))
 | 0,_,_,_,_,_,_ => none
 | k + 1,x0,x1,x2,x7,x16,x17 => if x17 < x16 then (if x2 = 0 then (if 0 ≤ x17 then (if x17 < (x7.length : Int) then (spec_wkTable.l0 k x0 x1 x2 (x7.set (x17 : Int).toNat 1) x16 (wrap64 (x17 + 1))) else (none)) else (none)) else (if x17 = ((x2 - 48) % 256) then (if 0 ≤ x17 then (if x17 < (x7.length : Int) then (spec_wkTable.l0 k x0 x1 x2 (x7.set (x17 : Int).toNat 1) x16 (wrap64 (x17 + 1))) else (none)) else (none)) else (spec_wkTable.l0 k x0 x1 x2 x7 x16 (wrap64 (x17 + 1))))) else (spec_wkTable.l1 k x0 x1 x7 [x7])
def spec_wkTable.l1 : Nat → ByteArray → Int → List Int → List (List Int) → Option (List (List Int))
 | 0,_,_,_,_ => none
 | k + 1,x0,x1,x7,x9 => if x1 > 0 then (if 10 ≤ 35184372088832 then ((some (List.replicate 10 0 : List Int)).bind fun y106 => (spec_wkTable.l2 k x0 x1 x7 x9 y106 (y106.length : Int) 0)) else (none)) else (some x9)
def spec_wkTable.l2 : Nat → ByteArray → Int → List Int → List (List Int) → List Int → Int → Int → Option (List (List Int))
 | 0,_,_,_,_,_,_,_ => none
 | k + 1,x0,x1,x7,x9,x10,x41,x42 => if x42 < x41 then ((spec_wkNext.f k x0 ((wrap64 (48 + x42)) % 256)).bind fun t109 => (spec_wkTable.l3 k x0 x1 x7 x9 x10 x42 t109 0 x41 x42)) else (if (x9.length : Int) < 1000000 then (spec_wkTable.l1 k x0 (wrap64 (x1 - 1)) x10 (x9 ++ [x10])) else none)
def spec_wkTable.l3 : Nat → ByteArray → Int → List Int → List (List Int) → List Int → Int → ByteArray → Int → Int → Int → Option (List (List Int))
 | 0,_,_,_,_,_,_,_,_,_,_ => none
 | k + 1,x0,x1,x7,x9,x10,x11,x12,x13,x41,x42 => if x13 < (x12.size : Int) then (if 0 ≤ x11 then (if x11 < (x10.length : Int) then (if 0 ≤ x13 then (if 0 ≤ (((bt x12 x13) - 48) % 256) then (if (((bt x12 x13) - 48) % 256) < (x7.length : Int) then ((spec_l1Least.f (wrap64 ((rd x10 x11) + (rd x7 (((bt x12 x13) - 48) % 256)))) 1000000000000001).bind fun t112 => (spec_wkTable.l3 k x0 x1 x7 x9 (x10.set (x11 : Int).toNat t112) x11 x12 (wrap64 (x13 + 1)) x41 x42)) else (none)) else (none)) else (none)) else (none)) else (none)) else (spec_wkTable.l2 k x0 x1 x7 x9 x10 x41 (wrap64 (x42 + 1)))
end
def spec_wkTable.f (k : Nat) (a0 : ByteArray) (a1 : Int) (a2 : Int) : Option (List (List Int)) := if 10 ≤ 35184372088832 then ((some (List.replicate 10 0 : List Int)).bind fun y101 => (spec_wkTable.l0 k a0 a1 a2 y101 (y101.length : Int) 0)) else (none)
theorem spec_wkTable.mono_l : ∀ k,(∀ y0 y1 y2 y3 y4 y5,LeO (spec_wkTable.l0 k y0 y1 y2 y3 y4 y5) (spec_wkTable.l0 (k + 1) y0 y1 y2 y3 y4 y5)) ∧ (∀ y0 y1 y2 z,LeO (spec_wkTable.l1 k y0 y1 y2 z) (spec_wkTable.l1 (k + 1) y0 y1 y2 z)) ∧ (∀ y0 y1 y2 z y3 y4 y5,LeO (spec_wkTable.l2 k y0 y1 y2 z y3 y4 y5) (spec_wkTable.l2 (k + 1) y0 y1 y2 z y3 y4 y5)) ∧ (∀ y0 y1 y2 z y3 y4 y5 y6 y7 y8,LeO (spec_wkTable.l3 k y0 y1 y2 z y3 y4 y5 y6 y7 y8) (spec_wkTable.l3 (k + 1) y0 y1 y2 z y3 y4 y5 y6 y7 y8))
 | 0 => ⟨fun _ _ _ _ _ _ r h => by simp [spec_wkTable.l0] at h,fun _ _ _ _ r h => by simp [spec_wkTable.l1] at h,fun _ _ _ _ _ _ _ r h => by simp [spec_wkTable.l2] at h,fun _ _ _ _ _ _ _ _ _ _ r h => by simp [spec_wkTable.l3] at h⟩
 | k + 1 => by
  obtain ⟨ih0,ih1,ih2,ih3⟩ := spec_wkTable.mono_l k; refine ⟨?_,?_,?_,?_⟩
  ·
   intro y0 y1 y2 y3 y4 y5
   unfold spec_wkTable.l0
   repeat' first
   | (with_reducible exact ih0 _ _ _ _ _ _)
   | (with_reducible exact ih1 _ _ _ _)
   | (with_reducible exact ih2 _ _ _ _ _ _ _)
   | (with_reducible exact ih3 _ _ _ _ _ _ _ _ _ _)
   | (with_reducible exact spec_wkNext.mono _ _ _)
   | (with_reducible exact LeO.refl _)
   | (with_reducible exact LeO.none _)
   | (with_reducible refine LeO.ite ?_ ?_)
   | (with_reducible refine LeO.bind ?_ (fun _ => ?_))
   | exact ih0 _ _ _ _ _ _
   | exact ih1 _ _ _ _
   | exact ih2 _ _ _ _ _ _ _
   | exact ih3 _ _ _ _ _ _ _ _ _ _
   | exact spec_wkNext.mono _ _ _
   | exact LeO.none _
   | refine LeO.ite ?_ ?_
   | refine LeO.bind ?_ (fun _ => ?_)
  ·
   intro y0 y1 y2 z
   unfold spec_wkTable.l1
   repeat' first
   | (with_reducible exact ih0 _ _ _ _ _ _)
   | (with_reducible exact ih1 _ _ _ _)
   | (with_reducible exact ih2 _ _ _ _ _ _ _)
   | (with_reducible exact ih3 _ _ _ _ _ _ _ _ _ _)
   | (with_reducible exact spec_wkNext.mono _ _ _)
   | (with_reducible exact LeO.refl _)
   | (with_reducible exact LeO.none _)
   | (with_reducible refine LeO.ite ?_ ?_)
   | (with_reducible refine LeO.bind ?_ (fun _ => ?_))
   | exact ih0 _ _ _ _ _ _
   | exact ih1 _ _ _ _
   | exact ih2 _ _ _ _ _ _ _
   | exact ih3 _ _ _ _ _ _ _ _ _ _
   | exact spec_wkNext.mono _ _ _
   | exact LeO.none _
   | refine LeO.ite ?_ ?_
   | refine LeO.bind ?_ (fun _ => ?_)
  ·
   intro y0 y1 y2 y3 y4 y5 z
   unfold spec_wkTable.l2
   repeat' first
   | (with_reducible exact ih0 _ _ _ _ _ _)
   | (with_reducible exact ih1 _ _ _ _)
   | (with_reducible exact ih2 _ _ _ _ _ _ _)
   | (with_reducible exact ih3 _ _ _ _ _ _ _ _ _ _)
   | (with_reducible exact spec_wkNext.mono _ _ _)
   | (with_reducible exact LeO.refl _)
   | (with_reducible exact LeO.none _)
   | (with_reducible refine LeO.ite ?_ ?_)
   | (with_reducible refine LeO.bind ?_ (fun _ => ?_))
   | exact ih0 _ _ _ _ _ _
   | exact ih1 _ _ _ _
   | exact ih2 _ _ _ _ _ _ _
   | exact ih3 _ _ _ _ _ _ _ _ _ _
   | exact spec_wkNext.mono _ _ _
   | exact LeO.none _
   | refine LeO.ite ?_ ?_
   | refine LeO.bind ?_ (fun _ => ?_)
  ·
   intro y0 y1 y2 y3 y4 y5 y6 y7 y8 z
   unfold spec_wkTable.l3
   repeat' first
   | (with_reducible exact ih0 _ _ _ _ _ _)
   | (with_reducible exact ih1 _ _ _ _)
   | (with_reducible exact ih2 _ _ _ _ _ _ _)
   | (with_reducible exact ih3 _ _ _ _ _ _ _ _ _ _)
   | (with_reducible exact spec_wkNext.mono _ _ _)
   | (with_reducible exact LeO.refl _)
   | (with_reducible exact LeO.none _)
   | (with_reducible refine LeO.ite ?_ ?_)
   | (with_reducible refine LeO.bind ?_ (fun _ => ?_))
   | exact ih0 _ _ _ _ _ _
   | exact ih1 _ _ _ _
   | exact ih2 _ _ _ _ _ _ _
   | exact ih3 _ _ _ _ _ _ _ _ _ _
   | exact spec_wkNext.mono _ _ _
   | exact LeO.none _
   | refine LeO.ite ?_ ?_
   | refine LeO.bind ?_ (fun _ => ?_)
theorem spec_wkTable.mono : ∀ a0 a1 a2 k,LeO (spec_wkTable.f k a0 a1 a2) (spec_wkTable.f (k + 1) a0 a1 a2) := by
 intro a0 a1 a2 k; obtain ⟨ih0,ih1,ih2,ih3⟩ := spec_wkTable.mono_l k
 unfold spec_wkTable.f
 repeat' first
   | (with_reducible exact ih0 _ _ _ _ _ _)
   | (with_reducible exact ih1 _ _ _ _)
   | (with_reducible exact ih2 _ _ _ _ _ _ _)
   | (with_reducible exact ih3 _ _ _ _ _ _ _ _ _ _)
   | (with_reducible exact spec_wkNext.mono _ _ _)
   | (with_reducible exact LeO.refl _)
   | (with_reducible exact LeO.none _)
   | (with_reducible refine LeO.ite ?_ ?_)
   | (with_reducible refine LeO.bind ?_ (fun _ => ?_))
   | exact ih0 _ _ _ _ _ _
   | exact ih1 _ _ _ _
   | exact ih2 _ _ _ _ _ _ _
   | exact ih3 _ _ _ _ _ _ _ _ _ _
   | exact spec_wkNext.mono _ _ _
   | exact LeO.none _
   | refine LeO.ite ?_ ?_
   | refine LeO.bind ?_ (fun _ => ?_)
/-- A table of one row,made of that row. -/
theorem wk_lit {w : World} {base : Nat} {v : Value} {xs : List Int} (hs : base ≤ w.heap.size) (h : Kd.R (Kd.int .i64) 3 w base (fun _ => True) v xs) :
  Kd.S (Kd.slice 3 (Kd.int .i64)) 53 (w.alloc (.cells #[v] 53)) base (fun _ => True) (.slice (some ⟨w.heap.size,0,none⟩) 1 1) [xs] := by
 refine ⟨fun _ => 0,fun _ _ => trivial,[v],⟨rfl,.inr ⟨w.heap.size,1,#[v],rfl,hs,by show (w.heap.push _)[w.heap.size]? = _; simp,Nat.le_refl _,by decide,rfl,rfl⟩⟩,Reps.one ⟨v,rfl,?_⟩ (Reps.none _ _)⟩; have hb := Kd.R_bound h; refine Kd.R_mono (Kd.R_alloc hb _) (fun k hk => ⟨⟨trivial,fun he => ?_⟩,rfl⟩); have h3 := hk.2.2.1; have : k = w.heap.size := by simpa [Value.ownBlock] using he
 omega
def spec_wkTable.T19 : Bool × List (List Nat × List Nat) := (true,[([],[]),([],[]),([],[]),([],[]),([2,3],[2,3]),([4],[4]),([],[]),([],[]),([],[]),([7,8],[7,8]),([9],[9]),([6,10],[6,10]),([11],[11]),([5,12],[5,12]),([13],[13]),([0,1,0,1,2,3,4,5,6,7,8,9,10,11,12,13,14],[0,1]),([15,14,14,0,1,2,3,4,5,6,7,8,9,10,11,12,13,14],[14,15])])
def spec_wkTable.B19 : List Nat := [0,0,0,0,12,28,0,0,0,384,896,1984,4032,8188,16380,32767,65535]
theorem spec_wkTable.tab19 : rtab .any (opsOf Tryz.f46 19) = spec_wkTable.T19 := by kernel_rfl
theorem spec_wkTable.bits19 : waitsOk spec_wkTable.T19.2 spec_wkTable.B19 = true := by kernel_rfl
set_option maxHeartbeats 8000000 in
set_option maxRecDepth 100000 in
theorem spec_wkTable.calls (k : Nat) (a0 : ByteArray) (a1 : Int) (a2 : Int) (r : List (List Int)) (w : World) (h : spec_wkTable.f k a0 a1 a2 = some r) :
  Calls Tryz.prog 46 #[.string a0,.int .i64 a1,.int .u8 a2] w fun e w' => ∃ v0_ : Value,e = .returned (v0_) ∧ Kd.S (Kd.slice 3 (Kd.int .i64)) 53 w' w.heap.size (fun _ => True) v0_ r ∧ Below w.heap.size w w' := by
 have HB := Aside0.mk (Below.refl w.heap.size w); have H : (if 10 ≤ 35184372088832 then ((some (List.replicate 10 0 : List Int)).bind fun y101 => (spec_wkTable.l0 k a0 a1 a2 y101 (y101.length : Int) 0)) else (none)) = some r := h; clear h
 by_cases c4 : 10 ≤ 35184372088832
 ·
  rw [if_pos c4] at H; have c4b0 := eq_true c4; have c4b1 : decide (10 ≤ 35184372088832) = true := decide_eq_true c4; clear c4; obtain ⟨y101,hy101⟩ : ∃ y_ : List Int,y_ = (List.replicate 10 0) := ⟨_,rfl⟩; replace H : (spec_wkTable.l0 k a0 a1 a2 y101 (y101.length : Int) 0) = some r := by first | (rw [hy101]; with_reducible exact H) | (have H2_ := (Option.bind_some _ _).symm.trans H; rw [hy101]; with_reducible exact H2_) | (have H2_ := (Option.bind_some _ _).symm.trans H; with_reducible exact H2_) | with_reducible exact H | (rw [hy101]; exact H) | exact H
  have Ny101 := Aside0.mk hy101; clear hy101; have H' := Aside0.mk H; clear H
  go_enter Tryz.func46,Tryz.ntmps46
  go_wp2_with (first | ((with_reducible refine gate_dst (N := 14) rfl ?_); refine Kd.R_make (Kd.int .i64) _ 3 rfl (N := 14) rfl 53 _ _ rfl 10 rfl rfl Tryz.underlying53 (.int .i64 0) 8 info3 rfl (by decide) (by omega) 0 (ok := fun _ => True) (okp := fun _ => True) rfl (fun _ hk => hk) trivial (by omega) (by omega) (Below.refl _ _) (Nat.le_refl _) ?_; intro v102 w5 ho6 hb hg_ hnew_; clear hg_ hnew_; (first | rw [← Ny101.out] at ho6 | (simp only [Int.reduceToNat] at ho6; rw [← Ny101.out] at ho6)); have n0_ := Aside0.mk (Kd.R_lower ho6 (below_size zbw)); have n1_ := Aside0.mk (below_step zbw hb); clear HB; have HO103 := n0_; have HB := n1_; clear n0_ n1_; clear hb ho6; obtain ⟨Ao7,co7,eo7⟩ := Kd.R_slice HO103.out; subst eo7))
  go_loopg [17] k (fun kq v17 w' => ∃ (x7_1 : List Int) (x17_1 : Int),v17 = .int .i64 x17_1 ∧ Aside0 (spec_wkTable.l0 kq a0 a1 a2 x7_1 (y101.length : Int) x17_1 = some r) ∧ Aside0 (kq ≤ k) ∧ Aside0 (Kd.R (Kd.int .i64) 3 w' w.heap.size (fun _ => True) (.slice Ao7 y101.length co7) x7_1) ∧ Aside0 (Below w.heap.size w w'))
  case atStart => exact ⟨(y101),(0),zrs,H',⟨Nat.le_refl _⟩,⟨by (with_reducible repeat (first | apply Kd.R_alloc | apply Kd.R_drewN | apply Kd.R_drew)); exact HO103.out⟩,⟨zbw⟩⟩
  case round =>
   clear H'; try clear p2
   try clear c4
   try clear c4b0
   try clear c4b1
   try clear c5
   obtain ⟨x7_1,x17_1,rfl,HA,HK1,HO_7,HB⟩ := hrel; have hl7_1 := (Kd.R_reads' HO_7.out).1; rw [hl7_1] at HO_7
   (try simp only [hl7_1])
   cases gk with
   | zero => exact absurd HA.out (by simp [spec_wkTable.l0])
   | succ k1 =>
    have H := HA.out; clear HA; simp only [spec_wkTable.l0] at H
    by_cases c8 : x17_1 < (y101.length : Int)
    ·
     rw [if_pos c8] at H; have c8b0 : decide (x17_1 < (y101.length : Int)) = true := decide_eq_true c8
     (try (have c8b0_ := c8b0; rw [hl7_1] at c8b0_))
     (try rw [hl7_1] at c8b0)
     clear c8
     by_cases c9 : a2 = 0
     ·
      rw [if_pos c9] at H; have c9b0 : (a2 == 0) = true := beq_iff_eq.mpr c9; have c9b1 : (a2 != 0) = false := bne_eq_false_iff_eq.mpr c9; clear c9
      by_cases c10 : 0 ≤ x17_1
      ·
       rw [if_pos c10] at H; have c10b0 : decide (0 ≤ x17_1) = true := decide_eq_true c10; clear c10
       by_cases c11 : x17_1 < (x7_1.length : Int)
       ·
        rw [if_pos c11] at H; have c11b0 : decide (x17_1 < (x7_1.length : Int)) = true := decide_eq_true c11
        (try (have c11b0_ := c11b0; rw [hl7_1] at c11b0_))
        clear c11; obtain ⟨y104,hy104⟩ : ∃ y_ : List Int,y_ = (x7_1.set (x17_1 : Int).toNat 1) := ⟨_,rfl⟩; replace H : (spec_wkTable.l0 k1 a0 a1 a2 y104 (y101.length : Int) (wrap64 (x17_1 + 1))) = some r := by first | (rw [hy104]; with_reducible exact H) | (have H2_ := (Option.bind_some _ _).symm.trans H; rw [hy104]; with_reducible exact H2_) | (have H2_ := (Option.bind_some _ _).symm.trans H; with_reducible exact H2_) | with_reducible exact H | (rw [hy104]; exact H) | exact H
        have Ny104 := Aside0.mk hy104; clear hy104; have H' := Aside0.mk H; clear H; have p12 : 0 ≤ (x17_1 : Int) := zdd; have q12 : (x17_1 : Int) < ((x7_1.length : Int) : Int) := zdd; obtain ⟨go12,co12,eo12,gb12,gl12,cl12,HG12⟩ := Kd.R_form HO_7.out (by omega)
        (first | cases eo12 | (injection eo12 with ea_ en_ ec_; (first | subst ea_ | (injection ea_ with ea_; subst ea_)); subst ec_; clear en_))
        have GB12 := Aside0.mk gb12; have GG12 := Aside0.mk HG12; clear gb12 gl12 HG12; obtain ⟨hx12_0,hf12_0⟩ := Kd.R_celln 0 HO_7.out (x17_1 : Int) p12 q12; replace p12 := eq_true p12; replace q12 := eq_true q12; have HP13 := Kd.R_putg HO_7.out (x17_1 : Int) 1; go_wp2_with (first | ((with_reducible refine gate_store (t := 3) (p := 31) rfl ?_); refine store_event (t := 3) (p := 31) (v := ?vo_w14) (w1 := (wr.setCell ⟨go12,(x17_1 : Int).toNat,none⟩ (.int .i64 1))) ?hg ?ho ?hn ?hr ?_; (case ho => rfl); (case hg => rfl); (case hn => rfl); (case hr => first | (go_simp; done) | (go_simp; rfl)); intro w14 hw; have hg : wr.grownBy w14 (some go12) := (by rw [hw]; exact HP13.2); have hp_ : Kd.R (Kd.int .i64) 3 w14 w.heap.size (fun _ => True) (.slice (some ⟨go12,0,none⟩) x7_1.length co7) y104 := (by rw [hw,Ny104.out]; exact HP13.1); clear HP13; have n0_ := Aside0.mk (hp_); have n1_ := Aside0.mk ((by rw [hw]; exact below_set (HB.out) GB12.out : Below w.heap.size w w14)); clear HO_7; clear HB; have HO_7 := n0_; have HB := n1_; clear n0_ n1_; clear hg hw hp_))
        (try simp only [← hl7_1])
        go_roundg k1
        case measure => have := HK1.out; omega
        case rel => exact ⟨(y104),(wrap64 (x17_1 + 1)),zrs,H',⟨by have := HK1.out; omega⟩,⟨by (try simp only [hl7_1]); (with_reducible repeat (first | apply Kd.R_alloc | apply Kd.R_drewN | apply Kd.R_drew)); exact HO_7.out⟩,⟨zbw⟩⟩
       · rw [if_neg c11] at H; exact absurd H (by simp)
      · rw [if_neg c10] at H; exact absurd H (by simp)
     ·
      rw [if_neg c9] at H; have c9b0 : (a2 == 0) = false := beq_eq_false_iff_ne.mpr c9; have c9b1 : (a2 != 0) = true := bne_iff_ne.mpr c9
      by_cases c15 : x17_1 = ((a2 - 48) % 256)
      ·
       rw [if_pos c15] at H; have c15b0 : (x17_1 == ((a2 - 48) % 256)) = true := beq_iff_eq.mpr c15; have c15b1 : (x17_1 != ((a2 - 48) % 256)) = false := bne_eq_false_iff_eq.mpr c15; clear c15
       by_cases c16 : 0 ≤ x17_1
       ·
        rw [if_pos c16] at H; have c16b0 : decide (0 ≤ x17_1) = true := decide_eq_true c16; clear c16
        by_cases c17 : x17_1 < (x7_1.length : Int)
        ·
         rw [if_pos c17] at H; have c17b0 : decide (x17_1 < (x7_1.length : Int)) = true := decide_eq_true c17
         (try (have c17b0_ := c17b0; rw [hl7_1] at c17b0_))
         clear c17; obtain ⟨y105,hy105⟩ : ∃ y_ : List Int,y_ = (x7_1.set (x17_1 : Int).toNat 1) := ⟨_,rfl⟩; replace H : (spec_wkTable.l0 k1 a0 a1 a2 y105 (y101.length : Int) (wrap64 (x17_1 + 1))) = some r := by first | (rw [hy105]; with_reducible exact H) | (have H2_ := (Option.bind_some _ _).symm.trans H; rw [hy105]; with_reducible exact H2_) | (have H2_ := (Option.bind_some _ _).symm.trans H; with_reducible exact H2_) | with_reducible exact H | (rw [hy105]; exact H) | exact H
         have Ny105 := Aside0.mk hy105; clear hy105; have H' := Aside0.mk H; clear H; have p18 : 0 ≤ (x17_1 : Int) := zdd; have q18 : (x17_1 : Int) < ((x7_1.length : Int) : Int) := zdd; obtain ⟨go18,co18,eo18,gb18,gl18,cl18,HG18⟩ := Kd.R_form HO_7.out (by omega)
         (first | cases eo18 | (injection eo18 with ea_ en_ ec_; (first | subst ea_ | (injection ea_ with ea_; subst ea_)); subst ec_; clear en_))
         have GB18 := Aside0.mk gb18; have GG18 := Aside0.mk HG18; clear gb18 gl18 HG18; obtain ⟨hx18_0,hf18_0⟩ := Kd.R_celln 0 HO_7.out (x17_1 : Int) p18 q18; replace p18 := eq_true p18; replace q18 := eq_true q18; have HP19 := Kd.R_putg HO_7.out (x17_1 : Int) 1; go_wp2_with (first | ((with_reducible refine gate_store (t := 3) (p := 31) rfl ?_); refine store_event (t := 3) (p := 31) (v := ?vo_w20) (w1 := (wr.setCell ⟨go18,(x17_1 : Int).toNat,none⟩ (.int .i64 1))) ?hg ?ho ?hn ?hr ?_; (case ho => rfl); (case hg => rfl); (case hn => rfl); (case hr => first | (go_simp; done) | (go_simp; rfl)); intro w20 hw; have hg : wr.grownBy w20 (some go18) := (by rw [hw]; exact HP19.2); have hp_ : Kd.R (Kd.int .i64) 3 w20 w.heap.size (fun _ => True) (.slice (some ⟨go18,0,none⟩) x7_1.length co7) y105 := (by rw [hw,Ny105.out]; exact HP19.1); clear HP19; have n0_ := Aside0.mk (hp_); have n1_ := Aside0.mk ((by rw [hw]; exact below_set (HB.out) GB18.out : Below w.heap.size w w20)); clear HO_7; clear HB; have HO_7 := n0_; have HB := n1_; clear n0_ n1_; clear hg hw hp_))
         (try simp only [← hl7_1])
         go_roundg k1
         case measure => have := HK1.out; omega
         case rel => exact ⟨(y105),(wrap64 (x17_1 + 1)),zrs,H',⟨by have := HK1.out; omega⟩,⟨by (try simp only [hl7_1]); (with_reducible repeat (first | apply Kd.R_alloc | apply Kd.R_drewN | apply Kd.R_drew)); exact HO_7.out⟩,⟨zbw⟩⟩
        · rw [if_neg c17] at H; exact absurd H (by simp)
       · rw [if_neg c16] at H; exact absurd H (by simp)
      ·
       rw [if_neg c15] at H; have c15b0 : (x17_1 == ((a2 - 48) % 256)) = false := beq_eq_false_iff_ne.mpr c15; have c15b1 : (x17_1 != ((a2 - 48) % 256)) = true := bne_iff_ne.mpr c15; have H' := Aside0.mk H; clear H; go_wp2
       (try simp only [← hl7_1])
       go_roundg k1
       case measure => have := HK1.out; omega
       case rel => exact ⟨(x7_1),(wrap64 (x17_1 + 1)),zrs,H',⟨by have := HK1.out; omega⟩,⟨by (try simp only [hl7_1]); (with_reducible repeat (first | apply Kd.R_alloc | apply Kd.R_drewN | apply Kd.R_drew)); exact HO_7.out⟩,⟨zbw⟩⟩
    ·
     rw [if_neg c8] at H; have c8b0 : decide (x17_1 < (y101.length : Int)) = false := decide_eq_false c8
     (try (have c8b0_ := c8b0; rw [hl7_1] at c8b0_))
     (try rw [hl7_1] at c8b0)
     clear c8; have H' := Aside0.mk H; clear H; have HBQ := Aside0.mk (below_size HB.out); go_wp2
     go_loopg [1,7,9] k1 (fun kq v1 v7 v9 w' => ∃ (x1_2 : Int) (x7_2 : List Int) (x9_2 : List (List Int)),v1 = .int .i64 x1_2 ∧ Aside0 (spec_wkTable.l1 kq a0 x1_2 x7_2 x9_2 = some r) ∧ Aside0 (kq ≤ k1) ∧ Aside0 (Kd.R (Kd.int .i64) 3 w' w.heap.size (fun _ => True) v7 x7_2) ∧ Aside0 (Kd.S (Kd.slice 3 (Kd.int .i64)) 53 w' w.heap.size (fun _ => True) v9 x9_2) ∧ Aside0 (Below w.heap.size w w'))
     case atStart => exact ⟨(a1),(x7_1),[x7_1],zrs,H',⟨Nat.le_refl _⟩,⟨by (try simp only [hl7_1]); (with_reducible repeat (first | apply Kd.R_alloc | apply Kd.R_drewN | apply Kd.R_drew)); exact HO_7.out⟩,⟨wk_lit HBQ.out (by (try simp only [hl7_1]); (with_reducible repeat (first | apply Kd.R_alloc | apply Kd.R_drewN | apply Kd.R_drew)); exact HO_7.out)⟩,⟨zbw⟩⟩
     case round =>
      clear H'; try clear c1
      try clear p1
      try clear q1
      try clear hx1
      try clear p2
      try clear c4
      try clear c4b0
      try clear c4b1
      try clear c5
      try clear p6
      try clear c8
      try clear c8b0
      try clear c9
      try clear c9b0
      try clear c9b1
      try clear c10
      try clear c10b0
      try clear c11
      try clear c11b0
      try clear p12
      try clear q12
      try clear hx12
      try clear hf12
      try clear c15
      try clear c15b0
      try clear c15b1
      try clear c16
      try clear c16b0
      try clear c17
      try clear c17b0
      try clear p18
      try clear q18
      try clear hx18
      try clear hf18
      try clear hx12_0
      try clear hx18_0
      try clear p12
      try clear p18
      try clear p2
      try clear q12
      try clear q18
      obtain ⟨x1_2,x7_2,x9_2,rfl,HA,HK2,HO_7,HO_9,HB⟩ := hrel
      cases gk with
      | zero => exact absurd HA.out (by simp [spec_wkTable.l1])
      | succ k2 =>
       have H := HA.out; clear HA; simp only [spec_wkTable.l1] at H
       by_cases c21 : x1_2 > 0
       ·
        rw [if_pos c21] at H; have c21b0 : decide (0 < x1_2) = true := decide_eq_true c21; clear c21
        by_cases c22 : 10 ≤ 35184372088832
        ·
         rw [if_pos c22] at H; have c22b0 := eq_true c22; have c22b1 : decide (10 ≤ 35184372088832) = true := decide_eq_true c22; clear c22; obtain ⟨y106,hy106⟩ : ∃ y_ : List Int,y_ = (List.replicate 10 0) := ⟨_,rfl⟩; replace H : (spec_wkTable.l2 k2 a0 x1_2 x7_2 x9_2 y106 (y106.length : Int) 0) = some r := by first | (rw [hy106]; with_reducible exact H) | (have H2_ := (Option.bind_some _ _).symm.trans H; rw [hy106]; with_reducible exact H2_) | (have H2_ := (Option.bind_some _ _).symm.trans H; with_reducible exact H2_) | with_reducible exact H | (rw [hy106]; exact H) | exact H
         have Ny106 := Aside0.mk hy106; clear hy106; have H' := Aside0.mk H; clear H; go_wp2_with (first | ((with_reducible refine gate_dst (N := 39) rfl ?_); refine Kd.R_make (Kd.int .i64) _ 3 rfl (N := 39) rfl 53 _ _ rfl 10 rfl rfl Tryz.underlying53 (.int .i64 0) 8 info3 rfl (by decide) (by omega) 0 (ok := fun _ => True) (okp := fun _ => True) rfl (fun _ hk => hk) trivial (by omega) (by omega) (Below.refl _ _) (Nat.le_refl _) ?_; intro v107 w23 ho24 hb hg_ hnew_; clear hg_ hnew_; (first | rw [← Ny106.out] at ho24 | (simp only [Int.reduceToNat] at ho24; rw [← Ny106.out] at ho24)); have n9_ := Aside0.mk (Kd.S_elder' (by (with_reducible repeat (first | apply Kd.S_alloc | apply Kd.S_drewN | apply Kd.S_drew)); exact HO_9.out) (Kd.R_base ho24) hb); clear HO_9; have HO_9 := n9_; clear n9_; have n0_ := Aside0.mk (Kd.R_elder' (by (with_reducible repeat (first | apply Kd.R_alloc | apply Kd.R_drewN | apply Kd.R_drew)); exact HO_7.out) (Kd.R_base ho24) hb); have n1_ := Aside0.mk (Kd.R_lower (Kd.R_new' ho24 (Kd.R_lt (by (with_reducible repeat (first | apply Kd.R_alloc | apply Kd.R_drewN | apply Kd.R_drew)); exact HO_7.out))) (below_size zbw)); have n2_ := Aside0.mk (below_step zbw hb); clear HO_7; clear HB; have HO_7 := n0_; have HO108 := n1_; have HB := n2_; clear n0_ n1_ n2_; clear hb ho24; obtain ⟨Ao25,co25,eo25⟩ := Kd.R_slice HO108.out; subst eo25))
         go_loopg [42] k2 (fun kq v42 w' => ∃ (x10_3 : List Int) (x42_3 : Int),v42 = .int .i64 x42_3 ∧ Aside0 (spec_wkTable.l2 kq a0 x1_2 x7_2 x9_2 x10_3 (y106.length : Int) x42_3 = some r) ∧ Aside0 (kq ≤ k2) ∧ Aside0 (Kd.R (Kd.int .i64) 3 w' w.heap.size (fun k_ => some k_ ≠ ((.slice Ao25 y106.length co25) : Value).ownBlock) u7 x7_2) ∧ Aside0 (Kd.S (Kd.slice 3 (Kd.int .i64)) 53 w' w.heap.size (fun k_ => some k_ ≠ ((.slice Ao25 y106.length co25) : Value).ownBlock) u9 x9_2) ∧ Aside0 (Kd.R (Kd.int .i64) 3 w' w.heap.size (fun k_ => some k_ ≠ (u7 : Value).ownBlock) (.slice Ao25 y106.length co25) x10_3) ∧ Aside0 (Below w.heap.size w w'))
         case atStart => exact ⟨(y106),(0),zrs,H',⟨Nat.le_refl _⟩,⟨by (try simp only [hl7_1]); (with_reducible repeat (first | apply Kd.R_alloc | apply Kd.R_drewN | apply Kd.R_drew)); exact Kd.R_mono HO_7.out (fun _ hk => hk.2)⟩,⟨by (try simp only [hl7_1]); (with_reducible repeat (first | apply Kd.S_alloc | apply Kd.S_drewN | apply Kd.S_drew)); exact Kd.S_mono HO_9.out (fun _ hk => hk.2)⟩,⟨by (try simp only [hl7_1]); (with_reducible repeat (first | apply Kd.R_alloc | apply Kd.R_drewN | apply Kd.R_drew)); exact Kd.R_mono HO108.out (fun _ hk => hk.2)⟩,⟨zbw⟩⟩
         case round =>
          clear H'; try clear c1
          try clear p1
          try clear q1
          try clear hx1
          try clear c2
          try clear p2
          try clear c4
          try clear c4b0
          try clear c4b1
          try clear c5
          try clear p6
          try clear c8
          try clear c8b0
          try clear c9
          try clear c9b0
          try clear c9b1
          try clear c10
          try clear c10b0
          try clear c11
          try clear c11b0
          try clear p12
          try clear q12
          try clear hx12
          try clear hf12
          try clear c15
          try clear c15b0
          try clear c15b1
          try clear c16
          try clear c16b0
          try clear c17
          try clear c17b0
          try clear p18
          try clear q18
          try clear hx18
          try clear hf18
          try clear c21
          try clear c21b0
          try clear c22
          try clear c22b0
          try clear c22b1
          try clear hx12_0
          try clear hx18_0
          try clear p1
          try clear p12
          try clear p18
          try clear p2
          try clear p6
          try clear q1
          try clear q12
          try clear q18
          obtain ⟨x10_3,x42_3,rfl,HA,HK3,HO_7,HO_9,HO_10,HB⟩ := hrel; have hl10_3 := (Kd.R_reads' HO_10.out).1; rw [hl10_3] at HO_10
          (try simp only [hl10_3])
          (try simp only [hl10_3] at HO_7)
          (try simp only [hl10_3] at HO_9)
          cases gk with
          | zero => exact absurd HA.out (by simp [spec_wkTable.l2])
          | succ k3 =>
           have H := HA.out; clear HA; simp only [spec_wkTable.l2] at H
           by_cases c26 : x42_3 < (y106.length : Int)
           ·
            rw [if_pos c26] at H; have c26b0 : decide (x42_3 < (y106.length : Int)) = true := decide_eq_true c26
            (try (have c26b0_ := c26b0; rw [hl7_1] at c26b0_))
            (try (have c26b0_ := c26b0; rw [hl10_3] at c26b0_))
            (try rw [hl10_3] at c26b0)
            clear c26; replace H := Option.bind_eq_some_iff.mp H; obtain ⟨t109,A270,H⟩ := H; replace H : (spec_wkTable.l3 k3 a0 x1_2 x7_2 x9_2 x10_3 x42_3 t109 0 (y106.length : Int) x42_3) = some r := H; have A27 := Aside0.mk A270; clear A270; have H' := Aside0.mk H; clear H; go_wp2_with (first | ((with_reducible refine gate_callee (f := 44) rfl ?_); refine goesL_ (some 49) rfl rfl Tryz.func44 (by kernel_rfl) rfl #[.string a0,.int .u8 ((wrap64 (48 + x42_3)) % 256)] rfl zrr ?_; (with_reducible refine (spec_wkNext.calls k3 a0 ((wrap64 (48 + x42_3)) % 256) t109 _ A27.out).mono ?_); rintro e w' ⟨rfl,⟨nd,rfl⟩⟩; refine ⟨_,rfl,?_⟩))
            go_loopg [13] k3 (fun kq v13 w' => ∃ (x10_4 : List Int) (x13_4 : Int),v13 = .int .i64 x13_4 ∧ Aside0 (spec_wkTable.l3 kq a0 x1_2 x7_2 x9_2 x10_4 x42_3 t109 x13_4 (y106.length : Int) x42_3 = some r) ∧ Aside0 (kq ≤ k3) ∧ Aside0 (Kd.R (Kd.int .i64) 3 w' w.heap.size (fun k_ => some k_ ≠ ((.slice Ao25 x10_3.length co25) : Value).ownBlock) u7 x7_2) ∧ Aside0 (Kd.S (Kd.slice 3 (Kd.int .i64)) 53 w' w.heap.size (fun k_ => some k_ ≠ ((.slice Ao25 x10_3.length co25) : Value).ownBlock) u9 x9_2) ∧ Aside0 (Kd.R (Kd.int .i64) 3 w' w.heap.size (fun k_ => some k_ ≠ (u7 : Value).ownBlock) (.slice Ao25 x10_3.length co25) x10_4) ∧ Aside0 (Below w.heap.size w w'))
            case atStart => exact ⟨(x10_3),(0),zrs,H',⟨Nat.le_refl _⟩,⟨by (try simp only [hl7_1]); (try simp only [hl10_3]); (with_reducible repeat (first | apply Kd.R_alloc | apply Kd.R_drewN | apply Kd.R_drew)); exact HO_7.out⟩,⟨by (try simp only [hl7_1]); (try simp only [hl10_3]); (with_reducible repeat (first | apply Kd.S_alloc | apply Kd.S_drewN | apply Kd.S_drew)); exact HO_9.out⟩,⟨by (try simp only [hl7_1]); (try simp only [hl10_3]); (with_reducible repeat (first | apply Kd.R_alloc | apply Kd.R_drewN | apply Kd.R_drew)); exact HO_10.out⟩,⟨zbw⟩⟩
            case round =>
             clear H'; try clear c1
             try clear p1
             try clear q1
             try clear hx1
             try clear c2
             try clear p2
             try clear c4
             try clear c4b0
             try clear c4b1
             try clear c5
             try clear p6
             try clear c8
             try clear c8b0
             try clear c9
             try clear c9b0
             try clear c9b1
             try clear c10
             try clear c10b0
             try clear c11
             try clear c11b0
             try clear p12
             try clear q12
             try clear hx12
             try clear hf12
             try clear c15
             try clear c15b0
             try clear c15b1
             try clear c16
             try clear c16b0
             try clear c17
             try clear c17b0
             try clear p18
             try clear q18
             try clear hx18
             try clear hf18
             try clear c21
             try clear c21b0
             try clear c22
             try clear c22b0
             try clear c22b1
             try clear c26
             try clear c26b0
             try clear hx12_0
             try clear hx18_0
             try clear p1
             try clear p12
             try clear p18
             try clear p2
             try clear p6
             try clear q1
             try clear q12
             try clear q18
             obtain ⟨x10_4,x13_4,rfl,HA,HK4,HO_7,HO_9,HO_10,HB⟩ := hrel; have hl10_4 := (Kd.R_reads' HO_10.out).1; rw [hl10_4] at HO_10
             (try simp only [hl10_4])
             (try simp only [hl10_4] at HO_7)
             (try simp only [hl10_4] at HO_9)
             cases gk with
             | zero => exact absurd HA.out (by simp [spec_wkTable.l3])
             | succ k4 =>
              have H := HA.out; clear HA; simp only [spec_wkTable.l3] at H
              by_cases c28 : x13_4 < (t109.size : Int)
              ·
               rw [if_pos c28] at H; have c28b0 : decide (x13_4 < (t109.size : Int)) = true := decide_eq_true c28; clear c28
               by_cases c29 : 0 ≤ x42_3
               ·
                rw [if_pos c29] at H; have c29b0 : decide (0 ≤ x42_3) = true := decide_eq_true c29; clear c29
                by_cases c30 : x42_3 < (x10_4.length : Int)
                ·
                 rw [if_pos c30] at H; have c30b0 : decide (x42_3 < (x10_4.length : Int)) = true := decide_eq_true c30
                 (try (have c30b0_ := c30b0; rw [hl7_1] at c30b0_))
                 (try (have c30b0_ := c30b0; rw [hl10_3] at c30b0_))
                 (try (have c30b0_ := c30b0; rw [hl10_4] at c30b0_))
                 clear c30
                 by_cases c31 : 0 ≤ x13_4
                 ·
                  rw [if_pos c31] at H; have c31b0 : decide (0 ≤ x13_4) = true := decide_eq_true c31; clear c31; obtain ⟨ji33,hji33⟩ : ∃ j_ : Int,(((bt t109 x13_4) - 48) % 256) = j_ := ⟨_,rfl⟩; have huji33 : IntKind.u8.wrap ((bt t109 x13_4) - 48) = ji33 := hji33; replace H : (if 0 ≤ (ji33) then (if (ji33) < (x7_2.length : Int) then ((spec_l1Least.f (wrap64 ((rd x10_4 x42_3) + (rd x7_2 (ji33)))) 1000000000000001).bind fun t112 => (spec_wkTable.l3 k4 a0 x1_2 x7_2 x9_2 (x10_4.set (x42_3 : Int).toNat t112) x42_3 t109 (wrap64 (x13_4 + 1)) (y106.length : Int) x42_3)) else (none)) else (none)) = some r := by first | (rw [hji33] at H; exact H) | (simp only [hji33] at H ⊢; exact H)
                  by_cases c34 : 0 ≤ (ji33)
                  ·
                   rw [if_pos c34] at H; have c34b0 : decide (0 ≤ (ji33)) = true := decide_eq_true c34; clear c34
                   by_cases c35 : (ji33) < (x7_2.length : Int)
                   ·
                    rw [if_pos c35] at H; have c35b0 : decide ((ji33) < (x7_2.length : Int)) = true := decide_eq_true c35
                    (try (have c35b0_ := c35b0; rw [hl7_1] at c35b0_))
                    (try (have c35b0_ := c35b0; rw [hl10_3] at c35b0_))
                    (try (have c35b0_ := c35b0; rw [hl10_4] at c35b0_))
                    clear c35; replace H := Option.bind_eq_some_iff.mp H; obtain ⟨t112,A360,H⟩ := H; replace H : (spec_wkTable.l3 k4 a0 x1_2 x7_2 x9_2 (x10_4.set (x42_3 : Int).toNat t112) x42_3 t109 (wrap64 (x13_4 + 1)) (y106.length : Int) x42_3) = some r := H; have A36 := Aside0.mk A360; clear A360; obtain ⟨y113,hy113⟩ : ∃ y_ : List Int,y_ = (x10_4.set (x42_3 : Int).toNat t112) := ⟨_,rfl⟩; replace H : (spec_wkTable.l3 k4 a0 x1_2 x7_2 x9_2 y113 x42_3 t109 (wrap64 (x13_4 + 1)) (y106.length : Int) x42_3) = some r := by first | (rw [hy113]; with_reducible exact H) | (have H2_ := (Option.bind_some _ _).symm.trans H; rw [hy113]; with_reducible exact H2_) | (have H2_ := (Option.bind_some _ _).symm.trans H; with_reducible exact H2_) | with_reducible exact H | (rw [hy113]; exact H) | exact H
                    have Ny113 := Aside0.mk hy113; clear hy113; have H' := Aside0.mk H; clear H; try go_wp2
                    have n9_ := Aside0.mk (Kd.S_drew HO_9.out); clear HO_9; have HO_9 := n9_; clear n9_; have n0_ := Aside0.mk (Kd.R_drew HO_7.out); have n1_ := Aside0.mk (Kd.R_drew HO_10.out); have n2_ := Aside0.mk (below_drew1 HB.out); clear HO_7; clear HO_10; clear HB; have HO_7 := n0_; have HO_10 := n1_; have HB := n2_; clear n0_ n1_ n2_; have p110 : 0 ≤ (x42_3 : Int) := zdd; have q110 : x42_3 < (x10_4.length : Int) := zdd; obtain ⟨ad110,e110,hx110_0⟩ := Kd.at_int (Kd.R_reads' HO_10.out).2.2 x42_3 p110 q110
                    cases e110
                    replace p110 := eq_true p110; replace q110 := eq_true q110; have p32 : 0 ≤ (x13_4 : Int) := zdd; have q32 : x13_4 < (t109.size : Int) := zdd; have hx32 := bt_at t109 x13_4; replace p32 := eq_true p32; replace q32 := eq_true q32; obtain ⟨Ao39,co39,eo39⟩ := Kd.R_slice HO_7.out
                    (first | subst eo39 | (injection eo39 with f1_ f2_ f3_; have f4_ := f1_.symm; have f5_ := f3_.symm; clear f1_ f2_ f3_; subst f4_; subst f5_))
                    have p111 : 0 ≤ ((ji33) : Int) := zdd; have q111 : (ji33) < (x7_2.length : Int) := zdd; obtain ⟨ad111,e111,hx111_0⟩ := Kd.at_int (Kd.R_reads' HO_7.out).2.2 (ji33) p111 q111
                    cases e111
                    replace p111 := eq_true p111; replace q111 := eq_true q111; refine start_ (n := 17) (S := fun w' => w'.cell? (ad110.add (x42_3).toNat) = some (.int .i64 (rd x10_4 x42_3)) ∧ w'.cell? (ad111.add ((ji33)).toNat) = some (.int .i64 (rd x7_2 (ji33)))) (ds := [16]) #[false,false,false,false,false,false,false,false,false,false,false,false,false,false,false,false,false] (by kernel_rfl) rfl rfl ⟨hx110_0,hx111_0⟩ (fun hHeld => ?_); refine with_tabW spec_wkTable.tab19 spec_wkTable.bits19 (fun HT_ HW_ => ?_)
                    generalize wr.drew = w38 at HO_7 HO_9 HO_10 HB hx110_0 hx111_0 hHeld ⊢; refine pure_ (i := 0) (N := some 56) (v := ?_) (a' := ?_) #[true,false,false,false,false,false,false,false,false,false,false,false,false,false,false,false,false] rfl rfl (any_of HT_.out (by kernel_rfl)) (fun _ _ _ h => h) (Or.inl ⟨by rfl,?_⟩) ?_ ?_; rotate_left
                    · intro w'; go_simp; with_reducible rfl
                    rotate_left
                    · simp only [Act.put,List.setIfInBounds_toArray,List.set_cons_zero,List.set_cons_succ,i64_w,i32_w]; rfl
                    refine pure_ (i := 1) (N := some 57) (v := ?_) (a' := ?_) #[true,true,false,false,false,false,false,false,false,false,false,false,false,false,false,false,false] rfl rfl (any_of HT_.out (by kernel_rfl)) (fun _ _ _ h => h) (Or.inl ⟨by rfl,?_⟩) ?_ ?_; rotate_left
                    · intro w'; go_simp; with_reducible rfl
                    rotate_left
                    · simp only [Act.put,List.setIfInBounds_toArray,List.set_cons_zero,List.set_cons_succ,i64_w,i32_w]; rfl
                    refine pure_ (i := 2) (N := some 58) (v := ?_) (a' := ?_) #[true,true,true,false,false,false,false,false,false,false,false,false,false,false,false,false,false] rfl rfl (any_of HT_.out (by kernel_rfl)) (fun _ _ _ h => h) (Or.inl ⟨by rfl,?_⟩) ?_ ?_; rotate_left
                    · intro w'; go_simp; with_reducible rfl
                    rotate_left
                    · simp only [Act.put,List.setIfInBounds_toArray,List.set_cons_zero,List.set_cons_succ,i64_w,i32_w]; rfl
                    refine pure_ (i := 3) (N := some 59) (v := ?_) (a' := ?_) #[true,true,true,true,false,false,false,false,false,false,false,false,false,false,false,false,false] rfl rfl (any_of HT_.out (by kernel_rfl)) (fun _ _ _ h => h) (Or.inl ⟨by rfl,?_⟩) ?_ ?_; rotate_left
                    · intro w'; go_simp; with_reducible rfl
                    rotate_left
                    · simp only [Act.put,List.setIfInBounds_toArray,List.set_cons_zero,List.set_cons_succ,i64_w,i32_w]; rfl
                    refine pure_ (i := 4) (N := some 60) (v := ?_) (a' := ?_) #[true,true,true,true,true,false,false,false,false,false,false,false,false,false,false,false,false] rfl rfl (any_of HT_.out (by kernel_rfl)) (fun _ _ _ h => h) (Or.inl ⟨by rfl,?_⟩) ?_ ?_; rotate_left
                    · intro w'; go_simp; with_reducible rfl
                    rotate_left
                    · simp only [Act.put,List.setIfInBounds_toArray,List.set_cons_zero,List.set_cons_succ,i64_w,i32_w]; rfl
                    refine pure_ (i := 6) (N := some 62) (v := ?_) (a' := ?_) #[true,true,true,true,true,false,true,false,false,false,false,false,false,false,false,false,false] rfl rfl (any_of HT_.out (by kernel_rfl)) (fun _ _ _ h => h) (Or.inl ⟨by rfl,?_⟩) ?_ ?_; rotate_left
                    · intro w'; go_simp; with_reducible rfl
                    rotate_left
                    · simp only [Act.put,List.setIfInBounds_toArray,List.set_cons_zero,List.set_cons_succ,i64_w,i32_w]; rfl
                    refine pure_ (i := 7) (N := some 63) (v := ?_) (a' := ?_) #[true,true,true,true,true,false,true,true,false,false,false,false,false,false,false,false,false] rfl rfl (any_of HT_.out (by kernel_rfl)) (fun _ _ _ h => h) (Or.inl ⟨by rfl,?_⟩) ?_ ?_; rotate_left
                    · intro w'; go_simp; with_reducible rfl
                    rotate_left
                    · simp only [Act.put,List.setIfInBounds_toArray,List.set_cons_zero,List.set_cons_succ,i64_w,i32_w]; rfl
                    refine pure_ (i := 8) (N := some 64) (v := ?_) (a' := ?_) #[true,true,true,true,true,false,true,true,true,false,false,false,false,false,false,false,false] rfl rfl (any_of HT_.out (by kernel_rfl)) (fun _ _ _ h => h) (Or.inl ⟨by rfl,?_⟩) ?_ ?_; rotate_left
                    · intro w'; go_simp; with_reducible rfl
                    rotate_left
                    · simp only [Act.put,List.setIfInBounds_toArray,List.set_cons_zero,List.set_cons_succ,i64_w,i32_w]; rfl
                    refine take_ (i := 5) (N := some 61) (v := ?_) (a' := ?_) #[true,true,true,true,true,true,true,true,true,false,false,false,false,false,false,false,false] rfl rfl (take_ofW HT_.out HW_.out (by kernel_rfl)) (fun _ _ _ h => h) (Or.inl ⟨by rfl,?_⟩) hHeld ?_ ?_; rotate_left
                    · rintro w' ⟨s0,s1⟩; go_simp; with_reducible rfl
                    rotate_left
                    · simp only [Act.put,List.setIfInBounds_toArray,List.set_cons_zero,List.set_cons_succ,i64_w,i32_w]; rfl
                    refine take_ (i := 9) (N := some 65) (v := ?_) (a' := ?_) #[true,true,true,true,true,true,true,true,true,true,false,false,false,false,false,false,false] rfl rfl (take_ofW HT_.out HW_.out (by kernel_rfl)) (fun _ _ _ h => h) (Or.inl ⟨by rfl,?_⟩) hHeld ?_ ?_; rotate_left
                    · rintro w' ⟨s0,s1⟩; go_simp; with_reducible rfl
                    rotate_left
                    · simp only [Act.put,List.setIfInBounds_toArray,List.set_cons_zero,List.set_cons_succ,i64_w,i32_w]; rfl
                    refine pure_ (i := 10) (N := some 66) (v := ?_) (a' := ?_) #[true,true,true,true,true,true,true,true,true,true,true,false,false,false,false,false,false] rfl rfl (any_of HT_.out (by kernel_rfl)) (fun _ _ _ h => h) (Or.inl ⟨by rfl,?_⟩) ?_ ?_; rotate_left
                    · intro w'; go_simp; with_reducible rfl
                    rotate_left
                    · simp only [Act.put,List.setIfInBounds_toArray,List.set_cons_zero,List.set_cons_succ,i64_w,i32_w]; rfl
                    refine pure_ (i := 11) (N := some 67) (v := ?_) (a' := ?_) #[true,true,true,true,true,true,true,true,true,true,true,true,false,false,false,false,false] rfl rfl (any_of HT_.out (by kernel_rfl)) (fun _ _ _ h => h) (Or.inl ⟨by rfl,?_⟩) ?_ ?_; rotate_left
                    · intro w'; go_simp; with_reducible rfl
                    rotate_left
                    · simp only [Act.put,List.setIfInBounds_toArray,List.set_cons_zero,List.set_cons_succ,i64_w,i32_w]; rfl
                    refine take_ (i := 12) (N := some 68) (v := ?_) (a' := ?_) #[true,true,true,true,true,true,true,true,true,true,true,true,true,false,false,false,false] rfl rfl (take_ofW HT_.out HW_.out (by kernel_rfl)) (fun _ _ _ h => h) (Or.inl ⟨by rfl,?_⟩) hHeld ?_ ?_; rotate_left
                    · rintro w' ⟨s0,s1⟩; go_simp; with_reducible rfl
                    rotate_left
                    · simp only [Act.put,List.setIfInBounds_toArray,List.set_cons_zero,List.set_cons_succ,i64_w,i32_w]; rfl
                    refine pure_ (i := 13) (N := some 69) (v := ?_) (a' := ?_) #[true,true,true,true,true,true,true,true,true,true,true,true,true,true,false,false,false] rfl rfl (any_of HT_.out (by kernel_rfl)) (fun _ _ _ h => h) (Or.inl ⟨by rfl,?_⟩) ?_ ?_; rotate_left
                    · intro w'; go_simp; with_reducible rfl
                    rotate_left
                    · simp only [Act.put,List.setIfInBounds_toArray,List.set_cons_zero,List.set_cons_succ,i64_w,i32_w]; rfl
                    refine one_ (i := 14) (N := some 70) #[true,true,true,true,true,true,true,true,true,true,true,true,true,true,true,false,false] rfl rfl (one_of HT_.out (by kernel_rfl)) (by decide) (fun K hK => ?_); refine goes_ Tryz.func47 (by kernel_rfl) rfl #[.int .i64 (wrap64 ((rd x10_4 x42_3) + (rd x7_2 (ji33)))),.int .i64 1000000000000001] (by rfl) rfl rfl (by (try simp only [List.map_toArray,List.map_cons,List.map_nil]); first | done | (simp only [hji33]; rfl) | rfl | (simp only [List.length_drop,List.length_take]; rfl)) ?_; with_reducible refine (spec_l1Least.calls (wrap64 ((rd x10_4 x42_3) + (rd x7_2 (ji33)))) 1000000000000001 t112 _ A36.out).mono ?_
                    rintro e w' ⟨rfl,⟨nd,rfl⟩⟩; refine ⟨_,rfl,?_⟩; have p37 : 0 ≤ (x42_3 : Int) := zdd; have q37 : (x42_3 : Int) < ((x10_4.length : Int) : Int) := zdd; obtain ⟨go37,co37,eo37,gb37,gl37,cl37,HG37⟩ := Kd.R_form HO_10.out (by omega)
                    (first | cases eo37 | (injection eo37 with ea_ en_ ec_; (first | subst ea_ | (injection ea_ with ea_; subst ea_)); subst ec_; clear en_))
                    have GB37 := Aside0.mk gb37; have GG37 := Aside0.mk HG37; clear gb37 gl37 HG37
                    (first | simp only [add_plain] at hx110_0 | skip)
                    obtain ⟨hx37_0,hf37_0⟩ := Kd.R_celln 0 HO_10.out (x42_3 : Int) p37 q37; replace p37 := eq_true p37; replace q37 := eq_true q37; have HP40 := Kd.R_putn HO_10.out (x42_3 : Int) t112; rw [← Ny113.out] at HP40; have HQ40 := Aside0.mk HP40; clear HP40; refine hK.out _ _ ⟨hHeld.1,hHeld.2⟩ (fun hHeld => ?_); clear hK K; refine norm_ (a' := ?_) ?_ ?_; rotate_left
                    ·
                     show Act.put _ (some 70) _ = _
                     simp only [Act.put,List.setIfInBounds_toArray,List.set_cons_zero,List.set_cons_succ,i64_w,i32_w]; rfl
                    refine pure_ (i := 15) (N := some 71) (v := ?_) (a' := ?_) #[true,true,true,true,true,true,true,true,true,true,true,true,true,true,true,true,false] rfl rfl (any_of HT_.out (by kernel_rfl)) (fun _ _ _ h => h) (Or.inl ⟨by rfl,?_⟩) ?_ ?_; rotate_left
                    · intro w'; go_simp; with_reducible rfl
                    rotate_left
                    · simp only [Act.put,List.setIfInBounds_toArray,List.set_cons_zero,List.set_cons_succ,i64_w,i32_w]; rfl
                    refine last_ (i := 16) (N := none) #[true,true,true,true,true,true,true,true,true,true,true,true,true,true,true,true,true] rfl rfl (one_of HT_.out (by kernel_rfl)) (by decide) (fun K hK => ?_); refine skip_ (w1 := ?_) (by rfl) rfl ?_ ?_; rotate_left
                    · go_simp; rfl
                    refine hK.out _ _ ?_; clear hK K; refine done_ (done_of HT_.out (by kernel_rfl)) ?_; try go_wp2
                    (try simp only [← hl10_4])
                    go_roundg k4
                    case measure => have := HK1.out; have := HK2.out; have := HK3.out; have := HK4.out; omega
                    case rel => exact ⟨(y113),(wrap64 (x13_4 + 1)),zrs,H',⟨by have := HK1.out; have := HK2.out; have := HK3.out; have := HK4.out; omega⟩,⟨by (try simp only [hl7_1]); (try simp only [hl10_3]); (try simp only [hl10_4]); (with_reducible repeat (first | apply Kd.R_alloc | apply Kd.R_drewN | apply Kd.R_drew)); exact Kd.R_mono (Kd.R_far (p := ⟨go37,(x42_3 : Int).toNat,none⟩) (Kd.R_mono HO_7.out (fun k_ hk => (⟨hk,fun e_ => hk (by rw [e_]; rfl)⟩ : _ ∧ k_ ≠ go37))) (fun _ hk => hk.2) (.int .i64 t112)) (fun _ hk => hk.1)⟩,⟨by (try simp only [hl7_1]); (try simp only [hl10_3]); (try simp only [hl10_4]); (with_reducible repeat (first | apply Kd.S_alloc | apply Kd.S_drewN | apply Kd.S_drew)); exact Kd.S_mono (Kd.S_far (p := ⟨go37,(x42_3 : Int).toNat,none⟩) (Kd.S_mono HO_9.out (fun k_ hk => (⟨hk,fun e_ => hk (by rw [e_]; rfl)⟩ : _ ∧ k_ ≠ go37))) (fun _ hk => hk.2) (.int .i64 t112)) (fun _ hk => hk.1)⟩,⟨by (try simp only [hl7_1]); (try simp only [hl10_3]); (try simp only [hl10_4]); (with_reducible repeat (first | apply Kd.R_alloc | apply Kd.R_drewN | apply Kd.R_drew)); exact HQ40.out⟩,⟨by repeat (first | (with_reducible first | exact HB.out | apply below_alloc | apply pw_below_drewN | apply below_drew1 | refine below_set ?_ GB37.out) | exact HB.out)⟩⟩
                   · rw [if_neg c35] at H; exact absurd H (by simp)
                  · rw [if_neg c34] at H; exact absurd H (by simp)
                 · rw [if_neg c31] at H; exact absurd H (by simp)
                · rw [if_neg c30] at H; exact absurd H (by simp)
               · rw [if_neg c29] at H; exact absurd H (by simp)
              ·
               rw [if_neg c28] at H; have c28b0 : decide (x13_4 < (t109.size : Int)) = false := decide_eq_false c28; clear c28; have H' := Aside0.mk H; clear H; go_wp2
               (try simp only [← hl10_3,← hl10_4])
               go_roundg k4
               case measure => have := HK1.out; have := HK2.out; have := HK3.out; have := HK4.out; omega
               case rel => exact ⟨(x10_4),(wrap64 (x42_3 + 1)),zrs,H',⟨by have := HK1.out; have := HK2.out; have := HK3.out; have := HK4.out; omega⟩,⟨by (try simp only [hl7_1]); (try simp only [hl10_3]); (try simp only [hl10_4]); (with_reducible repeat (first | apply Kd.R_alloc | apply Kd.R_drewN | apply Kd.R_drew)); exact HO_7.out⟩,⟨by (try simp only [hl7_1]); (try simp only [hl10_3]); (try simp only [hl10_4]); (with_reducible repeat (first | apply Kd.S_alloc | apply Kd.S_drewN | apply Kd.S_drew)); exact HO_9.out⟩,⟨by (try simp only [hl7_1]); (try simp only [hl10_3]); (try simp only [hl10_4]); (with_reducible repeat (first | apply Kd.R_alloc | apply Kd.R_drewN | apply Kd.R_drew)); exact HO_10.out⟩,⟨zbw⟩⟩
           ·
            rw [if_neg c26] at H; have c26b0 : decide (x42_3 < (y106.length : Int)) = false := decide_eq_false c26
            (try (have c26b0_ := c26b0; rw [hl7_1] at c26b0_))
            (try (have c26b0_ := c26b0; rw [hl10_3] at c26b0_))
            (try rw [hl10_3] at c26b0)
            clear c26
            by_cases c9L : (x9_2.length : Int) < 1000000
            rotate_left
            · rw [if_neg c9L] at H; exact absurd H (by simp)
            rw [if_pos c9L] at H; have CL9 := Aside0.mk c9L; clear c9L; have H' := Aside0.mk H; clear H; go_wp2_with (first | ((with_reducible refine gate_builtin (b := .append) (xs := #[.tmp 74,.tmp 76]) rfl ?_); at_builtin; refine Kd.S_append (Kd.slice 3 (Kd.int .i64)) (w0 := w) w.heap.size rfl (.tmp 74) (.tmp 76) 64 53 (.slice none 0 0) 24 rfl Tryz.underlying64 info53 rfl (by decide) (by omega) u9 x9_2 x10_3 [.slice Ao25 x10_3.length co25] (fun _ => True) (fun k_ => some k_ = (.slice Ao25 x10_3.length co25 : Value).ownBlock) rfl rfl ?aP ?aK ?aF ?aO ?aB ?aS ?aL ?_; (case aP => exact ⟨_,rfl,Kd.R_tight rfl (by (with_reducible repeat (first | apply Kd.R_alloc | apply Kd.R_drewN | apply Kd.R_drew)); exact HO_10.out)⟩); (case aK => exact (fun k_ hk => ⟨trivial,((Kd.R_apartR (v := u9) HO_10.out (Kd.S_R HO_9.out) (by decide)).1 k_ hk.symm).2⟩)); (case aB => exact zbw); (case aF => exact (fun _ _ => trivial)); (case aO => exact (Kd.S_mono (by (with_reducible repeat (first | apply Kd.S_alloc | apply Kd.S_drewN | apply Kd.S_drew)); exact HO_9.out) (fun _ hk => ⟨trivial,hk⟩))); (case aS => exact (below_size zbw)); (case aL => have := CL9.out; omega); intro v110 w15 ho hb hg hat; have n7_ := Aside0.mk (Kd.R_over (by (with_reducible repeat (first | apply Kd.R_alloc | apply Kd.R_drewN | apply Kd.R_drew)); exact HO_10.out) (v := u9) (Kd.S_R (by (with_reducible repeat (first | apply Kd.S_alloc | apply Kd.S_drewN | apply Kd.S_drew)); exact HO_9.out)) (by decide) hg); have n0_ := Aside0.mk (hb); have n1_ := Aside0.mk (ho); clear HB HO_9 HO_10 HO_7; have HB := n0_; have HO_9 := n1_; have HO_7 := n7_; clear n0_ n1_ n7_; clear ho hb hg hat))
            (try simp only [← hl10_3])
            go_roundg k3
            case measure => have := HK1.out; have := HK2.out; have := HK3.out; omega
            case rel => exact ⟨(wrap64 (x1_2 - 1)),(x10_3),(x9_2 ++ [x10_3]),zrs,H',⟨by have := HK1.out; have := HK2.out; have := HK3.out; omega⟩,⟨by (try simp only [hl7_1]); (try simp only [hl10_3]); (with_reducible repeat (first | apply Kd.R_alloc | apply Kd.R_drewN | apply Kd.R_drew)); exact Kd.R_mono HO_7.out (fun _ hk => trivial)⟩,⟨by (try simp only [hl7_1]); (try simp only [hl10_3]); (with_reducible repeat (first | apply Kd.S_alloc | apply Kd.S_drewN | apply Kd.S_drew)); exact HO_9.out⟩,⟨zbw⟩⟩
        · rw [if_neg c22] at H; exact absurd H (by simp)
       ·
        rw [if_neg c21] at H; have c21b0 : decide (0 < x1_2) = false := decide_eq_false c21; clear c21; obtain rfl := Option.some.inj H; go_wp2
        go_ret
        exact ⟨_,by first | rfl | (simp [errW_none,errW_some] <;> rfl) | (simp [*,errW_none,errW_some] <;> rfl),by (with_reducible repeat (first | apply Kd.S_alloc | apply Kd.S_drewN | apply Kd.S_drew)); exact HO_9.out,zbw⟩
 · rw [if_neg c4] at H; exact absurd H (by simp)

end Go.Proofs.YtffbfkfbeggdnaaGreatDoor.P
-- printed by xprint.py
namespace Go.Proofs.YtffbfkfbeggdnaaGreatDoor.P
open Go.RowKit Go.Proofs.YtffbfkfbeggdnaaGreatDoorW.PrintWords Go.Proofs.YtffbfkfbeggdnaaGreatDoorW.PrintLast Go.Proofs.YtffbfkfbeggdnaaGreatDoorW.PrintMore
attribute [local go_sem] max2_int min2_int max_two min_two max_three min_three max_four min_four
set_option linter.unusedVariables false
set_option linter.unusedSimpArgs false

mutual
def spec_BusiestKey.j0 : Nat → ByteArray → Int → Bool → Option (ByteArray × Int × Bool)
 | 0,_,_,_ => none
 | k + 1,x0,x1,x18 => if x18 = true then (some ((⟨#[]⟩ : ByteArray),0,false)) else ((spec_wkTable.f k x0 (wrap64 (x1 - 1)) 0).bind fun t103 => (if 0 ≤ (wrap64 (x1 - 1)) then (if (wrap64 (x1 - 1)) < (t103.length : Int) then (spec_BusiestKey.l0 k (rd_L5 t103 (wrap64 (x1 - 1))) 0 (rd_L5 t103 (wrap64 (x1 - 1))) ((rd_L5 t103 (wrap64 (x1 - 1))).length : Int) 0) else (none)) else (none)))
def spec_BusiestKey.l0 : Nat → List Int → Int → List Int → Int → Int → Option (ByteArray × Int × Bool)
 | 0,_,_,_,_,_ => none
 | k + 1,x7,x8,x27,x28,x29 => if x29 < x28 then (if 0 ≤ x29 then (if x29 < (x27.length : Int) then (if 0 ≤ x8 then (if x8 < (x7.length : Int) then (if (rd x27 x29) > (rd x7 x8) then (spec_BusiestKey.l0 k x7 x29 x27 x28 (wrap64 (x29 + 1))) else (spec_BusiestKey.l0 k x7 x8 x27 x28 (wrap64 (x29 + 1)))) else (none)) else (none)) else (none)) else (none)) else (if 0 ≤ x8 then (if x8 < (x7.length : Int) then (if (rd x7 x8) > 1000000000000000 then (some ((⟨#[]⟩ : ByteArray),0,false)) else ((spec_l1Num.f k x8).bind fun t110 => (some (t110,rd x7 x8,true)))) else (none)) else (none))
end
def spec_BusiestKey.f (k : Nat) (a0 : ByteArray) (a1 : Int) : Option (ByteArray × Int × Bool) := (spec_wkPiece.f a0).bind fun t101 => (if t101 = true then ((spec_l1In.f a1 1 20).bind fun t102 => (spec_BusiestKey.j0 k a0 a1 (!t102))) else (spec_BusiestKey.j0 k a0 a1 true))
theorem spec_BusiestKey.mono_l : ∀ k,(∀ y0 y1 y2,LeO (spec_BusiestKey.j0 k y0 y1 y2) (spec_BusiestKey.j0 (k + 1) y0 y1 y2)) ∧ (∀ y0 y1 y2 y3 y4,LeO (spec_BusiestKey.l0 k y0 y1 y2 y3 y4) (spec_BusiestKey.l0 (k + 1) y0 y1 y2 y3 y4))
 | 0 => ⟨by intros; intro r h; simp [spec_BusiestKey.j0] at h,by intros; intro r h; simp [spec_BusiestKey.l0] at h⟩
 | k + 1 => by
  obtain ⟨ih0,ih1⟩ := spec_BusiestKey.mono_l k; refine ⟨?_,?_⟩
  ·
   intro y0 y1 y2
   unfold spec_BusiestKey.j0
   repeat' first
   | (with_reducible exact ih0 _ _ _)
   | (with_reducible exact ih1 _ _ _ _ _)
   | (with_reducible exact spec_l1Num.mono _ _)
   | (with_reducible exact spec_wkTable.mono _ _ _ _)
   | (with_reducible exact LeO.refl _)
   | (with_reducible exact LeO.none _)
   | (with_reducible refine LeO.ite ?_ ?_)
   | (with_reducible refine LeO.bind ?_ (fun _ => ?_))
   | exact ih0 _ _ _
   | exact ih1 _ _ _ _ _
   | exact spec_l1Num.mono _ _
   | exact spec_wkTable.mono _ _ _ _
   | exact LeO.none _
   | refine LeO.ite ?_ ?_
   | refine LeO.bind ?_ (fun _ => ?_)
  ·
   intro y0 y1 y2 y3 y4
   unfold spec_BusiestKey.l0
   repeat' first
   | (with_reducible exact ih0 _ _ _)
   | (with_reducible exact ih1 _ _ _ _ _)
   | (with_reducible exact spec_l1Num.mono _ _)
   | (with_reducible exact spec_wkTable.mono _ _ _ _)
   | (with_reducible exact LeO.refl _)
   | (with_reducible exact LeO.none _)
   | (with_reducible refine LeO.ite ?_ ?_)
   | (with_reducible refine LeO.bind ?_ (fun _ => ?_))
   | exact ih0 _ _ _
   | exact ih1 _ _ _ _ _
   | exact spec_l1Num.mono _ _
   | exact spec_wkTable.mono _ _ _ _
   | exact LeO.none _
   | refine LeO.ite ?_ ?_
   | refine LeO.bind ?_ (fun _ => ?_)
def spec_BusiestKey.T13 : Bool × List (List Nat × List Nat) := (true,[([],[]),([0],[0]),([],[]),([],[]),([2,3],[2,3]),([4],[4]),([1,1,0,1],[1]),([5,6,0,1,2,3,4,5,6],[5]),([7,0,1,2,3,4,5,6,7],[])])
def spec_BusiestKey.B13 : List Nat := [0,1,0,0,12,28,3,127,255]
theorem spec_BusiestKey.tab13 : rtab .any (opsOf Tryz.f26 13) = spec_BusiestKey.T13 := by kernel_rfl
theorem spec_BusiestKey.bits13 : waitsOk spec_BusiestKey.T13.2 spec_BusiestKey.B13 = true := by kernel_rfl
set_option maxHeartbeats 8000000 in
set_option maxRecDepth 100000 in
theorem spec_BusiestKey.calls (k : Nat) (a0 : ByteArray) (a1 : Int) (r1 : ByteArray) (r2 : Int) (r3 : Bool) (w : World) (h : spec_BusiestKey.f k a0 a1 = some (r1,r2,r3)) :
  Calls Tryz.prog 26 #[.string a0,.int .i64 a1] w fun e w' => e = .returned (.tuple #[.string r1,.int .i64 r2,.bool r3]) ∧ Below w.heap.size w w' := by
 have HB := Aside0.mk (Below.refl w.heap.size w); have H : ((spec_wkPiece.f a0).bind fun t101 => (if t101 = true then ((spec_l1In.f a1 1 20).bind fun t102 => (spec_BusiestKey.j0 k a0 a1 (!t102))) else (spec_BusiestKey.j0 k a0 a1 true))) = some (r1,r2,r3) := h; clear h; have HC3 := Aside0.mk H; clear H
 go_enter Tryz.func26,Tryz.ntmps26
 go_upto_region 1 with (fail)
 go_cut [18] (fun v18 wc => ∃ (kq : Nat) (x18_2 : Bool),v18 = .bool x18_2 ∧ Aside0 (spec_BusiestKey.j0 kq a0 a1 x18_2 = some (r1,r2,r3)) ∧ Aside0 (kq ≤ k) ∧ Aside0 (Below w.heap.size w wc))
 case first =>
  have H := HC3.out; clear HC3; replace H := Option.bind_eq_some_iff.mp H; obtain ⟨t101,A40,H⟩ := H; replace H : (if t101 = true then ((spec_l1In.f a1 1 20).bind fun t102 => (spec_BusiestKey.j0 k a0 a1 (!t102))) else (spec_BusiestKey.j0 k a0 a1 true)) = some (r1,r2,r3) := H; have A4 := Aside0.mk A40; clear A40
  by_cases c5 : t101 = true
  ·
   subst c5; have H1 : ((spec_l1In.f a1 1 20).bind fun t102 => (spec_BusiestKey.j0 k a0 a1 (!t102))) = some (r1,r2,r3) := by rw [if_pos rfl] at H; exact H
   clear H; have H := H1; clear H1; replace H := Option.bind_eq_some_iff.mp H; obtain ⟨t102,A60,H⟩ := H; replace H : (spec_BusiestKey.j0 k a0 a1 (!t102)) = some (r1,r2,r3) := H; have A6 := Aside0.mk A60; clear A60; have H' := Aside0.mk H; clear H; go_wp2_with (first | ((with_reducible refine gate_callee (f := 45) rfl ?_); refine goesL_ (some 12) rfl rfl Tryz.func45 (by kernel_rfl) rfl #[.string a0] rfl zrr ?_; (with_reducible refine (spec_wkPiece.calls a0 true _ A4.out).mono ?_); rintro e w' ⟨rfl,⟨nd,rfl⟩⟩; refine ⟨_,rfl,?_⟩) | (go_at_call 40; (with_reducible refine (spec_l1In.calls a1 1 20 t102 _ A6.out).mono ?_); rintro e w' ⟨rfl,⟨nd,rfl⟩⟩))
   go_meet
   case rel => exact ⟨_,(!t102),zrs,H',⟨by first | omega | exact Nat.le_refl _⟩,⟨zbw⟩⟩
  ·
   replace c5 := Bool.eq_false_iff.mpr c5; subst c5; have H1 : (spec_BusiestKey.j0 k a0 a1 true) = some (r1,r2,r3) := by rw [if_neg (show ¬ (false = true) by decide)] at H; exact H
   clear H; have H := H1; clear H1; have H' := Aside0.mk H; clear H; go_wp2_with (first | ((with_reducible refine gate_callee (f := 45) rfl ?_); refine goesL_ (some 12) rfl rfl Tryz.func45 (by kernel_rfl) rfl #[.string a0] rfl zrr ?_; (with_reducible refine (spec_wkPiece.calls a0 false _ A4.out).mono ?_); rintro e w' ⟨rfl,⟨nd,rfl⟩⟩; refine ⟨_,rfl,?_⟩))
   go_meet
   case rel => exact ⟨_,(true),zrs,H',⟨by first | omega | exact Nat.le_refl _⟩,⟨zbw⟩⟩
 case rest =>
  clear HC3; try clear c2
  try clear p2
  try clear c4
  try clear c5
  obtain ⟨kq,x18_2,rfl,HA,HJ2,HB⟩ := hcut
  cases kq with
  | zero => exact absurd HA.out (by simp [spec_BusiestKey.j0])
  | succ kj2 =>
   have H := HA.out; clear HA; simp only [spec_BusiestKey.j0] at H
   by_cases c7 : x18_2 = true
   ·
    subst c7; have H1 : (some ((⟨#[]⟩ : ByteArray),0,false)) = some (r1,r2,r3) := by rw [if_pos rfl] at H; exact H
    clear H; have H := H1; clear H1; simp only [Option.some.injEq,Prod.mk.injEq] at H; obtain ⟨rfl,rfl,rfl⟩ := H; go_wp2
    go_ret3
    exact ⟨zer,zbw⟩
   ·
    replace c7 := Bool.eq_false_iff.mpr c7; subst c7; have H1 : ((spec_wkTable.f kj2 a0 (wrap64 (a1 - 1)) 0).bind fun t103 => (if 0 ≤ (wrap64 (a1 - 1)) then (if (wrap64 (a1 - 1)) < (t103.length : Int) then (spec_BusiestKey.l0 kj2 (rd_L5 t103 (wrap64 (a1 - 1))) 0 (rd_L5 t103 (wrap64 (a1 - 1))) ((rd_L5 t103 (wrap64 (a1 - 1))).length : Int) 0) else (none)) else (none))) = some (r1,r2,r3) := by rw [if_neg (show ¬ (false = true) by decide)] at H; exact H
    clear H; have H := H1; clear H1; replace H := Option.bind_eq_some_iff.mp H; obtain ⟨t103,A80,H⟩ := H; replace H : (if 0 ≤ (wrap64 (a1 - 1)) then (if (wrap64 (a1 - 1)) < (t103.length : Int) then (spec_BusiestKey.l0 kj2 (rd_L5 t103 (wrap64 (a1 - 1))) 0 (rd_L5 t103 (wrap64 (a1 - 1))) ((rd_L5 t103 (wrap64 (a1 - 1))).length : Int) 0) else (none)) else (none)) = some (r1,r2,r3) := H; have A8 := Aside0.mk A80; clear A80; obtain ⟨ji9,hji9⟩ : ∃ j_ : Int,(wrap64 (a1 - 1)) = j_ := ⟨_,rfl⟩; replace H : (if 0 ≤ (ji9) then (if (ji9) < (t103.length : Int) then (spec_BusiestKey.l0 kj2 (rd_L5 t103 (ji9)) 0 (rd_L5 t103 (ji9)) ((rd_L5 t103 (ji9)).length : Int) 0) else (none)) else (none)) = some (r1,r2,r3) := by first | (rw [hji9] at H; exact H) | (simp only [hji9] at H ⊢; exact H)
    (try rw [hji9] at A8)
    have hji9w : (IntKind.i64.wrap (a1 - 1)) = ji9 := (i64_w _).trans hji9
    by_cases c10 : 0 ≤ (ji9)
    ·
     rw [if_pos c10] at H; have c10b0 : decide (0 ≤ (ji9)) = true := decide_eq_true c10; clear c10
     by_cases c11 : (ji9) < (t103.length : Int)
     ·
      rw [if_pos c11] at H; have c11b0 : decide ((ji9) < (t103.length : Int)) = true := decide_eq_true c11; clear c11; have H' := Aside0.mk H; clear H; go_wp2_with (first | ((with_reducible refine gate_callee (f := 46) rfl ?_); refine goesL_ (some 22) rfl rfl Tryz.func46 (by kernel_rfl) rfl #[.string a0,.int .i64 ji9,.int .u8 0] rfl (by (try simp only [List.map_toArray,List.map_cons,List.map_nil]); first | done | (simp only [hji9]; rfl) | rfl | (simp only [List.length_drop,List.length_take]; rfl)) ?_; (with_reducible refine (spec_wkTable.calls kj2 a0 ji9 0 t103 _ A8.out).mono ?_); rintro e w12 ⟨v104,rfl,ho0,hb⟩; refine ⟨_,rfl,?_⟩; have n0_ := Aside0.mk (Kd.S_lower ho0 (below_size zbw)); have n1_ := Aside0.mk (below_step zbw hb); clear HB; have HO105 := n0_; have HB := n1_; clear n0_ n1_; (try clear hb); (try clear hb2); (try clear hk); (try clear hi); (try clear ho0); obtain ⟨Ao13,co13,eo13⟩ := Kd.S_slice HO105.out; subst eo13; have p106 : 0 ≤ ((ji9) : Int) := zdd; have q106 : (ji9) < (t103.length : Int) := zdd; obtain ⟨ad106,A106_0,c106_0,e106,hx106_0,hl106_0,hi106_0⟩ := at_L5 (Kd.S_reads' HO105.out).2.2 (ji9) p106 q106; cases e106; obtain ⟨ce106,hce106,hMe106,hcc106⟩ := Kd.S_get HO105.out [] (ji9) p106 (by first | exact q106 | exact zdd | (have e_ := (Kd.S_reads' HO105.out).1; omega)); obtain ⟨ve106_0,rfl,ge106_0⟩ := hMe106; have hv106_0 := hcc106 0 _ rfl; rw [Nat.add_zero,show ((Kd.slice 3 (Kd.int .i64))).sz = 1 from rfl,Nat.mul_one] at hv106_0; replace hv106_0 := Option.some.inj (hv106_0.symm.trans hx106_0); rw [hv106_0] at ge106_0; have HL106_0 := Aside0.mk (show Kd.R (Kd.int .i64) 3 _ _ _ _ (rd_L5 t103 (ji9)) from ge106_0); clear hv106_0 ge106_0; clear hcc106 hce106; have HR106_0 := Aside0.mk hi106_0; have HC106_0 := Aside0.mk hl106_0; clear hi106_0 hl106_0; replace p106 := eq_true p106; replace q106 := eq_true q106))
      go_loopg [8,29] kj2 (fun kq v8 v29 w' => ∃ (x8_2 : Int) (x29_2 : Int),v8 = .int .i64 x8_2 ∧ v29 = .int .i64 x29_2 ∧ Aside0 (spec_BusiestKey.l0 kq (rd_L5 t103 (ji9)) x8_2 (rd_L5 t103 (ji9)) ((rd_L5 t103 (ji9)).length : Int) x29_2 = some (r1,r2,r3)) ∧ Aside0 (kq ≤ kj2) ∧ Aside0 (Kd.C (Kd.int .i64) w' A106_0 (rd_L5 t103 (ji9)).length (rd_L5 t103 (ji9))) ∧ Aside0 (Below w.heap.size w w'))
      case atStart => exact ⟨(0),(0),zrs,zrs,H',⟨Nat.le_refl _⟩,⟨by repeat (first | (with_reducible exact HR106_0.out) | (with_reducible refine Kd.C_alloc ?_ _) | (with_reducible refine Kd.C_drewN ?_ _) | (with_reducible refine Kd.C_drew ?_) | exact HR106_0.out)⟩,⟨zbw⟩⟩
      case round =>
       clear H'; try clear c1
       try clear p1
       try clear q1
       try clear hx1
       try clear c2
       try clear p2
       try clear c4
       try clear c5
       try clear p6
       try clear c7
       try clear c10
       try clear c10b0
       try clear p10
       try clear q10
       try clear hx10
       try clear c11
       try clear c11b0
       try clear hx106_0
       try clear p106
       try clear p2
       try clear q106
       obtain ⟨x8_2,x29_2,rfl,rfl,HA,HK2,HR106_0,HB⟩ := hrel
       cases gk with
       | zero => exact absurd HA.out (by simp [spec_BusiestKey.l0])
       | succ k2 =>
        have H := HA.out; clear HA; simp only [spec_BusiestKey.l0] at H
        by_cases c14 : x29_2 < ((rd_L5 t103 (ji9)).length : Int)
        ·
         rw [if_pos c14] at H; have c14b0 : decide (x29_2 < ((rd_L5 t103 (ji9)).length : Int)) = true := decide_eq_true c14; clear c14
         by_cases c15 : 0 ≤ x29_2
         ·
          rw [if_pos c15] at H; have c15b0 : decide (0 ≤ x29_2) = true := decide_eq_true c15; clear c15
          by_cases c16 : x29_2 < ((rd_L5 t103 (ji9)).length : Int)
          ·
           rw [if_pos c16] at H; have c16b0 : decide (x29_2 < ((rd_L5 t103 (ji9)).length : Int)) = true := decide_eq_true c16; clear c16
           by_cases c17 : 0 ≤ x8_2
           ·
            rw [if_pos c17] at H; have c17b0 : decide (0 ≤ x8_2) = true := decide_eq_true c17; clear c17
            by_cases c18 : x8_2 < ((rd_L5 t103 (ji9)).length : Int)
            ·
             rw [if_pos c18] at H; have c18b0 : decide (x8_2 < ((rd_L5 t103 (ji9)).length : Int)) = true := decide_eq_true c18; clear c18
             by_cases c19 : (rd (rd_L5 t103 (ji9)) x29_2) > (rd (rd_L5 t103 (ji9)) x8_2)
             ·
              rw [if_pos c19] at H; have c19b0 : decide ((rd (rd_L5 t103 (ji9)) x8_2) < (rd (rd_L5 t103 (ji9)) x29_2)) = true := decide_eq_true c19; clear c19; have H' := Aside0.mk H; clear H; have p107 : 0 ≤ (x29_2 : Int) := zdd; have q107 : x29_2 < ((rd_L5 t103 (ji9)).length : Int) := zdd; obtain ⟨ad107,e107,hx107_0⟩ := Kd.at_int HR106_0.out x29_2 p107 q107
              cases e107
              (try replace hx107_0 := (HB.out.cell (World.block_lt_of_cell? w _ hx107_0)).trans hx107_0)
              replace p107 := eq_true p107; replace q107 := eq_true q107; have p108 : 0 ≤ (x8_2 : Int) := zdd; have q108 : x8_2 < ((rd_L5 t103 (ji9)).length : Int) := zdd; obtain ⟨ad108,e108,hx108_0⟩ := Kd.at_int HR106_0.out x8_2 p108 q108; obtain rfl : ad107 = ad108 := (by injection e108)
              (try replace hx108_0 := (HB.out.cell (World.block_lt_of_cell? w _ hx108_0)).trans hx108_0)
              replace p108 := eq_true p108; replace q108 := eq_true q108; go_wp2
              go_roundg k2
              case measure => have := HJ2.out; have := HK2.out; omega
              case rel => exact ⟨(x29_2),(wrap64 (x29_2 + 1)),zrs,zrs,H',⟨by have := HJ2.out; have := HK2.out; omega⟩,⟨by repeat (first | (with_reducible exact HR106_0.out) | (with_reducible refine Kd.C_alloc ?_ _) | (with_reducible refine Kd.C_drewN ?_ _) | (with_reducible refine Kd.C_drew ?_) | exact HR106_0.out)⟩,⟨zbw⟩⟩
             ·
              rw [if_neg c19] at H; have c19b0 : decide ((rd (rd_L5 t103 (ji9)) x8_2) < (rd (rd_L5 t103 (ji9)) x29_2)) = false := decide_eq_false c19; clear c19; have H' := Aside0.mk H; clear H; have p107 : 0 ≤ (x29_2 : Int) := zdd; have q107 : x29_2 < ((rd_L5 t103 (ji9)).length : Int) := zdd; obtain ⟨ad107,e107,hx107_0⟩ := Kd.at_int HR106_0.out x29_2 p107 q107
              cases e107
              (try replace hx107_0 := (HB.out.cell (World.block_lt_of_cell? w _ hx107_0)).trans hx107_0)
              replace p107 := eq_true p107; replace q107 := eq_true q107; have p108 : 0 ≤ (x8_2 : Int) := zdd; have q108 : x8_2 < ((rd_L5 t103 (ji9)).length : Int) := zdd; obtain ⟨ad108,e108,hx108_0⟩ := Kd.at_int HR106_0.out x8_2 p108 q108; obtain rfl : ad107 = ad108 := (by injection e108)
              (try replace hx108_0 := (HB.out.cell (World.block_lt_of_cell? w _ hx108_0)).trans hx108_0)
              replace p108 := eq_true p108; replace q108 := eq_true q108; go_wp2
              go_roundg k2
              case measure => have := HJ2.out; have := HK2.out; omega
              case rel => exact ⟨(x8_2),(wrap64 (x29_2 + 1)),zrs,zrs,H',⟨by have := HJ2.out; have := HK2.out; omega⟩,⟨by repeat (first | (with_reducible exact HR106_0.out) | (with_reducible refine Kd.C_alloc ?_ _) | (with_reducible refine Kd.C_drewN ?_ _) | (with_reducible refine Kd.C_drew ?_) | exact HR106_0.out)⟩,⟨zbw⟩⟩
            · rw [if_neg c18] at H; exact absurd H (by simp)
           · rw [if_neg c17] at H; exact absurd H (by simp)
          · rw [if_neg c16] at H; exact absurd H (by simp)
         · rw [if_neg c15] at H; exact absurd H (by simp)
        ·
         rw [if_neg c14] at H; have c14b0 : decide (x29_2 < ((rd_L5 t103 (ji9)).length : Int)) = false := decide_eq_false c14; clear c14
         by_cases c20 : 0 ≤ x8_2
         ·
          rw [if_pos c20] at H; have c20b0 : decide (0 ≤ x8_2) = true := decide_eq_true c20; clear c20
          by_cases c21 : x8_2 < ((rd_L5 t103 (ji9)).length : Int)
          ·
           rw [if_pos c21] at H; have c21b0 : decide (x8_2 < ((rd_L5 t103 (ji9)).length : Int)) = true := decide_eq_true c21; clear c21
           by_cases c22 : (rd (rd_L5 t103 (ji9)) x8_2) > 1000000000000000
           ·
            rw [if_pos c22] at H; have c22b0 : decide (1000000000000000 < (rd (rd_L5 t103 (ji9)) x8_2)) = true := decide_eq_true c22; clear c22; simp only [Option.some.injEq,Prod.mk.injEq] at H; obtain ⟨rfl,rfl,rfl⟩ := H; have p109 : 0 ≤ (x8_2 : Int) := zdd; have q109 : x8_2 < ((rd_L5 t103 (ji9)).length : Int) := zdd; obtain ⟨ad109,e109,hx109_0⟩ := Kd.at_int HR106_0.out x8_2 p109 q109
            cases e109
            (try replace hx109_0 := (HB.out.cell (World.block_lt_of_cell? w _ hx109_0)).trans hx109_0)
            replace p109 := eq_true p109; replace q109 := eq_true q109; go_wp2
            go_ret3
            exact ⟨by first | rfl | (simp [errW_none,errW_some] <;> rfl) | (simp only [← hji9]; first | rfl | (simp [errW_none,errW_some] <;> rfl)) | (simp [*,errW_none,errW_some] <;> rfl),zbw⟩
           ·
            rw [if_neg c22] at H; have c22b0 : decide (1000000000000000 < (rd (rd_L5 t103 (ji9)) x8_2)) = false := decide_eq_false c22; clear c22; replace H := Option.bind_eq_some_iff.mp H; obtain ⟨t110,A230,H⟩ := H; replace H : (some (t110,rd (rd_L5 t103 (ji9)) x8_2,true)) = some (r1,r2,r3) := H; have A23 := Aside0.mk A230; clear A230; simp only [Option.some.injEq,Prod.mk.injEq] at H; obtain ⟨rfl,rfl,rfl⟩ := H; have p109 : 0 ≤ (x8_2 : Int) := zdd; have q109 : x8_2 < ((rd_L5 t103 (ji9)).length : Int) := zdd; obtain ⟨ad109,e109,hx109_0⟩ := Kd.at_int HR106_0.out x8_2 p109 q109
            cases e109
            (try replace hx109_0 := (HB.out.cell (World.block_lt_of_cell? w _ hx109_0)).trans hx109_0)
            replace p109 := eq_true p109; replace q109 := eq_true q109; try go_wp2
            have n0_ := Aside0.mk (Kd.C_drew HR106_0.out); have n1_ := Aside0.mk (below_drew1 HB.out); clear HR106_0; clear HB; have HR106_0 := n0_; have HB := n1_; clear n0_ n1_; have p111 : 0 ≤ (x8_2 : Int) := zdd; have q111 : x8_2 < ((rd_L5 t103 (ji9)).length : Int) := zdd; obtain ⟨ad111,e111,hx111_0⟩ := Kd.at_int HR106_0.out x8_2 p111 q111; have hw111_0 := hx111_0; obtain rfl : ad109 = ad111 := (by injection e111)
            (try replace hx111_0 := (HB.out.cell (World.block_lt_of_cell? w _ hx111_0)).trans hx111_0)
            replace p111 := eq_true p111; replace q111 := eq_true q111; refine start_ (n := 9) (S := fun w' => w'.cell? (ad109.add (x8_2).toNat) = some (.int .i64 (rd (rd_L5 t103 (ji9)) x8_2))) (ds := []) #[false,false,false,false,false,false,false,false,false] (by kernel_rfl) rfl rfl ((by first | exact ((HB.out.cell (World.block_lt_of_cell? w _ hw111_0)).trans hw111_0) | exact hw111_0)) (fun hHeld => ?_); refine with_tabW spec_BusiestKey.tab13 spec_BusiestKey.bits13 (fun HT_ HW_ => ?_)
            generalize wr.drew = w24 at HR106_0 HB hx111_0 hHeld ⊢; refine pure_ (i := 0) (N := some 47) (v := ?_) (a' := ?_) #[true,false,false,false,false,false,false,false,false] rfl rfl (any_of HT_.out (by kernel_rfl)) (fun _ _ _ h => h) (Or.inl ⟨by rfl,?_⟩) ?_ ?_; rotate_left
            · intro w'; go_simp; with_reducible rfl
            rotate_left
            · simp only [Act.put,List.setIfInBounds_toArray,List.set_cons_zero,List.set_cons_succ,i64_w,i32_w]; rfl
            refine pure_ (i := 2) (N := some 49) (v := ?_) (a' := ?_) #[true,false,true,false,false,false,false,false,false] rfl rfl (any_of HT_.out (by kernel_rfl)) (fun _ _ _ h => h) (Or.inl ⟨by rfl,?_⟩) ?_ ?_; rotate_left
            · intro w'; go_simp; with_reducible rfl
            rotate_left
            · simp only [Act.put,List.setIfInBounds_toArray,List.set_cons_zero,List.set_cons_succ,i64_w,i32_w]; rfl
            refine pure_ (i := 3) (N := some 50) (v := ?_) (a' := ?_) #[true,false,true,true,false,false,false,false,false] rfl rfl (any_of HT_.out (by kernel_rfl)) (fun _ _ _ h => h) (Or.inl ⟨by rfl,?_⟩) ?_ ?_; rotate_left
            · intro w'; go_simp; with_reducible rfl
            rotate_left
            · simp only [Act.put,List.setIfInBounds_toArray,List.set_cons_zero,List.set_cons_succ,i64_w,i32_w]; rfl
            refine pure_ (i := 4) (N := some 51) (v := ?_) (a' := ?_) #[true,false,true,true,true,false,false,false,false] rfl rfl (any_of HT_.out (by kernel_rfl)) (fun _ _ _ h => h) (Or.inl ⟨by rfl,?_⟩) ?_ ?_; rotate_left
            · intro w'; go_simp; with_reducible rfl
            rotate_left
            · simp only [Act.put,List.setIfInBounds_toArray,List.set_cons_zero,List.set_cons_succ,i64_w,i32_w]; rfl
            refine take_ (i := 5) (N := some 52) (v := ?_) (a' := ?_) #[true,false,true,true,true,true,false,false,false] rfl rfl (take_ofW HT_.out HW_.out (by kernel_rfl)) (fun _ _ _ h => h) (Or.inl ⟨by rfl,?_⟩) hHeld ?_ ?_; rotate_left
            · intro w' s0; go_simp; with_reducible rfl
            rotate_left
            · simp only [Act.put,List.setIfInBounds_toArray,List.set_cons_zero,List.set_cons_succ,i64_w,i32_w]; rfl
            refine one_ (i := 1) (N := some 48) #[true,true,true,true,true,true,false,false,false] rfl rfl (one_of HT_.out (by kernel_rfl)) (by decide) (fun K hK => ?_); refine goes_ Tryz.func58 (by kernel_rfl) rfl #[.int .i64 x8_2] (by rfl) rfl rfl zrr ?_; with_reducible refine (spec_l1Num.calls k2 x8_2 t110 _ A23.out).mono ?_
            rintro e w25 ⟨rfl,hb⟩; refine ⟨_,rfl,?_⟩; have n0_ := Aside0.mk (Kd.C_below (by repeat (first | (with_reducible exact HR106_0.out) | (with_reducible refine Kd.C_alloc ?_ _) | (with_reducible refine Kd.C_drewN ?_ _) | (with_reducible refine Kd.C_drew ?_) | exact HR106_0.out)) hb); have n1_ := Aside0.mk (below_step zbw hb); clear HR106_0; clear HB; have HR106_0 := n0_; have HB := n1_; clear n0_ n1_
            (try clear hb)
            (try clear hb2)
            (try clear hk)
            (try clear hi)
            refine hK.out _ _ (by obtain ⟨a_,e_,h_⟩ := Kd.at_int HR106_0.out x8_2 (of_eq_true p111) (of_eq_true q111); obtain rfl : ad109 = a_ := (by injection e_); exact h_) (fun hHeld => ?_); clear hK K; refine norm_ (a' := ?_) ?_ ?_; rotate_left
            ·
             show Act.put _ (some 48) _ = _
             simp only [Act.put,List.setIfInBounds_toArray,List.set_cons_zero,List.set_cons_succ,i64_w,i32_w]; rfl
            refine pure_ (i := 6) (N := some 4) (v := ?_) (a' := ?_) #[true,true,true,true,true,true,true,false,false] rfl rfl (any_of HT_.out (by kernel_rfl)) (fun _ _ _ h => h) (Or.inl ⟨by rfl,?_⟩) ?_ ?_; rotate_left
            · intro w'; go_simp; with_reducible rfl
            rotate_left
            · simp only [Act.put,List.setIfInBounds_toArray,List.set_cons_zero,List.set_cons_succ,i64_w,i32_w]; rfl
            refine pure_ (i := 7) (N := some 5) (v := ?_) (a' := ?_) #[true,true,true,true,true,true,true,true,false] rfl rfl (any_of HT_.out (by kernel_rfl)) (fun _ _ _ h => h) (Or.inl ⟨by rfl,?_⟩) ?_ ?_; rotate_left
            · intro w'; go_simp; with_reducible rfl
            rotate_left
            · simp only [Act.put,List.setIfInBounds_toArray,List.set_cons_zero,List.set_cons_succ,i64_w,i32_w]; rfl
            refine pure_ (i := 8) (N := some 6) (v := ?_) (a' := ?_) #[true,true,true,true,true,true,true,true,true] rfl rfl (any_of HT_.out (by kernel_rfl)) (fun _ _ _ h => h) (Or.inl ⟨by rfl,?_⟩) ?_ ?_; rotate_left
            · intro w'; go_simp; with_reducible rfl
            rotate_left
            · simp only [Act.put,List.setIfInBounds_toArray,List.set_cons_zero,List.set_cons_succ,i64_w,i32_w]; rfl
            refine done_ (done_of HT_.out (by kernel_rfl)) ?_; try go_wp2
            go_ret3
            exact ⟨by first | rfl | (simp [errW_none,errW_some] <;> rfl) | (simp only [← hji9]; first | rfl | (simp [errW_none,errW_some] <;> rfl)) | (simp [*,errW_none,errW_some] <;> rfl),zbw⟩
          · rw [if_neg c21] at H; exact absurd H (by simp)
         · rw [if_neg c20] at H; exact absurd H (by simp)
     · rw [if_neg c11] at H; exact absurd H (by simp)
    · rw [if_neg c10] at H; exact absurd H (by simp)

end Go.Proofs.YtffbfkfbeggdnaaGreatDoor.P
-- printed by xprint.py
namespace Go.Proofs.YtffbfkfbeggdnaaGreatDoor.P
open Go.RowKit Go.Proofs.YtffbfkfbeggdnaaGreatDoorW.PrintWords Go.Proofs.YtffbfkfbeggdnaaGreatDoorW.PrintLast Go.Proofs.YtffbfkfbeggdnaaGreatDoorW.PrintMore
attribute [local go_sem] max2_int min2_int max_two min_two max_three min_three max_four min_four
set_option linter.unusedVariables false
set_option linter.unusedSimpArgs false

mutual
def spec_CountAllNumbers.j0 : Nat → ByteArray → Int → Bool → Option (Int × Bool)
 | 0,_,_,_ => none
 | k + 1,x0,x1,x16 => if x16 = true then (some (0,false)) else ((spec_wkTable.f k x0 (wrap64 (x1 - 1)) 0).bind fun t103 => (if 0 ≤ (wrap64 (x1 - 1)) then (if (wrap64 (x1 - 1)) < (t103.length : Int) then (spec_CountAllNumbers.l0 k 0 (rd_L5 t103 (wrap64 (x1 - 1))) ((rd_L5 t103 (wrap64 (x1 - 1))).length : Int) 0) else (none)) else (none)))
def spec_CountAllNumbers.l0 : Nat → Int → List Int → Int → Int → Option (Int × Bool)
 | 0,_,_,_,_ => none
 | k + 1,x6,x24,x25,x26 => if x26 < x25 then (if 0 ≤ x26 then (if x26 < (x24.length : Int) then ((spec_l1Least.f (wrap64 (x6 + (rd x24 x26))) 1000000000000001).bind fun t108 => (spec_CountAllNumbers.l0 k t108 x24 x25 (wrap64 (x26 + 1)))) else (none)) else (none)) else (if x6 > 1000000000000000 then (some (0,false)) else (some (x6,true)))
end
def spec_CountAllNumbers.f (k : Nat) (a0 : ByteArray) (a1 : Int) : Option (Int × Bool) := (spec_wkPiece.f a0).bind fun t101 => (if t101 = true then ((spec_l1In.f a1 1 40).bind fun t102 => (spec_CountAllNumbers.j0 k a0 a1 (!t102))) else (spec_CountAllNumbers.j0 k a0 a1 true))
theorem spec_CountAllNumbers.mono_l : ∀ k,(∀ y0 y1 y2,LeO (spec_CountAllNumbers.j0 k y0 y1 y2) (spec_CountAllNumbers.j0 (k + 1) y0 y1 y2)) ∧ (∀ y0 y1 y2 y3,LeO (spec_CountAllNumbers.l0 k y0 y1 y2 y3) (spec_CountAllNumbers.l0 (k + 1) y0 y1 y2 y3))
 | 0 => ⟨by intros; intro r h; simp [spec_CountAllNumbers.j0] at h,by intros; intro r h; simp [spec_CountAllNumbers.l0] at h⟩
 | k + 1 => by
  obtain ⟨ih0,ih1⟩ := spec_CountAllNumbers.mono_l k; refine ⟨?_,?_⟩
  ·
   intro y0 y1 y2
   unfold spec_CountAllNumbers.j0
   repeat' first
   | (with_reducible exact ih0 _ _ _)
   | (with_reducible exact ih1 _ _ _ _)
   | (with_reducible exact spec_wkTable.mono _ _ _ _)
   | (with_reducible exact LeO.refl _)
   | (with_reducible exact LeO.none _)
   | (with_reducible refine LeO.ite ?_ ?_)
   | (with_reducible refine LeO.bind ?_ (fun _ => ?_))
   | exact ih0 _ _ _
   | exact ih1 _ _ _ _
   | exact spec_wkTable.mono _ _ _ _
   | exact LeO.none _
   | refine LeO.ite ?_ ?_
   | refine LeO.bind ?_ (fun _ => ?_)
  ·
   intro y0 y1 y2 y3
   unfold spec_CountAllNumbers.l0
   repeat' first
   | (with_reducible exact ih0 _ _ _)
   | (with_reducible exact ih1 _ _ _ _)
   | (with_reducible exact spec_wkTable.mono _ _ _ _)
   | (with_reducible exact LeO.refl _)
   | (with_reducible exact LeO.none _)
   | (with_reducible refine LeO.ite ?_ ?_)
   | (with_reducible refine LeO.bind ?_ (fun _ => ?_))
   | exact ih0 _ _ _
   | exact ih1 _ _ _ _
   | exact spec_wkTable.mono _ _ _ _
   | exact LeO.none _
   | refine LeO.ite ?_ ?_
   | refine LeO.bind ?_ (fun _ => ?_)
set_option maxHeartbeats 8000000 in
set_option maxRecDepth 100000 in
theorem spec_CountAllNumbers.calls (k : Nat) (a0 : ByteArray) (a1 : Int) (r1 : Int) (r2 : Bool) (w : World) (h : spec_CountAllNumbers.f k a0 a1 = some (r1,r2)) :
  Calls Tryz.prog 11 #[.string a0,.int .i64 a1] w fun e w' => e = .returned (.tuple #[.int .i64 r1,.bool r2]) ∧ Below w.heap.size w w' := by
 have HB := Aside0.mk (Below.refl w.heap.size w); have H : ((spec_wkPiece.f a0).bind fun t101 => (if t101 = true then ((spec_l1In.f a1 1 40).bind fun t102 => (spec_CountAllNumbers.j0 k a0 a1 (!t102))) else (spec_CountAllNumbers.j0 k a0 a1 true))) = some (r1,r2) := h; clear h; have HC3 := Aside0.mk H; clear H
 go_enter Tryz.func11,Tryz.ntmps11
 go_upto_region 1 with (fail)
 go_cut [16] (fun v16 wc => ∃ (kq : Nat) (x16_2 : Bool),v16 = .bool x16_2 ∧ Aside0 (spec_CountAllNumbers.j0 kq a0 a1 x16_2 = some (r1,r2)) ∧ Aside0 (kq ≤ k) ∧ Aside0 (Below w.heap.size w wc))
 case first =>
  have H := HC3.out; clear HC3; replace H := Option.bind_eq_some_iff.mp H; obtain ⟨t101,A40,H⟩ := H; replace H : (if t101 = true then ((spec_l1In.f a1 1 40).bind fun t102 => (spec_CountAllNumbers.j0 k a0 a1 (!t102))) else (spec_CountAllNumbers.j0 k a0 a1 true)) = some (r1,r2) := H; have A4 := Aside0.mk A40; clear A40
  by_cases c5 : t101 = true
  ·
   subst c5; have H1 : ((spec_l1In.f a1 1 40).bind fun t102 => (spec_CountAllNumbers.j0 k a0 a1 (!t102))) = some (r1,r2) := by rw [if_pos rfl] at H; exact H
   clear H; have H := H1; clear H1; replace H := Option.bind_eq_some_iff.mp H; obtain ⟨t102,A60,H⟩ := H; replace H : (spec_CountAllNumbers.j0 k a0 a1 (!t102)) = some (r1,r2) := H; have A6 := Aside0.mk A60; clear A60; have H' := Aside0.mk H; clear H; go_wp2_with (first | ((with_reducible refine gate_callee (f := 45) rfl ?_); refine goesL_ (some 10) rfl rfl Tryz.func45 (by kernel_rfl) rfl #[.string a0] rfl zrr ?_; (with_reducible refine (spec_wkPiece.calls a0 true _ A4.out).mono ?_); rintro e w' ⟨rfl,⟨nd,rfl⟩⟩; refine ⟨_,rfl,?_⟩) | (go_at_call 40; (with_reducible refine (spec_l1In.calls a1 1 40 t102 _ A6.out).mono ?_); rintro e w' ⟨rfl,⟨nd,rfl⟩⟩))
   go_meet
   case rel => exact ⟨_,(!t102),zrs,H',⟨by first | omega | exact Nat.le_refl _⟩,⟨zbw⟩⟩
  ·
   replace c5 := Bool.eq_false_iff.mpr c5; subst c5; have H1 : (spec_CountAllNumbers.j0 k a0 a1 true) = some (r1,r2) := by rw [if_neg (show ¬ (false = true) by decide)] at H; exact H
   clear H; have H := H1; clear H1; have H' := Aside0.mk H; clear H; go_wp2_with (first | ((with_reducible refine gate_callee (f := 45) rfl ?_); refine goesL_ (some 10) rfl rfl Tryz.func45 (by kernel_rfl) rfl #[.string a0] rfl zrr ?_; (with_reducible refine (spec_wkPiece.calls a0 false _ A4.out).mono ?_); rintro e w' ⟨rfl,⟨nd,rfl⟩⟩; refine ⟨_,rfl,?_⟩))
   go_meet
   case rel => exact ⟨_,(true),zrs,H',⟨by first | omega | exact Nat.le_refl _⟩,⟨zbw⟩⟩
 case rest =>
  clear HC3; try clear c1
  try clear p2
  try clear c4
  try clear c5
  obtain ⟨kq,x16_2,rfl,HA,HJ2,HB⟩ := hcut
  cases kq with
  | zero => exact absurd HA.out (by simp [spec_CountAllNumbers.j0])
  | succ kj2 =>
   have H := HA.out; clear HA; simp only [spec_CountAllNumbers.j0] at H
   by_cases c7 : x16_2 = true
   ·
    subst c7; have H1 : (some (0,false)) = some (r1,r2) := by rw [if_pos rfl] at H; exact H
    clear H; have H := H1; clear H1; simp only [Option.some.injEq,Prod.mk.injEq] at H; obtain ⟨rfl,rfl⟩ := H; go_wp2
    go_ret2
    exact ⟨zer,zbw⟩
   ·
    replace c7 := Bool.eq_false_iff.mpr c7; subst c7; have H1 : ((spec_wkTable.f kj2 a0 (wrap64 (a1 - 1)) 0).bind fun t103 => (if 0 ≤ (wrap64 (a1 - 1)) then (if (wrap64 (a1 - 1)) < (t103.length : Int) then (spec_CountAllNumbers.l0 kj2 0 (rd_L5 t103 (wrap64 (a1 - 1))) ((rd_L5 t103 (wrap64 (a1 - 1))).length : Int) 0) else (none)) else (none))) = some (r1,r2) := by rw [if_neg (show ¬ (false = true) by decide)] at H; exact H
    clear H; have H := H1; clear H1; replace H := Option.bind_eq_some_iff.mp H; obtain ⟨t103,A80,H⟩ := H; replace H : (if 0 ≤ (wrap64 (a1 - 1)) then (if (wrap64 (a1 - 1)) < (t103.length : Int) then (spec_CountAllNumbers.l0 kj2 0 (rd_L5 t103 (wrap64 (a1 - 1))) ((rd_L5 t103 (wrap64 (a1 - 1))).length : Int) 0) else (none)) else (none)) = some (r1,r2) := H; have A8 := Aside0.mk A80; clear A80; obtain ⟨ji9,hji9⟩ : ∃ j_ : Int,(wrap64 (a1 - 1)) = j_ := ⟨_,rfl⟩; replace H : (if 0 ≤ (ji9) then (if (ji9) < (t103.length : Int) then (spec_CountAllNumbers.l0 kj2 0 (rd_L5 t103 (ji9)) ((rd_L5 t103 (ji9)).length : Int) 0) else (none)) else (none)) = some (r1,r2) := by first | (rw [hji9] at H; exact H) | (simp only [hji9] at H ⊢; exact H)
    (try rw [hji9] at A8)
    have hji9w : (IntKind.i64.wrap (a1 - 1)) = ji9 := (i64_w _).trans hji9
    by_cases c10 : 0 ≤ (ji9)
    ·
     rw [if_pos c10] at H; have c10b0 : decide (0 ≤ (ji9)) = true := decide_eq_true c10; clear c10
     by_cases c11 : (ji9) < (t103.length : Int)
     ·
      rw [if_pos c11] at H; have c11b0 : decide ((ji9) < (t103.length : Int)) = true := decide_eq_true c11; clear c11; have H' := Aside0.mk H; clear H; go_wp2_with (first | ((with_reducible refine gate_callee (f := 46) rfl ?_); refine goesL_ (some 20) rfl rfl Tryz.func46 (by kernel_rfl) rfl #[.string a0,.int .i64 ji9,.int .u8 0] rfl (by (try simp only [List.map_toArray,List.map_cons,List.map_nil]); first | done | (simp only [hji9]; rfl) | rfl | (simp only [List.length_drop,List.length_take]; rfl)) ?_; (with_reducible refine (spec_wkTable.calls kj2 a0 ji9 0 t103 _ A8.out).mono ?_); rintro e w12 ⟨v104,rfl,ho0,hb⟩; refine ⟨_,rfl,?_⟩; have n0_ := Aside0.mk (Kd.S_lower ho0 (below_size zbw)); have n1_ := Aside0.mk (below_step zbw hb); clear HB; have HO105 := n0_; have HB := n1_; clear n0_ n1_; (try clear hb); (try clear hb2); (try clear hk); (try clear hi); (try clear ho0); obtain ⟨Ao13,co13,eo13⟩ := Kd.S_slice HO105.out; subst eo13; have p106 : 0 ≤ ((ji9) : Int) := zdd; have q106 : (ji9) < (t103.length : Int) := zdd; obtain ⟨ad106,A106_0,c106_0,e106,hx106_0,hl106_0,hi106_0⟩ := at_L5 (Kd.S_reads' HO105.out).2.2 (ji9) p106 q106; cases e106; obtain ⟨ce106,hce106,hMe106,hcc106⟩ := Kd.S_get HO105.out [] (ji9) p106 (by first | exact q106 | exact zdd | (have e_ := (Kd.S_reads' HO105.out).1; omega)); obtain ⟨ve106_0,rfl,ge106_0⟩ := hMe106; have hv106_0 := hcc106 0 _ rfl; rw [Nat.add_zero,show ((Kd.slice 3 (Kd.int .i64))).sz = 1 from rfl,Nat.mul_one] at hv106_0; replace hv106_0 := Option.some.inj (hv106_0.symm.trans hx106_0); rw [hv106_0] at ge106_0; have HL106_0 := Aside0.mk (show Kd.R (Kd.int .i64) 3 _ _ _ _ (rd_L5 t103 (ji9)) from ge106_0); clear hv106_0 ge106_0; clear hcc106 hce106; have HR106_0 := Aside0.mk hi106_0; have HC106_0 := Aside0.mk hl106_0; clear hi106_0 hl106_0; replace p106 := eq_true p106; replace q106 := eq_true q106))
      go_loopg [6,26] kj2 (fun kq v6 v26 w' => ∃ (x6_2 : Int) (x26_2 : Int),v6 = .int .i64 x6_2 ∧ v26 = .int .i64 x26_2 ∧ Aside0 (spec_CountAllNumbers.l0 kq x6_2 (rd_L5 t103 (ji9)) ((rd_L5 t103 (ji9)).length : Int) x26_2 = some (r1,r2)) ∧ Aside0 (kq ≤ kj2) ∧ Aside0 (Kd.C (Kd.int .i64) w' A106_0 (rd_L5 t103 (ji9)).length (rd_L5 t103 (ji9))) ∧ Aside0 (Below w.heap.size w w'))
      case atStart => exact ⟨(0),(0),zrs,zrs,H',⟨Nat.le_refl _⟩,⟨by repeat (first | (with_reducible exact HR106_0.out) | (with_reducible refine Kd.C_alloc ?_ _) | (with_reducible refine Kd.C_drewN ?_ _) | (with_reducible refine Kd.C_drew ?_) | exact HR106_0.out)⟩,⟨zbw⟩⟩
      case round =>
       clear H'; try clear c1
       try clear p1
       try clear q1
       try clear hx1
       try clear p2
       try clear c4
       try clear c5
       try clear p6
       try clear c7
       try clear c10
       try clear c10b0
       try clear p10
       try clear q10
       try clear hx10
       try clear c11
       try clear c11b0
       try clear hx106_0
       try clear p106
       try clear p2
       try clear q106
       obtain ⟨x6_2,x26_2,rfl,rfl,HA,HK2,HR106_0,HB⟩ := hrel
       cases gk with
       | zero => exact absurd HA.out (by simp [spec_CountAllNumbers.l0])
       | succ k2 =>
        have H := HA.out; clear HA; simp only [spec_CountAllNumbers.l0] at H
        by_cases c14 : x26_2 < ((rd_L5 t103 (ji9)).length : Int)
        ·
         rw [if_pos c14] at H; have c14b0 : decide (x26_2 < ((rd_L5 t103 (ji9)).length : Int)) = true := decide_eq_true c14; clear c14
         by_cases c15 : 0 ≤ x26_2
         ·
          rw [if_pos c15] at H; have c15b0 : decide (0 ≤ x26_2) = true := decide_eq_true c15; clear c15
          by_cases c16 : x26_2 < ((rd_L5 t103 (ji9)).length : Int)
          ·
           rw [if_pos c16] at H; have c16b0 : decide (x26_2 < ((rd_L5 t103 (ji9)).length : Int)) = true := decide_eq_true c16; clear c16; replace H := Option.bind_eq_some_iff.mp H; obtain ⟨t108,A170,H⟩ := H; replace H : (spec_CountAllNumbers.l0 k2 t108 (rd_L5 t103 (ji9)) ((rd_L5 t103 (ji9)).length : Int) (wrap64 (x26_2 + 1))) = some (r1,r2) := H; have A17 := Aside0.mk A170; clear A170; have H' := Aside0.mk H; clear H; have p107 : 0 ≤ (x26_2 : Int) := zdd; have q107 : x26_2 < ((rd_L5 t103 (ji9)).length : Int) := zdd; obtain ⟨ad107,e107,hx107_0⟩ := Kd.at_int HR106_0.out x26_2 p107 q107
           cases e107
           (try replace hx107_0 := (HB.out.cell (World.block_lt_of_cell? w _ hx107_0)).trans hx107_0)
           replace p107 := eq_true p107; replace q107 := eq_true q107; go_wp2_with (first | ((with_reducible refine gate_callee (f := 47) rfl ?_); refine goesL_ (some 33) rfl rfl Tryz.func47 (by kernel_rfl) rfl #[.int .i64 (wrap64 (x6_2 + (rd (rd_L5 t103 (ji9)) x26_2))),.int .i64 1000000000000001] rfl (by (try simp only [List.map_toArray,List.map_cons,List.map_nil]); first | done | (simp only [hji9]; rfl) | rfl | (simp only [List.length_drop,List.length_take]; rfl)) ?_; (with_reducible refine (spec_l1Least.calls (wrap64 (x6_2 + (rd (rd_L5 t103 (ji9)) x26_2))) 1000000000000001 t108 _ A17.out).mono ?_); rintro e w' ⟨rfl,⟨nd,rfl⟩⟩; refine ⟨_,rfl,?_⟩))
           go_roundg k2
           case measure => have := HJ2.out; have := HK2.out; omega
           case rel => exact ⟨(t108),(wrap64 (x26_2 + 1)),zrs,zrs,H',⟨by have := HJ2.out; have := HK2.out; omega⟩,⟨by repeat (first | (with_reducible exact HR106_0.out) | (with_reducible refine Kd.C_alloc ?_ _) | (with_reducible refine Kd.C_drewN ?_ _) | (with_reducible refine Kd.C_drew ?_) | exact HR106_0.out)⟩,⟨zbw⟩⟩
          · rw [if_neg c16] at H; exact absurd H (by simp)
         · rw [if_neg c15] at H; exact absurd H (by simp)
        ·
         rw [if_neg c14] at H; have c14b0 : decide (x26_2 < ((rd_L5 t103 (ji9)).length : Int)) = false := decide_eq_false c14; clear c14
         by_cases c18 : x6_2 > 1000000000000000
         ·
          rw [if_pos c18] at H; have c18b0 : decide (1000000000000000 < x6_2) = true := decide_eq_true c18; clear c18; simp only [Option.some.injEq,Prod.mk.injEq] at H; obtain ⟨rfl,rfl⟩ := H; go_wp2
          go_ret2
          exact ⟨by first | rfl | (simp [errW_none,errW_some] <;> rfl) | (simp only [← hji9]; first | rfl | (simp [errW_none,errW_some] <;> rfl)) | (simp [*,errW_none,errW_some] <;> rfl),zbw⟩
         ·
          rw [if_neg c18] at H; have c18b0 : decide (1000000000000000 < x6_2) = false := decide_eq_false c18; clear c18; simp only [Option.some.injEq,Prod.mk.injEq] at H; obtain ⟨rfl,rfl⟩ := H; go_wp2
          go_ret2
          exact ⟨by first | rfl | (simp [errW_none,errW_some] <;> rfl) | (simp only [← hji9]; first | rfl | (simp [errW_none,errW_some] <;> rfl)) | (simp [*,errW_none,errW_some] <;> rfl),zbw⟩
     · rw [if_neg c11] at H; exact absurd H (by simp)
    · rw [if_neg c10] at H; exact absurd H (by simp)

end Go.Proofs.YtffbfkfbeggdnaaGreatDoor.P
-- printed by xprint.py
namespace Go.Proofs.YtffbfkfbeggdnaaGreatDoor.P
open Go.RowKit Go.Proofs.YtffbfkfbeggdnaaGreatDoorW.PrintWords Go.Proofs.YtffbfkfbeggdnaaGreatDoorW.PrintLast Go.Proofs.YtffbfkfbeggdnaaGreatDoorW.PrintMore
attribute [local go_sem] max2_int min2_int max_two min_two max_three min_three max_four min_four
set_option linter.unusedVariables false
set_option linter.unusedSimpArgs false

def spec_wkDigits.l0 : Nat → ByteArray → Int → Option (Bool)
 | 0,_,_ => none
 | k + 1,x0,x3 => if x3 < (x0.size : Int) then (if 0 ≤ x3 then (if (bt x0 x3) < 48 then (some false) else (if (bt x0 x3) > 57 then (some false) else (spec_wkDigits.l0 k x0 (wrap64 (x3 + 1))))) else (none)) else (some true)
def spec_wkDigits.f (k : Nat) (a0 : ByteArray) : Option (Bool) := (spec_l1In.f (a0.size : Int) 1 40).bind fun t101 => (if t101 = true then (spec_wkDigits.l0 k a0 0) else (some false))
theorem spec_wkDigits.mono_l : ∀ k,(∀ y0 y1,LeO (spec_wkDigits.l0 k y0 y1) (spec_wkDigits.l0 (k + 1) y0 y1))
 | 0 => by intros; intro r h; simp [spec_wkDigits.l0] at h
 | k + 1 => by
  have ih0 := spec_wkDigits.mono_l k
  ·
   intro y0 y1
   unfold spec_wkDigits.l0
   repeat' first
   | (with_reducible exact ih0 _ _)
   | (with_reducible exact LeO.refl _)
   | (with_reducible exact LeO.none _)
   | (with_reducible refine LeO.ite ?_ ?_)
   | (with_reducible refine LeO.bind ?_ (fun _ => ?_))
   | exact ih0 _ _
   | exact LeO.none _
   | refine LeO.ite ?_ ?_
   | refine LeO.bind ?_ (fun _ => ?_)
theorem spec_wkDigits.mono : ∀ y0 k,LeO (spec_wkDigits.f k y0) (spec_wkDigits.f (k + 1) y0) := by
 intro y0 k; have ih0 := spec_wkDigits.mono_l k
 unfold spec_wkDigits.f
 repeat' first
   | (with_reducible exact ih0 _ _)
   | (with_reducible exact LeO.refl _)
   | (with_reducible exact LeO.none _)
   | (with_reducible refine LeO.ite ?_ ?_)
   | (with_reducible refine LeO.bind ?_ (fun _ => ?_))
   | exact ih0 _ _
   | exact LeO.none _
   | refine LeO.ite ?_ ?_
   | refine LeO.bind ?_ (fun _ => ?_)
set_option maxHeartbeats 8000000 in
set_option maxRecDepth 100000 in
theorem spec_wkDigits.calls (k : Nat) (a0 : ByteArray) (r : Bool) (w : World) (h : spec_wkDigits.f k a0 = some r) :
  Calls Tryz.prog 65 #[.string a0] w fun e w' => e = .returned (.bool r) ∧ Drawn0 w w' := by
 have H : ((spec_l1In.f (a0.size : Int) 1 40).bind fun t101 => (if t101 = true then (spec_wkDigits.l0 k a0 0) else (some false))) = some r := h; clear h; replace H := Option.bind_eq_some_iff.mp H; obtain ⟨t101,A20,H⟩ := H; replace H : (if t101 = true then (spec_wkDigits.l0 k a0 0) else (some false)) = some r := H; have A2 := Aside0.mk A20; clear A20
 by_cases c3 : t101 = true
 ·
  subst c3; have H1 : (spec_wkDigits.l0 k a0 0) = some r := by rw [if_pos rfl] at H; exact H
  clear H; have H := H1; clear H1; have H' := Aside0.mk H; clear H
  go_enter Tryz.func65,Tryz.ntmps65
  go_wp2_with (first | ((with_reducible refine gate_callee (f := 40) rfl ?_); refine goesL_ (some 6) rfl rfl Tryz.func40 (by kernel_rfl) rfl #[.int .i64 (a0.size : Int),.int .i64 1,.int .i64 40] rfl zrr ?_; (with_reducible refine (spec_l1In.calls (a0.size : Int) 1 40 true _ A2.out).mono ?_); rintro e w' ⟨rfl,⟨nd,rfl⟩⟩; refine ⟨_,rfl,?_⟩))
  go_loopg [3] k (fun kq v3 w' => ∃ (x3_1 : Int),v3 = .int .i64 x3_1 ∧ Aside0 (spec_wkDigits.l0 kq a0 x3_1 = some r) ∧ Aside0 (kq ≤ k) ∧ Drawn0 w w')
  case atStart => exact ⟨(0),zrs,H',⟨Nat.le_refl _⟩,by repeat (first | exact Drawn0.refl _ | apply Drawn0.step)⟩
  case round =>
   clear H'; try clear p2
   try clear c3
   obtain ⟨x3_1,rfl,HA,HK1,⟨m1,rfl⟩⟩ := hrel
   cases gk with
   | zero => exact absurd HA.out (by simp [spec_wkDigits.l0])
   | succ k1 =>
    have H := HA.out; clear HA; simp only [spec_wkDigits.l0] at H
    by_cases c4 : x3_1 < (a0.size : Int)
    ·
     rw [if_pos c4] at H; have c4b0 : decide (x3_1 < (a0.size : Int)) = true := decide_eq_true c4; clear c4
     by_cases c5 : 0 ≤ x3_1
     ·
      rw [if_pos c5] at H; have c5b0 : decide (0 ≤ x3_1) = true := decide_eq_true c5; clear c5
      by_cases c7 : (bt a0 x3_1) < 48
      ·
       rw [if_pos c7] at H; have c7b0 : decide ((bt a0 x3_1) < 48) = true := decide_eq_true c7; clear c7; obtain rfl := Option.some.inj H; have p6 : 0 ≤ (x3_1 : Int) := zdd; have q6 : x3_1 < (a0.size : Int) := zdd; have hx6 := bt_at a0 x3_1; replace p6 := eq_true p6; replace q6 := eq_true q6; go_wp2
       go_ret
       exact ⟨by first | rfl | (simp; done) | (simp [*]; done),by repeat (first | exact Drawn0.refl _ | apply Drawn0.step)⟩
      ·
       rw [if_neg c7] at H; have c7b0 : decide ((bt a0 x3_1) < 48) = false := decide_eq_false c7; clear c7
       by_cases c9 : (bt a0 x3_1) > 57
       ·
        rw [if_pos c9] at H; have c9b0 : decide (57 < (bt a0 x3_1)) = true := decide_eq_true c9; clear c9; obtain rfl := Option.some.inj H; have p6 : 0 ≤ (x3_1 : Int) := zdd; have q6 : x3_1 < (a0.size : Int) := zdd; have hx6 := bt_at a0 x3_1; replace p6 := eq_true p6; replace q6 := eq_true q6; have p8 : 0 ≤ (x3_1 : Int) := zdd; have q8 : x3_1 < (a0.size : Int) := zdd; have hx8 := bt_at a0 x3_1; replace p8 := eq_true p8; replace q8 := eq_true q8; go_wp2
        go_ret
        exact ⟨by first | rfl | (simp; done) | (simp [*]; done),by repeat (first | exact Drawn0.refl _ | apply Drawn0.step)⟩
       ·
        rw [if_neg c9] at H; have c9b0 : decide (57 < (bt a0 x3_1)) = false := decide_eq_false c9; clear c9; have H' := Aside0.mk H; clear H; have p6 : 0 ≤ (x3_1 : Int) := zdd; have q6 : x3_1 < (a0.size : Int) := zdd; have hx6 := bt_at a0 x3_1; replace p6 := eq_true p6; replace q6 := eq_true q6; have p8 : 0 ≤ (x3_1 : Int) := zdd; have q8 : x3_1 < (a0.size : Int) := zdd; have hx8 := bt_at a0 x3_1; replace p8 := eq_true p8; replace q8 := eq_true q8; go_wp2
        go_roundg k1
        case measure => have := HK1.out; omega
        case rel => exact ⟨(wrap64 (x3_1 + 1)),zrs,H',⟨by have := HK1.out; omega⟩,by repeat (first | exact Drawn0.refl _ | apply Drawn0.step)⟩
     · rw [if_neg c5] at H; exact absurd H (by simp)
    ·
     rw [if_neg c4] at H; have c4b0 : decide (x3_1 < (a0.size : Int)) = false := decide_eq_false c4; clear c4; obtain rfl := Option.some.inj H; go_wp2
     go_ret
     exact ⟨by first | rfl | (simp; done) | (simp [*]; done),by repeat (first | exact Drawn0.refl _ | apply Drawn0.step)⟩
 ·
  replace c3 := Bool.eq_false_iff.mpr c3; subst c3; have H1 : (some false) = some r := by rw [if_neg (show ¬ (false = true) by decide)] at H; exact H
  clear H; have H := H1; clear H1; obtain rfl := Option.some.inj H
  go_enter Tryz.func65,Tryz.ntmps65
  go_wp2_with (first | ((with_reducible refine gate_callee (f := 40) rfl ?_); refine goesL_ (some 6) rfl rfl Tryz.func40 (by kernel_rfl) rfl #[.int .i64 (a0.size : Int),.int .i64 1,.int .i64 40] rfl zrr ?_; (with_reducible refine (spec_l1In.calls (a0.size : Int) 1 40 false _ A2.out).mono ?_); rintro e w' ⟨rfl,⟨nd,rfl⟩⟩; refine ⟨_,rfl,?_⟩))
  go_ret
  exact ⟨by first | rfl | (simp; done) | (simp [*]; done),by repeat (first | exact Drawn0.refl _ | apply Drawn0.step)⟩

end Go.Proofs.YtffbfkfbeggdnaaGreatDoor.P
-- printed by xprint.py
namespace Go.Proofs.YtffbfkfbeggdnaaGreatDoor.P
open Go.RowKit Go.Proofs.YtffbfkfbeggdnaaGreatDoorW.PrintWords Go.Proofs.YtffbfkfbeggdnaaGreatDoorW.PrintLast Go.Proofs.YtffbfkfbeggdnaaGreatDoorW.PrintMore
attribute [local go_sem] max2_int min2_int max_two min_two max_three min_three max_four min_four
set_option linter.unusedVariables false
set_option linter.unusedSimpArgs false

def spec_wkAsked.f (k : Nat) (a0 : ByteArray) (a1 : ByteArray) : Option (Bool) := (spec_wkPiece.f a0).bind fun t101 => (if t101 = true then ((spec_wkDigits.f k a1).bind fun t102 => (if t102 = true then (some ((a1.size : Int) == 1)) else (some false))) else (some false))
theorem spec_wkAsked.mono : ∀ y0 y1 k,LeO (spec_wkAsked.f k y0 y1) (spec_wkAsked.f (k + 1) y0 y1) := by
 intro y0 y1 k
 unfold spec_wkAsked.f
 repeat' first
   | (with_reducible exact spec_wkDigits.mono _ _)
   | (with_reducible exact LeO.refl _)
   | (with_reducible exact LeO.none _)
   | (with_reducible refine LeO.ite ?_ ?_)
   | (with_reducible refine LeO.bind ?_ (fun _ => ?_))
   | exact spec_wkDigits.mono _ _
   | exact LeO.none _
   | refine LeO.ite ?_ ?_
   | refine LeO.bind ?_ (fun _ => ?_)
set_option maxHeartbeats 8000000 in
set_option maxRecDepth 100000 in
theorem spec_wkAsked.calls (k : Nat) (a0 : ByteArray) (a1 : ByteArray) (r : Bool) (w : World) (h : spec_wkAsked.f k a0 a1 = some r) :
  Calls Tryz.prog 39 #[.string a0,.string a1] w fun e w' => e = .returned (.bool r) ∧ Drawn0 w w' := by
 have H : ((spec_wkPiece.f a0).bind fun t101 => (if t101 = true then ((spec_wkDigits.f k a1).bind fun t102 => (if t102 = true then (some ((a1.size : Int) == 1)) else (some false))) else (some false))) = some r := h; clear h; replace H := Option.bind_eq_some_iff.mp H; obtain ⟨t101,A30,H⟩ := H; replace H : (if t101 = true then ((spec_wkDigits.f k a1).bind fun t102 => (if t102 = true then (some ((a1.size : Int) == 1)) else (some false))) else (some false)) = some r := H; have A3 := Aside0.mk A30; clear A30
 by_cases c4 : t101 = true
 ·
  subst c4; have H1 : ((spec_wkDigits.f k a1).bind fun t102 => (if t102 = true then (some ((a1.size : Int) == 1)) else (some false))) = some r := by rw [if_pos rfl] at H; exact H
  clear H; have H := H1; clear H1; replace H := Option.bind_eq_some_iff.mp H; obtain ⟨t102,A50,H⟩ := H; replace H : (if t102 = true then (some ((a1.size : Int) == 1)) else (some false)) = some r := H; have A5 := Aside0.mk A50; clear A50
  by_cases c6 : t102 = true
  ·
   subst c6; have H1 : (some ((a1.size : Int) == 1)) = some r := by rw [if_pos rfl] at H; exact H
   clear H; have H := H1; clear H1; obtain rfl := Option.some.inj H
   go_enter Tryz.func39,Tryz.ntmps39
   go_wp2_with (first | ((with_reducible refine gate_callee (f := 45) rfl ?_); refine goesL_ (some 6) rfl rfl Tryz.func45 (by kernel_rfl) rfl #[.string a0] rfl zrr ?_; (with_reducible refine (spec_wkPiece.calls a0 true _ A3.out).mono ?_); rintro e w' ⟨rfl,⟨nd,rfl⟩⟩; refine ⟨_,rfl,?_⟩) | (go_at_call 65; (with_reducible refine (spec_wkDigits.calls k a1 true _ A5.out).mono ?_); rintro e w' ⟨rfl,⟨nd,rfl⟩⟩))
   go_ret
   exact ⟨by first | rfl | (simp; done) | (simp [*]; done),by repeat (first | exact Drawn0.refl _ | apply Drawn0.step)⟩
  ·
   replace c6 := Bool.eq_false_iff.mpr c6; subst c6; have H1 : (some false) = some r := by rw [if_neg (show ¬ (false = true) by decide)] at H; exact H
   clear H; have H := H1; clear H1; obtain rfl := Option.some.inj H
   go_enter Tryz.func39,Tryz.ntmps39
   go_wp2_with (first | ((with_reducible refine gate_callee (f := 45) rfl ?_); refine goesL_ (some 6) rfl rfl Tryz.func45 (by kernel_rfl) rfl #[.string a0] rfl zrr ?_; (with_reducible refine (spec_wkPiece.calls a0 true _ A3.out).mono ?_); rintro e w' ⟨rfl,⟨nd,rfl⟩⟩; refine ⟨_,rfl,?_⟩) | (go_at_call 65; (with_reducible refine (spec_wkDigits.calls k a1 false _ A5.out).mono ?_); rintro e w' ⟨rfl,⟨nd,rfl⟩⟩))
   go_ret
   exact ⟨by first | rfl | (simp; done) | (simp [*]; done),by repeat (first | exact Drawn0.refl _ | apply Drawn0.step)⟩
 ·
  replace c4 := Bool.eq_false_iff.mpr c4; subst c4; have H1 : (some false) = some r := by rw [if_neg (show ¬ (false = true) by decide)] at H; exact H
  clear H; have H := H1; clear H1; obtain rfl := Option.some.inj H
  go_enter Tryz.func39,Tryz.ntmps39
  go_wp2_with (first | ((with_reducible refine gate_callee (f := 45) rfl ?_); refine goesL_ (some 6) rfl rfl Tryz.func45 (by kernel_rfl) rfl #[.string a0] rfl zrr ?_; (with_reducible refine (spec_wkPiece.calls a0 false _ A3.out).mono ?_); rintro e w' ⟨rfl,⟨nd,rfl⟩⟩; refine ⟨_,rfl,?_⟩))
  go_ret
  exact ⟨by first | rfl | (simp; done) | (simp [*]; done),by repeat (first | exact Drawn0.refl _ | apply Drawn0.step)⟩

end Go.Proofs.YtffbfkfbeggdnaaGreatDoor.P
-- printed by xprint.py
namespace Go.Proofs.YtffbfkfbeggdnaaGreatDoor.P
open Go.RowKit Go.Proofs.YtffbfkfbeggdnaaGreatDoorW.PrintWords Go.Proofs.YtffbfkfbeggdnaaGreatDoorW.PrintLast Go.Proofs.YtffbfkfbeggdnaaGreatDoorW.PrintMore
attribute [local go_sem] max2_int min2_int max_two min_two max_three min_three max_four min_four
set_option linter.unusedVariables false
set_option linter.unusedSimpArgs false

def spec_wkCount.f (k : Nat) (a0 : ByteArray) (a1 : Int) (a2 : Int) (a3 : Int) : Option (Int × Bool) := (spec_wkTable.f k a0 a3 a2).bind fun t101 => (if 0 ≤ a3 then (if a3 < (t101.length : Int) then (if 0 ≤ ((a1 - 48) % 256) then (if ((a1 - 48) % 256) < ((rd_L5 t101 a3).length : Int) then (if (rd (rd_L5 t101 a3) ((a1 - 48) % 256)) > 1000000000000000 then (some (0,false)) else (some (rd (rd_L5 t101 a3) ((a1 - 48) % 256),true))) else (none)) else (none)) else (none)) else (none))
set_option maxHeartbeats 8000000 in
set_option maxRecDepth 100000 in
theorem spec_wkCount.calls (k : Nat) (a0 : ByteArray) (a1 : Int) (a2 : Int) (a3 : Int) (r1 : Int) (r2 : Bool) (w : World) (h : spec_wkCount.f k a0 a1 a2 a3 = some (r1,r2)) :
  Calls Tryz.prog 41 #[.string a0,.int .u8 a1,.int .u8 a2,.int .i64 a3] w fun e w' => e = .returned (.tuple #[.int .i64 r1,.bool r2]) ∧ Below w.heap.size w w' := by
 have HB := Aside0.mk (Below.refl w.heap.size w); have H : ((spec_wkTable.f k a0 a3 a2).bind fun t101 => (if 0 ≤ a3 then (if a3 < (t101.length : Int) then (if 0 ≤ ((a1 - 48) % 256) then (if ((a1 - 48) % 256) < ((rd_L5 t101 a3).length : Int) then (if (rd (rd_L5 t101 a3) ((a1 - 48) % 256)) > 1000000000000000 then (some (0,false)) else (some (rd (rd_L5 t101 a3) ((a1 - 48) % 256),true))) else (none)) else (none)) else (none)) else (none))) = some (r1,r2) := h; clear h; replace H := Option.bind_eq_some_iff.mp H; obtain ⟨t101,A50,H⟩ := H; replace H : (if 0 ≤ a3 then (if a3 < (t101.length : Int) then (if 0 ≤ ((a1 - 48) % 256) then (if ((a1 - 48) % 256) < ((rd_L5 t101 a3).length : Int) then (if (rd (rd_L5 t101 a3) ((a1 - 48) % 256)) > 1000000000000000 then (some (0,false)) else (some (rd (rd_L5 t101 a3) ((a1 - 48) % 256),true))) else (none)) else (none)) else (none)) else (none)) = some (r1,r2) := H; have A5 := Aside0.mk A50; clear A50
 by_cases c6 : 0 ≤ a3
 ·
  rw [if_pos c6] at H; have c6b0 : decide (0 ≤ a3) = true := decide_eq_true c6; clear c6
  by_cases c7 : a3 < (t101.length : Int)
  ·
   rw [if_pos c7] at H; have c7b0 : decide (a3 < (t101.length : Int)) = true := decide_eq_true c7; clear c7; obtain ⟨ji8,hji8⟩ : ∃ j_ : Int,((a1 - 48) % 256) = j_ := ⟨_,rfl⟩; have huji8 : IntKind.u8.wrap (a1 - 48) = ji8 := hji8; replace H : (if 0 ≤ (ji8) then (if (ji8) < ((rd_L5 t101 a3).length : Int) then (if (rd (rd_L5 t101 a3) (ji8)) > 1000000000000000 then (some (0,false)) else (some (rd (rd_L5 t101 a3) (ji8),true))) else (none)) else (none)) = some (r1,r2) := by first | (rw [hji8] at H; exact H) | (simp only [hji8] at H ⊢; exact H)
   (try rw [hji8] at A5)
   by_cases c9 : 0 ≤ (ji8)
   ·
    rw [if_pos c9] at H; have c9b0 : decide (0 ≤ (ji8)) = true := decide_eq_true c9; clear c9
    by_cases c10 : (ji8) < ((rd_L5 t101 a3).length : Int)
    ·
     rw [if_pos c10] at H; have c10b0 : decide ((ji8) < ((rd_L5 t101 a3).length : Int)) = true := decide_eq_true c10; clear c10
     by_cases c11 : (rd (rd_L5 t101 a3) (ji8)) > 1000000000000000
     ·
      rw [if_pos c11] at H; have c11b0 : decide (1000000000000000 < (rd (rd_L5 t101 a3) (ji8))) = true := decide_eq_true c11; clear c11; simp only [Option.some.injEq,Prod.mk.injEq] at H; obtain ⟨rfl,rfl⟩ := H
      go_enter Tryz.func41,Tryz.ntmps41
      go_wp2_with (first | ((with_reducible refine gate_callee (f := 46) rfl ?_); refine goesL_ (some 14) rfl rfl Tryz.func46 (by kernel_rfl) rfl #[.string a0,.int .i64 a3,.int .u8 a2] rfl zrr ?_; (with_reducible refine (spec_wkTable.calls k a0 a3 a2 t101 _ A5.out).mono ?_); rintro e w12 ⟨v102,rfl,ho0,hb⟩; refine ⟨_,rfl,?_⟩; have n0_ := Aside0.mk (Kd.S_lower ho0 (below_size zbw)); have n1_ := Aside0.mk (below_step zbw hb); clear HB; have HO103 := n0_; have HB := n1_; clear n0_ n1_; (try clear hb); (try clear hb2); (try clear hk); (try clear hi); (try clear ho0); obtain ⟨Ao13,co13,eo13⟩ := Kd.S_slice HO103.out; subst eo13; have p104 : 0 ≤ (a3 : Int) := zdd; have q104 : a3 < (t101.length : Int) := zdd; obtain ⟨ad104,A104_0,c104_0,e104,hx104_0,hl104_0,hi104_0⟩ := at_L5 (Kd.S_reads' HO103.out).2.2 a3 p104 q104; cases e104; obtain ⟨ce104,hce104,hMe104,hcc104⟩ := Kd.S_get HO103.out [] a3 p104 (by first | exact q104 | exact zdd | (have e_ := (Kd.S_reads' HO103.out).1; omega)); obtain ⟨ve104_0,rfl,ge104_0⟩ := hMe104; have hv104_0 := hcc104 0 _ rfl; rw [Nat.add_zero,show ((Kd.slice 3 (Kd.int .i64))).sz = 1 from rfl,Nat.mul_one] at hv104_0; replace hv104_0 := Option.some.inj (hv104_0.symm.trans hx104_0); rw [hv104_0] at ge104_0; have HL104_0 := Aside0.mk (show Kd.R (Kd.int .i64) 3 _ _ _ _ (rd_L5 t101 a3) from ge104_0); clear hv104_0 ge104_0; clear hcc104 hce104; have HR104_0 := Aside0.mk hi104_0; have HC104_0 := Aside0.mk hl104_0; clear hi104_0 hl104_0; replace p104 := eq_true p104; replace q104 := eq_true q104; have p105 : 0 ≤ ((ji8) : Int) := zdd; have q105 : (ji8) < ((rd_L5 t101 a3).length : Int) := zdd; obtain ⟨ad105,e105,hx105_0⟩ := Kd.at_int (by repeat (first | (with_reducible exact HR104_0.out) | (with_reducible refine Kd.C_alloc ?_ _) | (with_reducible refine Kd.C_drewN ?_ _) | (with_reducible refine Kd.C_drew ?_) | exact HR104_0.out)) (ji8) p105 q105; cases e105; replace p105 := eq_true p105; replace q105 := eq_true q105))
      go_ret2
      exact ⟨by first | rfl | (simp [errW_none,errW_some] <;> rfl) | (simp only [← hji8]; first | rfl | (simp [errW_none,errW_some] <;> rfl)) | (simp [*,errW_none,errW_some] <;> rfl),zbw⟩
     ·
      rw [if_neg c11] at H; have c11b0 : decide (1000000000000000 < (rd (rd_L5 t101 a3) (ji8))) = false := decide_eq_false c11; clear c11; simp only [Option.some.injEq,Prod.mk.injEq] at H; obtain ⟨rfl,rfl⟩ := H
      go_enter Tryz.func41,Tryz.ntmps41
      go_wp2_with (first | ((with_reducible refine gate_callee (f := 46) rfl ?_); refine goesL_ (some 14) rfl rfl Tryz.func46 (by kernel_rfl) rfl #[.string a0,.int .i64 a3,.int .u8 a2] rfl zrr ?_; (with_reducible refine (spec_wkTable.calls k a0 a3 a2 t101 _ A5.out).mono ?_); rintro e w14 ⟨v102,rfl,ho0,hb⟩; refine ⟨_,rfl,?_⟩; have n0_ := Aside0.mk (Kd.S_lower ho0 (below_size zbw)); have n1_ := Aside0.mk (below_step zbw hb); clear HB; have HO103 := n0_; have HB := n1_; clear n0_ n1_; (try clear hb); (try clear hb2); (try clear hk); (try clear hi); (try clear ho0); obtain ⟨Ao15,co15,eo15⟩ := Kd.S_slice HO103.out; subst eo15; have p104 : 0 ≤ (a3 : Int) := zdd; have q104 : a3 < (t101.length : Int) := zdd; obtain ⟨ad104,A104_0,c104_0,e104,hx104_0,hl104_0,hi104_0⟩ := at_L5 (Kd.S_reads' HO103.out).2.2 a3 p104 q104; cases e104; obtain ⟨ce104,hce104,hMe104,hcc104⟩ := Kd.S_get HO103.out [] a3 p104 (by first | exact q104 | exact zdd | (have e_ := (Kd.S_reads' HO103.out).1; omega)); obtain ⟨ve104_0,rfl,ge104_0⟩ := hMe104; have hv104_0 := hcc104 0 _ rfl; rw [Nat.add_zero,show ((Kd.slice 3 (Kd.int .i64))).sz = 1 from rfl,Nat.mul_one] at hv104_0; replace hv104_0 := Option.some.inj (hv104_0.symm.trans hx104_0); rw [hv104_0] at ge104_0; have HL104_0 := Aside0.mk (show Kd.R (Kd.int .i64) 3 _ _ _ _ (rd_L5 t101 a3) from ge104_0); clear hv104_0 ge104_0; clear hcc104 hce104; have HR104_0 := Aside0.mk hi104_0; have HC104_0 := Aside0.mk hl104_0; clear hi104_0 hl104_0; replace p104 := eq_true p104; replace q104 := eq_true q104; have p105 : 0 ≤ ((ji8) : Int) := zdd; have q105 : (ji8) < ((rd_L5 t101 a3).length : Int) := zdd; obtain ⟨ad105,e105,hx105_0⟩ := Kd.at_int (by repeat (first | (with_reducible exact HR104_0.out) | (with_reducible refine Kd.C_alloc ?_ _) | (with_reducible refine Kd.C_drewN ?_ _) | (with_reducible refine Kd.C_drew ?_) | exact HR104_0.out)) (ji8) p105 q105; cases e105; replace p105 := eq_true p105; replace q105 := eq_true q105))
      go_ret2
      exact ⟨by first | rfl | (simp [errW_none,errW_some] <;> rfl) | (simp only [← hji8]; first | rfl | (simp [errW_none,errW_some] <;> rfl)) | (simp [*,errW_none,errW_some] <;> rfl),zbw⟩
    · rw [if_neg c10] at H; exact absurd H (by simp)
   · rw [if_neg c9] at H; exact absurd H (by simp)
  · rw [if_neg c7] at H; exact absurd H (by simp)
 · rw [if_neg c6] at H; exact absurd H (by simp)

end Go.Proofs.YtffbfkfbeggdnaaGreatDoor.P
-- printed by xprint.py
namespace Go.Proofs.YtffbfkfbeggdnaaGreatDoor.P
open Go.RowKit Go.Proofs.YtffbfkfbeggdnaaGreatDoorW.PrintWords Go.Proofs.YtffbfkfbeggdnaaGreatDoorW.PrintLast Go.Proofs.YtffbfkfbeggdnaaGreatDoorW.PrintMore
attribute [local go_sem] max2_int min2_int max_two min_two max_three min_three max_four min_four
set_option linter.unusedVariables false
set_option linter.unusedSimpArgs false

def spec_CountBetween.f (k : Nat) (a0 : ByteArray) (a1 : ByteArray) (a2 : ByteArray) (a3 : Int) : Option (Int × Bool) := (spec_wkAsked.f k a0 a1).bind fun t101 => (if t101 = true then ((spec_wkAsked.f k a0 a2).bind fun t102 => (if t102 = true then ((spec_l1In.f a3 0 39).bind fun t103 => (if t103 = true then (if 0 < (a1.size : Int) then (if 0 < (a2.size : Int) then ((spec_wkCount.f k a0 (bt a1 0) (bt a2 0) a3).bind fun bt104 => (some (bt104.1,bt104.2))) else (none)) else (none)) else (some (0,false)))) else (some (0,false)))) else (some (0,false)))
def spec_CountBetween.T3 : Bool × List (List Nat × List Nat) := (true,[([],[]),([],[]),([1],[1]),([],[]),([3],[3]),([],[]),([0,2,4,5],[0,2,4,5]),([6],[6]),([6],[6]),([7,6,0,1,2,3,4,5,6,7,8],[7]),([8,9,0,1,2,3,4,5,6,7,8,9],[8])])
def spec_CountBetween.B3 : List Nat := [0,0,2,0,8,0,63,127,127,511,1023]
theorem spec_CountBetween.tab3 : rtab .any (opsOf Tryz.f24 3) = spec_CountBetween.T3 := by kernel_rfl
theorem spec_CountBetween.bits3 : waitsOk spec_CountBetween.T3.2 spec_CountBetween.B3 = true := by kernel_rfl
set_option maxHeartbeats 8000000 in
set_option maxRecDepth 100000 in
theorem spec_CountBetween.calls (k : Nat) (a0 : ByteArray) (a1 : ByteArray) (a2 : ByteArray) (a3 : Int) (r1 : Int) (r2 : Bool) (w : World) (h : spec_CountBetween.f k a0 a1 a2 a3 = some (r1,r2)) :
  Calls Tryz.prog 24 #[.string a0,.string a1,.string a2,.int .i64 a3] w fun e w' => e = .returned (.tuple #[.int .i64 r1,.bool r2]) ∧ Below w.heap.size w w' := by
 have HB := Aside0.mk (Below.refl w.heap.size w); have H : ((spec_wkAsked.f k a0 a1).bind fun t101 => (if t101 = true then ((spec_wkAsked.f k a0 a2).bind fun t102 => (if t102 = true then ((spec_l1In.f a3 0 39).bind fun t103 => (if t103 = true then (if 0 < (a1.size : Int) then (if 0 < (a2.size : Int) then ((spec_wkCount.f k a0 (bt a1 0) (bt a2 0) a3).bind fun bt104 => (some (bt104.1,bt104.2))) else (none)) else (none)) else (some (0,false)))) else (some (0,false)))) else (some (0,false)))) = some (r1,r2) := h; clear h; replace H := Option.bind_eq_some_iff.mp H; obtain ⟨t101,A50,H⟩ := H; replace H : (if t101 = true then ((spec_wkAsked.f k a0 a2).bind fun t102 => (if t102 = true then ((spec_l1In.f a3 0 39).bind fun t103 => (if t103 = true then (if 0 < (a1.size : Int) then (if 0 < (a2.size : Int) then ((spec_wkCount.f k a0 (bt a1 0) (bt a2 0) a3).bind fun bt104 => (some (bt104.1,bt104.2))) else (none)) else (none)) else (some (0,false)))) else (some (0,false)))) else (some (0,false))) = some (r1,r2) := H; have A5 := Aside0.mk A50; clear A50
 by_cases c6 : t101 = true
 ·
  subst c6; have H1 : ((spec_wkAsked.f k a0 a2).bind fun t102 => (if t102 = true then ((spec_l1In.f a3 0 39).bind fun t103 => (if t103 = true then (if 0 < (a1.size : Int) then (if 0 < (a2.size : Int) then ((spec_wkCount.f k a0 (bt a1 0) (bt a2 0) a3).bind fun bt104 => (some (bt104.1,bt104.2))) else (none)) else (none)) else (some (0,false)))) else (some (0,false)))) = some (r1,r2) := by rw [if_pos rfl] at H; exact H
  clear H; have H := H1; clear H1; replace H := Option.bind_eq_some_iff.mp H; obtain ⟨t102,A70,H⟩ := H; replace H : (if t102 = true then ((spec_l1In.f a3 0 39).bind fun t103 => (if t103 = true then (if 0 < (a1.size : Int) then (if 0 < (a2.size : Int) then ((spec_wkCount.f k a0 (bt a1 0) (bt a2 0) a3).bind fun bt104 => (some (bt104.1,bt104.2))) else (none)) else (none)) else (some (0,false)))) else (some (0,false))) = some (r1,r2) := H; have A7 := Aside0.mk A70; clear A70
  by_cases c8 : t102 = true
  ·
   subst c8; have H1 : ((spec_l1In.f a3 0 39).bind fun t103 => (if t103 = true then (if 0 < (a1.size : Int) then (if 0 < (a2.size : Int) then ((spec_wkCount.f k a0 (bt a1 0) (bt a2 0) a3).bind fun bt104 => (some (bt104.1,bt104.2))) else (none)) else (none)) else (some (0,false)))) = some (r1,r2) := by rw [if_pos rfl] at H; exact H
   clear H; have H := H1; clear H1; replace H := Option.bind_eq_some_iff.mp H; obtain ⟨t103,A90,H⟩ := H; replace H : (if t103 = true then (if 0 < (a1.size : Int) then (if 0 < (a2.size : Int) then ((spec_wkCount.f k a0 (bt a1 0) (bt a2 0) a3).bind fun bt104 => (some (bt104.1,bt104.2))) else (none)) else (none)) else (some (0,false))) = some (r1,r2) := H; have A9 := Aside0.mk A90; clear A90
   by_cases c10 : t103 = true
   ·
    subst c10; have H1 : (if 0 < (a1.size : Int) then (if 0 < (a2.size : Int) then ((spec_wkCount.f k a0 (bt a1 0) (bt a2 0) a3).bind fun bt104 => (some (bt104.1,bt104.2))) else (none)) else (none)) = some (r1,r2) := by rw [if_pos rfl] at H; exact H
    clear H; have H := H1; clear H1
    by_cases c11 : 0 < (a1.size : Int)
    ·
     rw [if_pos c11] at H; have c11b0 : decide (0 < (a1.size : Int)) = true := decide_eq_true c11; have c11b1 : decide (0 < a1.size) = true := decide_eq_true (by omega); clear c11
     by_cases c13 : 0 < (a2.size : Int)
     ·
      rw [if_pos c13] at H; have c13b0 : decide (0 < (a2.size : Int)) = true := decide_eq_true c13; have c13b1 : decide (0 < a2.size) = true := decide_eq_true (by omega); clear c13; replace H := Option.bind_eq_some_iff.mp H; obtain ⟨⟨t104,t105⟩,A150,H⟩ := H; replace H : (some (t104,t105)) = some (r1,r2) := H; have A15 := Aside0.mk A150; clear A150; simp only [Option.some.injEq,Prod.mk.injEq] at H; obtain ⟨rfl,rfl⟩ := H
      go_enter Tryz.func24,Tryz.ntmps24
      try go_wp2_with (first | ((with_reducible refine gate_callee (f := 39) rfl ?_); refine goesL_ (some 12) rfl rfl Tryz.func39 (by kernel_rfl) rfl #[.string a0,.string a1] rfl zrr ?_; (with_reducible refine (spec_wkAsked.calls k a0 a1 true _ A5.out).mono ?_); rintro e w' ⟨rfl,⟨nd,rfl⟩⟩; refine ⟨_,rfl,?_⟩) | (go_at_call 39; (with_reducible refine (spec_wkAsked.calls k a0 a2 true _ A7.out).mono ?_); rintro e w' ⟨rfl,⟨nd,rfl⟩⟩) | (go_at_call 40; (with_reducible refine (spec_l1In.calls a3 0 39 true _ A9.out).mono ?_); rintro e w' ⟨rfl,⟨nd,rfl⟩⟩))
      have n0_ := Aside0.mk (below_drew1 HB.out); clear HB; have HB := n0_; clear n0_; have p12 : 0 ≤ (0 : Int) := (by omega); have q12 : 0 < a1.size := (by have : (0 : Int) < (a1.size : Int) := zdd; omega); have hx12 : ∀ h : 0 < a1.size,((a1[0]'h).toNat : Int) = bt a1 0 := bt_at a1 0; clear p12; have qi12 : (0 < (a1.size : Int)) = True := eq_true (zdd); replace q12 := eq_true q12; have p14 : 0 ≤ (0 : Int) := (by omega); have q14 : 0 < a2.size := (by have : (0 : Int) < (a2.size : Int) := zdd; omega); have hx14 : ∀ h : 0 < a2.size,((a2[0]'h).toNat : Int) = bt a2 0 := bt_at a2 0; clear p14; have qi14 : (0 < (a2.size : Int)) = True := eq_true (zdd); replace q14 := eq_true q14; refine start_ (n := 11) (S := fun w' => True) (ds := []) #[false,false,false,false,false,false,false,false,false,false,false] (by kernel_rfl) rfl rfl trivial (fun hHeld => ?_); refine with_tabW spec_CountBetween.tab3 spec_CountBetween.bits3 (fun HT_ HW_ => ?_)
      (first | (rw [drewN_self w]; generalize hq_ : (World.drewN w _).drew = w16 at hHeld ⊢; clear HB; have HB : Aside0 (Below w.heap.size w w16) := ⟨by rw [← hq_]; exact below_drew1 (pw_below_drewN (Below.refl w.heap.size w) _)⟩; clear hq_) | (generalize w.drew = w16 at HB hHeld ⊢))
      refine pure_ (i := 0) (N := some 25) (v := ?_) (a' := ?_) #[true,false,false,false,false,false,false,false,false,false,false] rfl rfl (any_of HT_.out (by kernel_rfl)) (fun _ _ _ h => h) (Or.inl ⟨by rfl,?_⟩) ?_ ?_; rotate_left
      · intro w'; go_simp; with_reducible rfl
      rotate_left
      · simp only [Act.put,List.setIfInBounds_toArray,List.set_cons_zero,List.set_cons_succ,i64_w,i32_w]; rfl
      refine pure_ (i := 1) (N := some 26) (v := ?_) (a' := ?_) #[true,true,false,false,false,false,false,false,false,false,false] rfl rfl (any_of HT_.out (by kernel_rfl)) (fun _ _ _ h => h) (Or.inl ⟨by rfl,?_⟩) ?_ ?_; rotate_left
      · intro w'; go_simp; with_reducible rfl
      rotate_left
      · simp only [Act.put,List.setIfInBounds_toArray,List.set_cons_zero,List.set_cons_succ,i64_w,i32_w]; rfl
      refine pure_ (i := 3) (N := some 28) (v := ?_) (a' := ?_) #[true,true,false,true,false,false,false,false,false,false,false] rfl rfl (any_of HT_.out (by kernel_rfl)) (fun _ _ _ h => h) (Or.inl ⟨by rfl,?_⟩) ?_ ?_; rotate_left
      · intro w'; go_simp; with_reducible rfl
      rotate_left
      · simp only [Act.put,List.setIfInBounds_toArray,List.set_cons_zero,List.set_cons_succ,i64_w,i32_w]; rfl
      refine pure_ (i := 5) (N := some 30) (v := ?_) (a' := ?_) #[true,true,false,true,false,true,false,false,false,false,false] rfl rfl (any_of HT_.out (by kernel_rfl)) (fun _ _ _ h => h) (Or.inl ⟨by rfl,?_⟩) ?_ ?_; rotate_left
      · intro w'; go_simp; with_reducible rfl
      rotate_left
      · simp only [Act.put,List.setIfInBounds_toArray,List.set_cons_zero,List.set_cons_succ,i64_w,i32_w]; rfl
      refine take_ (i := 2) (N := some 27) (v := ?_) (a' := ?_) #[true,true,true,true,false,true,false,false,false,false,false] rfl rfl (take_ofW HT_.out HW_.out (by kernel_rfl)) (fun _ _ _ h => h) (Or.inl ⟨by rfl,?_⟩) hHeld ?_ ?_; rotate_left
      · intro w' _; go_simp; with_reducible rfl
      rotate_left
      · simp only [Act.put,List.setIfInBounds_toArray,List.set_cons_zero,List.set_cons_succ,i64_w,i32_w]; rfl
      refine take_ (i := 4) (N := some 29) (v := ?_) (a' := ?_) #[true,true,true,true,true,true,false,false,false,false,false] rfl rfl (take_ofW HT_.out HW_.out (by kernel_rfl)) (fun _ _ _ h => h) (Or.inl ⟨by rfl,?_⟩) hHeld ?_ ?_; rotate_left
      · intro w' _; go_simp; with_reducible rfl
      rotate_left
      · simp only [Act.put,List.setIfInBounds_toArray,List.set_cons_zero,List.set_cons_succ,i64_w,i32_w]; rfl
      refine one_ (i := 6) (N := some 31) #[true,true,true,true,true,true,true,false,false,false,false] rfl rfl (one_of HT_.out (by kernel_rfl)) (by decide) (fun K hK => ?_); refine goes_ Tryz.func41 (by kernel_rfl) rfl #[.string a0,.int .u8 (bt a1 0),.int .u8 (bt a2 0),.int .i64 a3] (by rfl) rfl rfl zrr ?_; with_reducible refine (spec_wkCount.calls k a0 (bt a1 0) (bt a2 0) a3 t104 t105 _ A15.out).mono ?_
      rintro e w17 ⟨rfl,hb⟩; refine ⟨_,rfl,?_⟩; have n0_ := Aside0.mk (below_step zbw hb); clear HB; have HB := n0_; clear n0_
      (try clear hb)
      (try clear hb2)
      (try clear hk)
      (try clear hi)
      refine hK.out _ _ trivial (fun hHeld => ?_); clear hK K; refine norm_ (a' := ?_) ?_ ?_; rotate_left
      ·
       show Act.put _ (some 31) _ = _
       simp only [Act.put,List.setIfInBounds_toArray,List.set_cons_zero,List.set_cons_succ,i64_w,i32_w]; rfl
      refine pure_ (i := 7) (N := some 32) (v := ?_) (a' := ?_) #[true,true,true,true,true,true,true,true,false,false,false] rfl rfl (any_of HT_.out (by kernel_rfl)) (fun _ _ _ h => h) (Or.inl ⟨by rfl,?_⟩) ?_ ?_; rotate_left
      · intro w'; go_simp; with_reducible rfl
      rotate_left
      · simp only [Act.put,List.setIfInBounds_toArray,List.set_cons_zero,List.set_cons_succ,i64_w,i32_w]; rfl
      refine pure_ (i := 8) (N := some 33) (v := ?_) (a' := ?_) #[true,true,true,true,true,true,true,true,true,false,false] rfl rfl (any_of HT_.out (by kernel_rfl)) (fun _ _ _ h => h) (Or.inl ⟨by rfl,?_⟩) ?_ ?_; rotate_left
      · intro w'; go_simp; with_reducible rfl
      rotate_left
      · simp only [Act.put,List.setIfInBounds_toArray,List.set_cons_zero,List.set_cons_succ,i64_w,i32_w]; rfl
      refine pure_ (i := 9) (N := some 8) (v := ?_) (a' := ?_) #[true,true,true,true,true,true,true,true,true,true,false] rfl rfl (any_of HT_.out (by kernel_rfl)) (fun _ _ _ h => h) (Or.inl ⟨by rfl,?_⟩) ?_ ?_; rotate_left
      · intro w'; go_simp; with_reducible rfl
      rotate_left
      · simp only [Act.put,List.setIfInBounds_toArray,List.set_cons_zero,List.set_cons_succ,i64_w,i32_w]; rfl
      refine pure_ (i := 10) (N := some 9) (v := ?_) (a' := ?_) #[true,true,true,true,true,true,true,true,true,true,true] rfl rfl (any_of HT_.out (by kernel_rfl)) (fun _ _ _ h => h) (Or.inl ⟨by rfl,?_⟩) ?_ ?_; rotate_left
      · intro w'; go_simp; with_reducible rfl
      rotate_left
      · simp only [Act.put,List.setIfInBounds_toArray,List.set_cons_zero,List.set_cons_succ,i64_w,i32_w]; rfl
      refine done_ (done_of HT_.out (by kernel_rfl)) ?_; try go_wp2
      go_ret2
      exact ⟨zer,zbw⟩
     · rw [if_neg c13] at H; exact absurd H (by simp)
    · rw [if_neg c11] at H; exact absurd H (by simp)
   ·
    replace c10 := Bool.eq_false_iff.mpr c10; subst c10; have H1 : (some (0,false)) = some (r1,r2) := by rw [if_neg (show ¬ (false = true) by decide)] at H; exact H
    clear H; have H := H1; clear H1; simp only [Option.some.injEq,Prod.mk.injEq] at H; obtain ⟨rfl,rfl⟩ := H
    go_enter Tryz.func24,Tryz.ntmps24
    go_wp2_with (first | ((with_reducible refine gate_callee (f := 39) rfl ?_); refine goesL_ (some 12) rfl rfl Tryz.func39 (by kernel_rfl) rfl #[.string a0,.string a1] rfl zrr ?_; (with_reducible refine (spec_wkAsked.calls k a0 a1 true _ A5.out).mono ?_); rintro e w' ⟨rfl,⟨nd,rfl⟩⟩; refine ⟨_,rfl,?_⟩) | (go_at_call 39; (with_reducible refine (spec_wkAsked.calls k a0 a2 true _ A7.out).mono ?_); rintro e w' ⟨rfl,⟨nd,rfl⟩⟩) | (go_at_call 40; (with_reducible refine (spec_l1In.calls a3 0 39 false _ A9.out).mono ?_); rintro e w' ⟨rfl,⟨nd,rfl⟩⟩))
    go_ret2
    exact ⟨zer,zbw⟩
  ·
   replace c8 := Bool.eq_false_iff.mpr c8; subst c8; have H1 : (some (0,false)) = some (r1,r2) := by rw [if_neg (show ¬ (false = true) by decide)] at H; exact H
   clear H; have H := H1; clear H1; simp only [Option.some.injEq,Prod.mk.injEq] at H; obtain ⟨rfl,rfl⟩ := H
   go_enter Tryz.func24,Tryz.ntmps24
   go_wp2_with (first | ((with_reducible refine gate_callee (f := 39) rfl ?_); refine goesL_ (some 12) rfl rfl Tryz.func39 (by kernel_rfl) rfl #[.string a0,.string a1] rfl zrr ?_; (with_reducible refine (spec_wkAsked.calls k a0 a1 true _ A5.out).mono ?_); rintro e w' ⟨rfl,⟨nd,rfl⟩⟩; refine ⟨_,rfl,?_⟩) | (go_at_call 39; (with_reducible refine (spec_wkAsked.calls k a0 a2 false _ A7.out).mono ?_); rintro e w' ⟨rfl,⟨nd,rfl⟩⟩))
   go_ret2
   exact ⟨zer,zbw⟩
 ·
  replace c6 := Bool.eq_false_iff.mpr c6; subst c6; have H1 : (some (0,false)) = some (r1,r2) := by rw [if_neg (show ¬ (false = true) by decide)] at H; exact H
  clear H; have H := H1; clear H1; simp only [Option.some.injEq,Prod.mk.injEq] at H; obtain ⟨rfl,rfl⟩ := H
  go_enter Tryz.func24,Tryz.ntmps24
  go_wp2_with (first | ((with_reducible refine gate_callee (f := 39) rfl ?_); refine goesL_ (some 12) rfl rfl Tryz.func39 (by kernel_rfl) rfl #[.string a0,.string a1] rfl zrr ?_; (with_reducible refine (spec_wkAsked.calls k a0 a1 false _ A5.out).mono ?_); rintro e w' ⟨rfl,⟨nd,rfl⟩⟩; refine ⟨_,rfl,?_⟩))
  go_ret2
  exact ⟨zer,zbw⟩

end Go.Proofs.YtffbfkfbeggdnaaGreatDoor.P
-- printed by xprint.py
namespace Go.Proofs.YtffbfkfbeggdnaaGreatDoor.P
open Go.RowKit Go.Proofs.YtffbfkfbeggdnaaGreatDoorW.PrintWords Go.Proofs.YtffbfkfbeggdnaaGreatDoorW.PrintLast Go.Proofs.YtffbfkfbeggdnaaGreatDoorW.PrintMore
attribute [local go_sem] max2_int min2_int max_two min_two max_three min_three max_four min_four
set_option linter.unusedVariables false
set_option linter.unusedSimpArgs false

def spec_CountNumbers.f (k : Nat) (a0 : ByteArray) (a1 : ByteArray) (a2 : Int) : Option (Int × Bool) := (spec_wkAsked.f k a0 a1).bind fun t101 => (if t101 = true then ((spec_l1In.f a2 1 40).bind fun t102 => (if t102 = true then (if 0 < (a1.size : Int) then ((spec_wkCount.f k a0 (bt a1 0) 0 (wrap64 (a2 - 1))).bind fun bt103 => (some (bt103.1,bt103.2))) else (none)) else (some (0,false)))) else (some (0,false)))
set_option maxHeartbeats 8000000 in
set_option maxRecDepth 100000 in
theorem spec_CountNumbers.calls (k : Nat) (a0 : ByteArray) (a1 : ByteArray) (a2 : Int) (r1 : Int) (r2 : Bool) (w : World) (h : spec_CountNumbers.f k a0 a1 a2 = some (r1,r2)) :
  Calls Tryz.prog 7 #[.string a0,.string a1,.int .i64 a2] w fun e w' => e = .returned (.tuple #[.int .i64 r1,.bool r2]) ∧ Below w.heap.size w w' := by
 have HB := Aside0.mk (Below.refl w.heap.size w); have H : ((spec_wkAsked.f k a0 a1).bind fun t101 => (if t101 = true then ((spec_l1In.f a2 1 40).bind fun t102 => (if t102 = true then (if 0 < (a1.size : Int) then ((spec_wkCount.f k a0 (bt a1 0) 0 (wrap64 (a2 - 1))).bind fun bt103 => (some (bt103.1,bt103.2))) else (none)) else (some (0,false)))) else (some (0,false)))) = some (r1,r2) := h; clear h; replace H := Option.bind_eq_some_iff.mp H; obtain ⟨t101,A40,H⟩ := H; replace H : (if t101 = true then ((spec_l1In.f a2 1 40).bind fun t102 => (if t102 = true then (if 0 < (a1.size : Int) then ((spec_wkCount.f k a0 (bt a1 0) 0 (wrap64 (a2 - 1))).bind fun bt103 => (some (bt103.1,bt103.2))) else (none)) else (some (0,false)))) else (some (0,false))) = some (r1,r2) := H; have A4 := Aside0.mk A40; clear A40
 by_cases c5 : t101 = true
 ·
  subst c5; have H1 : ((spec_l1In.f a2 1 40).bind fun t102 => (if t102 = true then (if 0 < (a1.size : Int) then ((spec_wkCount.f k a0 (bt a1 0) 0 (wrap64 (a2 - 1))).bind fun bt103 => (some (bt103.1,bt103.2))) else (none)) else (some (0,false)))) = some (r1,r2) := by rw [if_pos rfl] at H; exact H
  clear H; have H := H1; clear H1; replace H := Option.bind_eq_some_iff.mp H; obtain ⟨t102,A60,H⟩ := H; replace H : (if t102 = true then (if 0 < (a1.size : Int) then ((spec_wkCount.f k a0 (bt a1 0) 0 (wrap64 (a2 - 1))).bind fun bt103 => (some (bt103.1,bt103.2))) else (none)) else (some (0,false))) = some (r1,r2) := H; have A6 := Aside0.mk A60; clear A60
  by_cases c7 : t102 = true
  ·
   subst c7; have H1 : (if 0 < (a1.size : Int) then ((spec_wkCount.f k a0 (bt a1 0) 0 (wrap64 (a2 - 1))).bind fun bt103 => (some (bt103.1,bt103.2))) else (none)) = some (r1,r2) := by rw [if_pos rfl] at H; exact H
   clear H; have H := H1; clear H1
   by_cases c8 : 0 < (a1.size : Int)
   ·
    rw [if_pos c8] at H; have c8b0 : decide (0 < (a1.size : Int)) = true := decide_eq_true c8; have c8b1 : decide (0 < a1.size) = true := decide_eq_true (by omega); clear c8; replace H := Option.bind_eq_some_iff.mp H; obtain ⟨⟨t103,t104⟩,A100,H⟩ := H; replace H : (some (t103,t104)) = some (r1,r2) := H; have A10 := Aside0.mk A100; clear A100; simp only [Option.some.injEq,Prod.mk.injEq] at H; obtain ⟨rfl,rfl⟩ := H
    go_enter Tryz.func7,Tryz.ntmps7
    go_wp2_with (first | ((with_reducible refine gate_callee (f := 39) rfl ?_); refine goesL_ (some 10) rfl rfl Tryz.func39 (by kernel_rfl) rfl #[.string a0,.string a1] rfl zrr ?_; (with_reducible refine (spec_wkAsked.calls k a0 a1 true _ A4.out).mono ?_); rintro e w' ⟨rfl,⟨nd,rfl⟩⟩; refine ⟨_,rfl,?_⟩) | (go_at_call 40; (with_reducible refine (spec_l1In.calls a2 1 40 true _ A6.out).mono ?_); rintro e w' ⟨rfl,⟨nd,rfl⟩⟩; have p9 : 0 ≤ (0 : Int) := (by omega); have q9 : 0 < a1.size := (by have : (0 : Int) < (a1.size : Int) := zdd; omega); have hx9 : ∀ h : 0 < a1.size,((a1[0]'h).toNat : Int) = bt a1 0 := bt_at a1 0; clear p9; have qi9 : (0 < (a1.size : Int)) = True := eq_true (zdd); replace q9 := eq_true q9) | ((with_reducible refine gate_callee (f := 41) rfl ?_); refine goesL_ (some 22) rfl rfl Tryz.func41 (by kernel_rfl) rfl #[.string a0,.int .u8 (bt a1 0),.int .u8 0,.int .i64 (wrap64 (a2 - 1))] rfl zrr ?_; (with_reducible refine (spec_wkCount.calls k a0 (bt a1 0) 0 (wrap64 (a2 - 1)) t103 t104 _ A10.out).mono ?_); rintro e w11 ⟨rfl,hb⟩; refine ⟨_,rfl,?_⟩; have n0_ := Aside0.mk (below_step zbw hb); clear HB; have HB := n0_; clear n0_; (try clear hb); (try clear hb2); (try clear hk); (try clear hi)))
    go_ret2
    exact ⟨zer,zbw⟩
   · rw [if_neg c8] at H; exact absurd H (by simp)
  ·
   replace c7 := Bool.eq_false_iff.mpr c7; subst c7; have H1 : (some (0,false)) = some (r1,r2) := by rw [if_neg (show ¬ (false = true) by decide)] at H; exact H
   clear H; have H := H1; clear H1; simp only [Option.some.injEq,Prod.mk.injEq] at H; obtain ⟨rfl,rfl⟩ := H
   go_enter Tryz.func7,Tryz.ntmps7
   go_wp2_with (first | ((with_reducible refine gate_callee (f := 39) rfl ?_); refine goesL_ (some 10) rfl rfl Tryz.func39 (by kernel_rfl) rfl #[.string a0,.string a1] rfl zrr ?_; (with_reducible refine (spec_wkAsked.calls k a0 a1 true _ A4.out).mono ?_); rintro e w' ⟨rfl,⟨nd,rfl⟩⟩; refine ⟨_,rfl,?_⟩) | (go_at_call 40; (with_reducible refine (spec_l1In.calls a2 1 40 false _ A6.out).mono ?_); rintro e w' ⟨rfl,⟨nd,rfl⟩⟩))
   go_ret2
   exact ⟨zer,zbw⟩
 ·
  replace c5 := Bool.eq_false_iff.mpr c5; subst c5; have H1 : (some (0,false)) = some (r1,r2) := by rw [if_neg (show ¬ (false = true) by decide)] at H; exact H
  clear H; have H := H1; clear H1; simp only [Option.some.injEq,Prod.mk.injEq] at H; obtain ⟨rfl,rfl⟩ := H
  go_enter Tryz.func7,Tryz.ntmps7
  go_wp2_with (first | ((with_reducible refine gate_callee (f := 39) rfl ?_); refine goesL_ (some 10) rfl rfl Tryz.func39 (by kernel_rfl) rfl #[.string a0,.string a1] rfl zrr ?_; (with_reducible refine (spec_wkAsked.calls k a0 a1 false _ A4.out).mono ?_); rintro e w' ⟨rfl,⟨nd,rfl⟩⟩; refine ⟨_,rfl,?_⟩))
  go_ret2
  exact ⟨zer,zbw⟩

end Go.Proofs.YtffbfkfbeggdnaaGreatDoor.P
-- printed by xprint.py
namespace Go.Proofs.YtffbfkfbeggdnaaGreatDoor.P
open Go.RowKit Go.Proofs.YtffbfkfbeggdnaaGreatDoorW.PrintWords Go.Proofs.YtffbfkfbeggdnaaGreatDoorW.PrintLast Go.Proofs.YtffbfkfbeggdnaaGreatDoorW.PrintMore
attribute [local go_sem] max2_int min2_int max_two min_two max_three min_three max_four min_four
set_option linter.unusedVariables false
set_option linter.unusedSimpArgs false

def spec_CountRounds.f (k : Nat) (a0 : ByteArray) (a1 : ByteArray) (a2 : Int) : Option (Int × Bool) := (spec_CountBetween.f k a0 a1 a1 a2).bind fun bt101 => (some (bt101.1,bt101.2))
set_option maxHeartbeats 8000000 in
set_option maxRecDepth 100000 in
theorem spec_CountRounds.calls (k : Nat) (a0 : ByteArray) (a1 : ByteArray) (a2 : Int) (r1 : Int) (r2 : Bool) (w : World) (h : spec_CountRounds.f k a0 a1 a2 = some (r1,r2)) :
  Calls Tryz.prog 29 #[.string a0,.string a1,.int .i64 a2] w fun e w' => e = .returned (.tuple #[.int .i64 r1,.bool r2]) ∧ Below w.heap.size w w' := by
 have HB := Aside0.mk (Below.refl w.heap.size w); have H : ((spec_CountBetween.f k a0 a1 a1 a2).bind fun bt101 => (some (bt101.1,bt101.2))) = some (r1,r2) := h; clear h; replace H := Option.bind_eq_some_iff.mp H; obtain ⟨⟨t101,t102⟩,A40,H⟩ := H; replace H : (some (t101,t102)) = some (r1,r2) := H; have A4 := Aside0.mk A40; clear A40; simp only [Option.some.injEq,Prod.mk.injEq] at H; obtain ⟨rfl,rfl⟩ := H
 go_enter Tryz.func29,Tryz.ntmps29
 go_wp2_with (first | ((with_reducible refine gate_callee (f := 24) rfl ?_); refine goesL_ (some 12) rfl rfl Tryz.func24 (by kernel_rfl) rfl #[.string a0,.string a1,.string a1,.int .i64 a2] rfl zrr ?_; (with_reducible refine (spec_CountBetween.calls k a0 a1 a1 a2 t101 t102 _ A4.out).mono ?_); rintro e w5 ⟨rfl,hb⟩; refine ⟨_,rfl,?_⟩; have n0_ := Aside0.mk (below_step zbw hb); clear HB; have HB := n0_; clear n0_; (try clear hb); (try clear hb2); (try clear hk); (try clear hi)))
 go_ret2
 exact ⟨zer,zbw⟩

end Go.Proofs.YtffbfkfbeggdnaaGreatDoor.P
-- printed by xprint.py
namespace Go.Proofs.YtffbfkfbeggdnaaGreatDoor.P
open Go.RowKit Go.Proofs.YtffbfkfbeggdnaaGreatDoorW.PrintWords Go.Proofs.YtffbfkfbeggdnaaGreatDoorW.PrintLast Go.Proofs.YtffbfkfbeggdnaaGreatDoorW.PrintMore
attribute [local go_sem] max2_int min2_int max_two min_two max_three min_three max_four min_four
set_option linter.unusedVariables false
set_option linter.unusedSimpArgs false

/-- A state of type 50 at block g of W; what its slices lead to came in by w0. -/
def IsS50 (w0 W : World) (g : Nat) (f0 : List Int) (f1 : Int) (f2 : Int) : Prop := ∃ A0 c0,W.heap[g]? = some (.cells #[.slice A0 f0.length c0,.int .i64 f1,.int .u64 f2] 50 (0,0)) ∧ w0.heap.size ≤ g ∧ Kd.C (Kd.int .u8) w0 A0 f0.length f0
theorem IsS50.grown {w0 W : World} {g : Nat} {f0 : List Int} {f1 : Int} {f2 : Int} {W1 : World} {row : Option Nat} (h : IsS50 w0 W g f0 f1 f2) (hw : W.grownBy W1 row) (hne : some g ≠ row) : IsS50 w0 W1 g f0 f1 f2 := by
 obtain ⟨A0,c0,hb,hg,hr0⟩ := h; exact ⟨A0,c0,blk_grown hb hw hne,hg,hr0⟩
theorem IsS50.own_neN {w0 W : World} {g : Nat} {f0 : List Int} {f1 : Int} {f2 : Int} {α : Type} {d : Kd α} {e : Nat} {base : Nat} {ok : Nat → Prop} {v : Value} {xs : List α} (h : IsS50 w0 W g f0 f1 f2) (ho : Kd.N d e W base ok v xs) (ht : e ≠ 50) : some g ≠ v.ownBlock := by
 obtain ⟨A0,c0,hb,hg,hr0⟩ := h; exact Kd.N_ne ho hb ht
theorem IsS50.fresh {w0 W : World} {g : Nat} {f0 : List Int} {f1 : Int} {f2 : Int} (h : IsS50 w0 W g f0 f1 f2) : ∀ k,W.heap.size ≤ k → k ≠ g := by
 obtain ⟨A0,c0,hb,hg,hr0⟩ := h; exact Kd.freshB hb
theorem IsS50.kept {w0 W : World} {g : Nat} {f0 : List Int} {f1 : Int} {f2 : Int} {W1 : World} {S : Nat → Prop} (h : IsS50 w0 W g f0 f1 f2) (hk : Kept W W1 S) (hne : ¬ S g) : IsS50 w0 W1 g f0 f1 f2 := by
 obtain ⟨A0,c0,hb,hg,hr0⟩ := h; exact ⟨A0,c0,blk_kept hb hk hne,hg,hr0⟩
theorem IsS50.below {w0 W : World} {g : Nat} {f0 : List Int} {f1 : Int} {f2 : Int} {W1 : World} (h : IsS50 w0 W g f0 f1 f2) (hw : Below W.heap.size W W1) : IsS50 w0 W1 g f0 f1 f2 := h.grown (grown_of_below hw none) (by simp)
theorem IsS50.alloc {w0 W : World} {g : Nat} {f0 : List Int} {f1 : Int} {f2 : Int} (h : IsS50 w0 W g f0 f1 f2) (o : Obj) : IsS50 w0 (W.alloc o) g f0 f1 f2 := h.below (below_alloc (Below.refl _ _) o)
theorem IsS50.drewN {w0 W : World} {g : Nat} {f0 : List Int} {f1 : Int} {f2 : Int} (h : IsS50 w0 W g f0 f1 f2) (m : Nat) : IsS50 w0 (W.drewN m) g f0 f1 f2 := h
theorem IsS50.drew {w0 W : World} {g : Nat} {f0 : List Int} {f1 : Int} {f2 : Int} (h : IsS50 w0 W g f0 f1 f2) : IsS50 w0 W.drew g f0 f1 f2 := h
theorem IsS50.at_ {w0 W : World} {g : Nat} {f0 : List Int} {f1 : Int} {f2 : Int} {w' : World} {m : Nat} (hq : W.drewN m = w') (h : IsS50 w0 W g f0 f1 f2) : IsS50 w0 w' g f0 f1 f2 := by subst hq; exact IsS50.drewN h m
theorem IsS50.apart {w0 W : World} {g : Nat} {f0 : List Int} {f1 : Int} {f2 : Int} {α : Type} {d : Kd α} {e : Nat} {base : Nat} {ok : Nat → Prop} {v : Value} {xs : List α} (h : IsS50 w0 W g f0 f1 f2) (ho : d.R e W base ok v xs) (ht : ∀ q,q ∈ e :: d.E → q ≠ 50) : d.R e W base (fun k => ok k ∧ k ≠ g) v xs := by
 obtain ⟨A0,c0,hb,hg,hr0⟩ := h; exact Kd.R_types ho hb ht
theorem IsS50.own_ne {w0 W : World} {g : Nat} {f0 : List Int} {f1 : Int} {f2 : Int} {α : Type} {d : Kd α} {e : Nat} {base : Nat} {ok : Nat → Prop} {v : Value} {xs : List α} (h : IsS50 w0 W g f0 f1 f2) (ho : d.R e W base ok v xs) (ht : e ≠ 50) : some g ≠ v.ownBlock := by
 obtain ⟨A0,c0,hb,hg,hr0⟩ := h; exact Kd.R_ne ho hb ht
theorem IsS50.apartQ {w0 W : World} {g : Nat} {f0 : List Int} {f1 : Int} {f2 : Int} {α : Type} {d : Kd α} {e : Nat} {base : Nat} {ok : Nat → Prop} {v : Value} {xs : List α} (h : IsS50 w0 W g f0 f1 f2) (ho : d.Q e W base ok v xs) (ht : ∀ q,q ∈ e :: d.E → q ≠ 50) : d.Q e W base (fun k => ok k ∧ k ≠ g) v xs := by
 obtain ⟨A0,c0,hb,hg,hr0⟩ := h; exact Kd.Q_types ho hb ht
theorem IsS50.own_neQ {w0 W : World} {g : Nat} {f0 : List Int} {f1 : Int} {f2 : Int} {α : Type} {d : Kd α} {e : Nat} {base : Nat} {ok : Nat → Prop} {v : Value} {xs : List α} (h : IsS50 w0 W g f0 f1 f2) (ho : d.Q e W base ok v xs) (ht : e ≠ 50) : some g ≠ v.ownBlock := by
 obtain ⟨A0,c0,hb,hg,hr0⟩ := h; exact Kd.Q_ne ho hb ht
theorem IsS50.apartS {w0 W : World} {g : Nat} {f0 : List Int} {f1 : Int} {f2 : Int} {α : Type} {d : Kd α} {e : Nat} {base : Nat} {ok : Nat → Prop} {v : Value} {xs : List α} (h : IsS50 w0 W g f0 f1 f2) (ho : d.S e W base ok v xs) (ht : ∀ q,q ∈ e :: d.E → q ≠ 50) : d.S e W base (fun k => ok k ∧ k ≠ g) v xs := by
 obtain ⟨A0,c0,hb,hg,hr0⟩ := h; exact Kd.S_types ho hb ht
theorem IsS50.own_neS {w0 W : World} {g : Nat} {f0 : List Int} {f1 : Int} {f2 : Int} {α : Type} {d : Kd α} {e : Nat} {base : Nat} {ok : Nat → Prop} {v : Value} {xs : List α} (h : IsS50 w0 W g f0 f1 f2) (ho : d.S e W base ok v xs) (ht : e ≠ 50) : some g ≠ v.ownBlock := by
 obtain ⟨A0,c0,hb,hg,hr0⟩ := h; exact Kd.S_ne ho hb ht
theorem IsS50.lt {w0 W : World} {g : Nat} {f0 : List Int} {f1 : Int} {f2 : Int} (h : IsS50 w0 W g f0 f1 f2) : g < W.heap.size := by
 obtain ⟨A0,c0,hb,hg,hr0⟩ := h; exact blk_lt hb
theorem IsS50.ge {w0 W : World} {g : Nat} {f0 : List Int} {f1 : Int} {f2 : Int} (h : IsS50 w0 W g f0 f1 f2) : w0.heap.size ≤ g := by
 obtain ⟨A0,c0,hb,hg,hr0⟩ := h; exact hg
theorem IsS50.ne_blk {w0 W : World} {g : Nat} {f0 : List Int} {f1 : Int} {f2 : Int} {a : Nat} {cs : Array Value} {t : TypeId} {fr : Nat × Nat} (h : IsS50 w0 W g f0 f1 f2) (hb2 : W.heap[a]? = some (.cells cs t fr)) (ht : t ≠ 50) : g ≠ a := by
 obtain ⟨A0,c0,hb,hg,hr0⟩ := h; rintro rfl; rw [hb] at hb2; injection hb2 with hb2
 injection hb2 with _ ht2
 exact ht ht2.symm
theorem IsS50.far {w0 W : World} {g : Nat} {f0 : List Int} {f1 : Int} {f2 : Int} {p : Addr} (h : IsS50 w0 W g f0 f1 f2) (hne : g ≠ p.block) (u : Value) : IsS50 w0 (W.setCell p u) g f0 f1 f2 := by
 obtain ⟨A0,c0,hb,hg,hr0⟩ := h; exact ⟨A0,c0,blk_far hb hne u,hg,hr0⟩
theorem cellS50_0 {W : World} {g : Nat} {A0 : Option Addr} {c0 : Nat} {f0 : List Int} {f1 : Int} {f2 : Int} (h : W.heap[g]? = some (.cells #[.slice A0 f0.length c0,.int .i64 f1,.int .u64 f2] 50 (0,0))) : W.cell? ⟨g,0,none⟩ = some (.slice A0 f0.length c0) := (blk_cell h 0).trans rfl
theorem cellS50_1 {W : World} {g : Nat} {A0 : Option Addr} {c0 : Nat} {f0 : List Int} {f1 : Int} {f2 : Int} (h : W.heap[g]? = some (.cells #[.slice A0 f0.length c0,.int .i64 f1,.int .u64 f2] 50 (0,0))) : W.cell? ⟨g,1,none⟩ = some (.int .i64 f1) := (blk_cell h 1).trans rfl
theorem IsS50.set_1 {w0 W : World} {g : Nat} {f0 : List Int} {f1 : Int} {f2 : Int} (h : IsS50 w0 W g f0 f1 f2) (x : Int) : IsS50 w0 (W.setCell ⟨g,1,none⟩ (.int .i64 x)) g f0 x f2 := by
 obtain ⟨A0,c0,hb,hg,hr0⟩ := h; exact ⟨A0,c0,by simpa using blk_set hb 1 (.int .i64 x),hg,hr0⟩
theorem cellS50_2 {W : World} {g : Nat} {A0 : Option Addr} {c0 : Nat} {f0 : List Int} {f1 : Int} {f2 : Int} (h : W.heap[g]? = some (.cells #[.slice A0 f0.length c0,.int .i64 f1,.int .u64 f2] 50 (0,0))) : W.cell? ⟨g,2,none⟩ = some (.int .u64 f2) := (blk_cell h 2).trans rfl
theorem IsS50.set_2 {w0 W : World} {g : Nat} {f0 : List Int} {f1 : Int} {f2 : Int} (h : IsS50 w0 W g f0 f1 f2) (x : Int) : IsS50 w0 (W.setCell ⟨g,2,none⟩ (.int .u64 x)) g f0 f1 x := by
 obtain ⟨A0,c0,hb,hg,hr0⟩ := h; exact ⟨A0,c0,by simpa using blk_set hb 2 (.int .u64 x),hg,hr0⟩
theorem IsS50.new (w0 W : World) (A0 : Option Addr) (c0 : Nat) (f0 : List Int) (f1 : Int) (f2 : Int) (hB : Below w0.heap.size w0 W) (hr0 : Kd.C (Kd.int .u8) w0 A0 f0.length f0) : IsS50 w0 (W.alloc (.cells #[.slice A0 f0.length c0,.int .i64 f1,.int .u64 f2] 50)) W.heap.size f0 f1 f2 := ⟨A0,c0,by simpa using heap_alloc_new W _,hB.size,hr0⟩

def spec_l1Cur_next.f (s0_0 : List Int) (s0_1 : Int) (s0_2 : Int) : Option (Int × Int × Int) := if s0_1 < (s0_0.length : Int) then (if 0 ≤ s0_1 then (if (wrap64 (s0_1 + 1)) ≤ (s0_0.length : Int) then (some (wrap64 (rd s0_0 s0_1),wrap64 (s0_1 + 1),IntKind.u64.wrap ((IntKind.u64.wrap ((IntKind.u64.wrap (s0_2 * 6364136223846793005)) + (IntKind.u64.wrap (wrap64 (rd s0_0 s0_1))))) + 1442695040888963407))) else (some (wrap64 (Go.bits .and .u64 ((IntKind.u64.wrap ((IntKind.u64.wrap ((IntKind.u64.wrap (s0_2 * 6364136223846793005)) + (IntKind.u64.wrap (wrap64 (rd s0_0 s0_1))))) + 1442695040888963407)) / 1099511627776) 255),wrap64 (s0_1 + 1),IntKind.u64.wrap ((IntKind.u64.wrap ((IntKind.u64.wrap (s0_2 * 6364136223846793005)) + (IntKind.u64.wrap (wrap64 (rd s0_0 s0_1))))) + 1442695040888963407)))) else (none)) else (if (wrap64 (s0_1 + 1)) ≤ (s0_0.length : Int) then (some (0,wrap64 (s0_1 + 1),IntKind.u64.wrap ((IntKind.u64.wrap (IntKind.u64.wrap (s0_2 * 6364136223846793005))) + 1442695040888963407))) else (some (wrap64 (Go.bits .and .u64 ((IntKind.u64.wrap ((IntKind.u64.wrap (IntKind.u64.wrap (s0_2 * 6364136223846793005))) + 1442695040888963407)) / 1099511627776) 255),wrap64 (s0_1 + 1),IntKind.u64.wrap ((IntKind.u64.wrap (IntKind.u64.wrap (s0_2 * 6364136223846793005))) + 1442695040888963407))))
set_option maxHeartbeats 8000000 in
set_option maxRecDepth 100000 in
theorem spec_l1Cur_next.calls (g : Nat) (s0_0 : List Int) (s0_1 : Int) (s0_2 : Int) (r1 : Int) (r2 : Int) (r3 : Int) (w0 w : World) (hI : IsS50 w0 w g s0_0 s0_1 s0_2) (hB : Below w0.heap.size w0 w) (h : spec_l1Cur_next.f s0_0 s0_1 s0_2 = some (r1,r2,r3)) :
  Calls Tryz.prog 73 #[.pointer (some ⟨g,0,none⟩)] w fun e w' => e = .returned (.int .i64 r1) ∧ IsS50 w0 w' g s0_0 r2 r3 ∧ Below w0.heap.size w0 w' ∧ KeepBut w w' g none := by
 have HI0 := Aside0.mk hI; have HK := Aside0.mk (KeepBut.refl w g none); have HL := Aside0.mk hB.size; clear hI; have HW0 := Aside0.mk hB.size; have HB := Aside0.mk hB; clear hB; have H : (if s0_1 < (s0_0.length : Int) then (if 0 ≤ s0_1 then (if (wrap64 (s0_1 + 1)) ≤ (s0_0.length : Int) then (some (wrap64 (rd s0_0 s0_1),wrap64 (s0_1 + 1),IntKind.u64.wrap ((IntKind.u64.wrap ((IntKind.u64.wrap (s0_2 * 6364136223846793005)) + (IntKind.u64.wrap (wrap64 (rd s0_0 s0_1))))) + 1442695040888963407))) else (some (wrap64 (Go.bits .and .u64 ((IntKind.u64.wrap ((IntKind.u64.wrap ((IntKind.u64.wrap (s0_2 * 6364136223846793005)) + (IntKind.u64.wrap (wrap64 (rd s0_0 s0_1))))) + 1442695040888963407)) / 1099511627776) 255),wrap64 (s0_1 + 1),IntKind.u64.wrap ((IntKind.u64.wrap ((IntKind.u64.wrap (s0_2 * 6364136223846793005)) + (IntKind.u64.wrap (wrap64 (rd s0_0 s0_1))))) + 1442695040888963407)))) else (none)) else (if (wrap64 (s0_1 + 1)) ≤ (s0_0.length : Int) then (some (0,wrap64 (s0_1 + 1),IntKind.u64.wrap ((IntKind.u64.wrap (IntKind.u64.wrap (s0_2 * 6364136223846793005))) + 1442695040888963407))) else (some (wrap64 (Go.bits .and .u64 ((IntKind.u64.wrap ((IntKind.u64.wrap (IntKind.u64.wrap (s0_2 * 6364136223846793005))) + 1442695040888963407)) / 1099511627776) 255),wrap64 (s0_1 + 1),IntKind.u64.wrap ((IntKind.u64.wrap (IntKind.u64.wrap (s0_2 * 6364136223846793005))) + 1442695040888963407))))) = some (r1,r2,r3) := h; clear h
 by_cases c2 : s0_1 < (s0_0.length : Int)
 ·
  rw [if_pos c2] at H; have c2b0 : decide (s0_1 < (s0_0.length : Int)) = true := decide_eq_true c2; clear c2
  by_cases c3 : 0 ≤ s0_1
  ·
   rw [if_pos c3] at H; have c3b0 : decide (0 ≤ s0_1) = true := decide_eq_true c3; clear c3
   by_cases c4 : (wrap64 (s0_1 + 1)) ≤ (s0_0.length : Int)
   ·
    rw [if_pos c4] at H; have c4b0 : decide ((wrap64 (s0_1 + 1)) ≤ (s0_0.length : Int)) = true := decide_eq_true c4; clear c4; simp only [Option.some.injEq,Prod.mk.injEq] at H; obtain ⟨rfl,rfl,rfl⟩ := H; obtain ⟨ASz5_0,cSz5_0,HGz5,hgz5,HSz5_0⟩ := HI0.out; have hcz5_0 := cellS50_0 HGz5; have hcz5_1 := cellS50_1 HGz5; have hcz5_2 := cellS50_2 HGz5; have hfz5_1 := blk_frozen HGz5 1; have hfz5_2 := blk_frozen HGz5 2; clear HGz5 hgz5; have p101 : 0 ≤ (s0_1 : Int) := zdd; have q101 : s0_1 < (s0_0.length : Int) := zdd; obtain ⟨ad101,e101,hx101_0⟩ := Kd.at_int HSz5_0 s0_1 p101 q101
    cases e101
    replace hx101_0 := pw_cell_below HB.out hx101_0; replace p101 := eq_true p101; replace q101 := eq_true q101
    go_enter Tryz.func73,Tryz.ntmps73
    go_wp2
    repeat (go_quiet (fail); try go_wp2)
    go_ret
    exact ⟨zer,by repeat (first | (with_reducible first | exact HI0.out | apply IsS50.alloc | apply IsS50.drewN | apply IsS50.drew | apply IsS50.set_1 | apply IsS50.set_2) | exact HI0.out),by repeat (first | (with_reducible first | exact HB.out | apply below_alloc | apply pw_below_drewN | apply below_drew1 | refine below_set ?_ (IsS50.ge HI0.out)) | exact HB.out),by repeat (first | (with_reducible first | exact HK.out | apply KeepBut.set_ | apply keep_drewN | apply keep_drew | apply keep_alloc) | exact HK.out)⟩
   ·
    rw [if_neg c4] at H; have c4b0 : decide ((wrap64 (s0_1 + 1)) ≤ (s0_0.length : Int)) = false := decide_eq_false c4; clear c4; simp only [Option.some.injEq,Prod.mk.injEq] at H; obtain ⟨rfl,rfl,rfl⟩ := H; obtain ⟨ASz6_0,cSz6_0,HGz6,hgz6,HSz6_0⟩ := HI0.out; have hcz6_0 := cellS50_0 HGz6; have hcz6_1 := cellS50_1 HGz6; have hcz6_2 := cellS50_2 HGz6; have hfz6_1 := blk_frozen HGz6 1; have hfz6_2 := blk_frozen HGz6 2; clear HGz6 hgz6; have p101 : 0 ≤ (s0_1 : Int) := zdd; have q101 : s0_1 < (s0_0.length : Int) := zdd; obtain ⟨ad101,e101,hx101_0⟩ := Kd.at_int HSz6_0 s0_1 p101 q101
    cases e101
    replace hx101_0 := pw_cell_below HB.out hx101_0; replace p101 := eq_true p101; replace q101 := eq_true q101
    go_enter Tryz.func73,Tryz.ntmps73
    go_wp2
    repeat (go_quiet (fail); try go_wp2)
    go_ret
    exact ⟨zer,by repeat (first | (with_reducible first | exact HI0.out | apply IsS50.alloc | apply IsS50.drewN | apply IsS50.drew | apply IsS50.set_1 | apply IsS50.set_2) | exact HI0.out),by repeat (first | (with_reducible first | exact HB.out | apply below_alloc | apply pw_below_drewN | apply below_drew1 | refine below_set ?_ (IsS50.ge HI0.out)) | exact HB.out),by repeat (first | (with_reducible first | exact HK.out | apply KeepBut.set_ | apply keep_drewN | apply keep_drew | apply keep_alloc) | exact HK.out)⟩
  · rw [if_neg c3] at H; exact absurd H (by simp)
 ·
  rw [if_neg c2] at H; have c2b0 : decide (s0_1 < (s0_0.length : Int)) = false := decide_eq_false c2; clear c2
  by_cases c7 : (wrap64 (s0_1 + 1)) ≤ (s0_0.length : Int)
  ·
   rw [if_pos c7] at H; have c7b0 : decide ((wrap64 (s0_1 + 1)) ≤ (s0_0.length : Int)) = true := decide_eq_true c7; clear c7; simp only [Option.some.injEq,Prod.mk.injEq] at H; obtain ⟨rfl,rfl,rfl⟩ := H; obtain ⟨ASz8_0,cSz8_0,HGz8,hgz8,HSz8_0⟩ := HI0.out; have hcz8_0 := cellS50_0 HGz8; have hcz8_1 := cellS50_1 HGz8; have hcz8_2 := cellS50_2 HGz8; have hfz8_1 := blk_frozen HGz8 1; have hfz8_2 := blk_frozen HGz8 2; clear HGz8 hgz8
   go_enter Tryz.func73,Tryz.ntmps73
   go_wp2
   repeat (go_quiet (fail); try go_wp2)
   go_ret
   exact ⟨zer,by repeat (first | (with_reducible first | exact HI0.out | apply IsS50.alloc | apply IsS50.drewN | apply IsS50.drew | apply IsS50.set_1 | apply IsS50.set_2) | exact HI0.out),by repeat (first | (with_reducible first | exact HB.out | apply below_alloc | apply pw_below_drewN | apply below_drew1 | refine below_set ?_ (IsS50.ge HI0.out)) | exact HB.out),by repeat (first | (with_reducible first | exact HK.out | apply KeepBut.set_ | apply keep_drewN | apply keep_drew | apply keep_alloc) | exact HK.out)⟩
  ·
   rw [if_neg c7] at H; have c7b0 : decide ((wrap64 (s0_1 + 1)) ≤ (s0_0.length : Int)) = false := decide_eq_false c7; clear c7; simp only [Option.some.injEq,Prod.mk.injEq] at H; obtain ⟨rfl,rfl,rfl⟩ := H; obtain ⟨ASz9_0,cSz9_0,HGz9,hgz9,HSz9_0⟩ := HI0.out; have hcz9_0 := cellS50_0 HGz9; have hcz9_1 := cellS50_1 HGz9; have hcz9_2 := cellS50_2 HGz9; have hfz9_1 := blk_frozen HGz9 1; have hfz9_2 := blk_frozen HGz9 2; clear HGz9 hgz9
   go_enter Tryz.func73,Tryz.ntmps73
   go_wp2
   repeat (go_quiet (fail); try go_wp2)
   go_ret
   exact ⟨zer,by repeat (first | (with_reducible first | exact HI0.out | apply IsS50.alloc | apply IsS50.drewN | apply IsS50.drew | apply IsS50.set_1 | apply IsS50.set_2) | exact HI0.out),by repeat (first | (with_reducible first | exact HB.out | apply below_alloc | apply pw_below_drewN | apply below_drew1 | refine below_set ?_ (IsS50.ge HI0.out)) | exact HB.out),by repeat (first | (with_reducible first | exact HK.out | apply KeepBut.set_ | apply keep_drewN | apply keep_drew | apply keep_alloc) | exact HK.out)⟩

end Go.Proofs.YtffbfkfbeggdnaaGreatDoor.P
-- printed by xprint.py
namespace Go.Proofs.YtffbfkfbeggdnaaGreatDoor.P
open Go.RowKit Go.Proofs.YtffbfkfbeggdnaaGreatDoorW.PrintWords Go.Proofs.YtffbfkfbeggdnaaGreatDoorW.PrintLast Go.Proofs.YtffbfkfbeggdnaaGreatDoorW.PrintMore
attribute [local go_sem] max2_int min2_int max_two min_two max_three min_three max_four min_four
set_option linter.unusedVariables false
set_option linter.unusedSimpArgs false

def spec_l1Cur_pick.f (s0_0 : List Int) (s0_1 : Int) (s0_2 : Int) (a1 : Int) : Option (Int × Int × Int) := if a1 ≤ 1 then (some (0,s0_1,s0_2)) else ((spec_l1Cur_next.f s0_0 s0_1 s0_2).bind fun bt101 => (if a1 > 200 then ((spec_l1Cur_next.f s0_0 bt101.2.1 bt101.2.2).bind fun bt104 => (if a1 = 0 then (none) else (some (Int.tmod (wrap64 ((wrap64 (bt101.1 * 256)) + bt104.1)) a1,bt104.2.1,bt104.2.2)))) else (if a1 = 0 then (none) else (some (Int.tmod bt101.1 a1,bt101.2.1,bt101.2.2)))))
set_option maxHeartbeats 8000000 in
set_option maxRecDepth 100000 in
theorem spec_l1Cur_pick.calls (g : Nat) (s0_0 : List Int) (s0_1 : Int) (s0_2 : Int) (a1 : Int) (r1 : Int) (r2 : Int) (r3 : Int) (w0 w : World) (hI : IsS50 w0 w g s0_0 s0_1 s0_2) (hB : Below w0.heap.size w0 w) (h : spec_l1Cur_pick.f s0_0 s0_1 s0_2 a1 = some (r1,r2,r3)) :
  Calls Tryz.prog 61 #[.pointer (some ⟨g,0,none⟩),.int .i64 a1] w fun e w' => e = .returned (.int .i64 r1) ∧ IsS50 w0 w' g s0_0 r2 r3 ∧ Below w0.heap.size w0 w' ∧ KeepBut w w' g none := by
 have HI0 := Aside0.mk hI; have HK := Aside0.mk (KeepBut.refl w g none); have HL := Aside0.mk hB.size; clear hI; have HW0 := Aside0.mk hB.size; have HB := Aside0.mk hB; clear hB; have H : (if a1 ≤ 1 then (some (0,s0_1,s0_2)) else ((spec_l1Cur_next.f s0_0 s0_1 s0_2).bind fun bt101 => (if a1 > 200 then ((spec_l1Cur_next.f s0_0 bt101.2.1 bt101.2.2).bind fun bt104 => (if a1 = 0 then (none) else (some (Int.tmod (wrap64 ((wrap64 (bt101.1 * 256)) + bt104.1)) a1,bt104.2.1,bt104.2.2)))) else (if a1 = 0 then (none) else (some (Int.tmod bt101.1 a1,bt101.2.1,bt101.2.2)))))) = some (r1,r2,r3) := h; clear h
 by_cases c3 : a1 ≤ 1
 ·
  rw [if_pos c3] at H; have c3b0 : decide (a1 ≤ 1) = true := decide_eq_true c3; clear c3; simp only [Option.some.injEq,Prod.mk.injEq] at H; obtain ⟨rfl,rfl,rfl⟩ := H
  go_enter Tryz.func61,Tryz.ntmps61
  go_wp2
  go_ret
  exact ⟨zer,by repeat (first | (with_reducible first | exact HI0.out | apply IsS50.alloc | apply IsS50.drewN | apply IsS50.drew | apply IsS50.set_1 | apply IsS50.set_2) | exact HI0.out),by repeat (first | (with_reducible first | exact HB.out | apply below_alloc | apply pw_below_drewN | apply below_drew1 | refine below_set ?_ (IsS50.ge HI0.out)) | exact HB.out),by repeat (first | (with_reducible first | exact HK.out | apply KeepBut.set_ | apply keep_drewN | apply keep_drew | apply keep_alloc) | exact HK.out)⟩
 ·
  rw [if_neg c3] at H; have c3b0 : decide (a1 ≤ 1) = false := decide_eq_false c3; clear c3; replace H := Option.bind_eq_some_iff.mp H; obtain ⟨⟨t101,t102,t103⟩,A40,H⟩ := H; replace H : (if a1 > 200 then ((spec_l1Cur_next.f s0_0 t102 t103).bind fun bt104 => (if a1 = 0 then (none) else (some (Int.tmod (wrap64 ((wrap64 (t101 * 256)) + bt104.1)) a1,bt104.2.1,bt104.2.2)))) else (if a1 = 0 then (none) else (some (Int.tmod t101 a1,t102,t103)))) = some (r1,r2,r3) := H; have A4 := Aside0.mk A40; clear A40
  by_cases c5 : a1 > 200
  ·
   rw [if_pos c5] at H; have c5b0 : decide (200 < a1) = true := decide_eq_true c5; clear c5; replace H := Option.bind_eq_some_iff.mp H; obtain ⟨⟨t104,t105,t106⟩,A60,H⟩ := H; replace H : (if a1 = 0 then (none) else (some (Int.tmod (wrap64 ((wrap64 (t101 * 256)) + t104)) a1,t105,t106))) = some (r1,r2,r3) := H; have A6 := Aside0.mk A60; clear A60
   by_cases c7 : a1 = 0
   · rw [if_pos c7] at H; exact absurd H (by simp)
   ·
    rw [if_neg c7] at H; have c7b0 : (a1 == 0) = false := beq_eq_false_iff_ne.mpr c7; have c7b1 : (a1 != 0) = true := bne_iff_ne.mpr c7; simp only [Option.some.injEq,Prod.mk.injEq] at H; obtain ⟨rfl,rfl,rfl⟩ := H
    go_enter Tryz.func61,Tryz.ntmps61
    go_wp2_with (first | ((with_reducible refine gate_callee (f := 73) rfl ?_); refine goesL_ (some 9) rfl rfl Tryz.func73 (by kernel_rfl) rfl #[.pointer (some ⟨g,0,none⟩)] rfl zrr ?_; (with_reducible refine (spec_l1Cur_next.calls g s0_0 s0_1 s0_2 t101 t102 t103 w0 _ ?side1 ?side2 A4.out).mono ?_); (case side1 => repeat (first | (with_reducible first | exact HI0.out | apply IsS50.alloc | apply IsS50.drewN | apply IsS50.drew | apply IsS50.set_1 | apply IsS50.set_2) | exact HI0.out)); (case side2 => repeat (first | (with_reducible first | exact HB.out | apply below_alloc | apply pw_below_drewN | apply below_drew1 | refine below_set ?_ (IsS50.ge HI0.out)) | exact HB.out)); rintro e w8 ⟨rfl,hi,hb,hk⟩; refine ⟨_,rfl,?_⟩; have n0_ := Aside0.mk (KeepBut.trans (by repeat (first | (with_reducible first | exact HK.out | apply KeepBut.set_ | apply keep_drewN | apply keep_drew | apply keep_alloc) | exact HK.out)) hk (.inl rfl)); have n1_ := Aside0.mk (hb); have n2_ := Aside0.mk (hi); clear HK; clear HB; clear HI0; have HK := n0_; have HB := n1_; have HI0 := n2_; clear n0_ n1_ n2_; (try clear hb); (try clear hb2); (try clear hk); (try clear hi)) | ((with_reducible refine gate_callee (f := 73) rfl ?_); refine goesL_ (some 15) rfl rfl Tryz.func73 (by kernel_rfl) rfl #[.pointer (some ⟨g,0,none⟩)] rfl zrr ?_; (with_reducible refine (spec_l1Cur_next.calls g s0_0 t102 t103 t104 t105 t106 w0 _ ?side1 ?side2 A6.out).mono ?_); (case side1 => repeat (first | (with_reducible first | exact HI0.out | apply IsS50.alloc | apply IsS50.drewN | apply IsS50.drew | apply IsS50.set_1 | apply IsS50.set_2) | exact HI0.out)); (case side2 => repeat (first | (with_reducible first | exact HB.out | apply below_alloc | apply pw_below_drewN | apply below_drew1 | refine below_set ?_ (IsS50.ge HI0.out)) | exact HB.out)); rintro e w9 ⟨rfl,hi,hb,hk⟩; refine ⟨_,rfl,?_⟩; have n0_ := Aside0.mk (KeepBut.trans (by repeat (first | (with_reducible first | exact HK.out | apply KeepBut.set_ | apply keep_drewN | apply keep_drew | apply keep_alloc) | exact HK.out)) hk (.inl rfl)); have n1_ := Aside0.mk (hb); have n2_ := Aside0.mk (hi); clear HK; clear HB; clear HI0; have HK := n0_; have HB := n1_; have HI0 := n2_; clear n0_ n1_ n2_; (try clear hb); (try clear hb2); (try clear hk); (try clear hi)))
    go_ret
    exact ⟨zer,by repeat (first | (with_reducible first | exact HI0.out | apply IsS50.alloc | apply IsS50.drewN | apply IsS50.drew | apply IsS50.set_1 | apply IsS50.set_2) | exact HI0.out),by repeat (first | (with_reducible first | exact HB.out | apply below_alloc | apply pw_below_drewN | apply below_drew1 | refine below_set ?_ (IsS50.ge HI0.out)) | exact HB.out),by repeat (first | (with_reducible first | exact HK.out | apply KeepBut.set_ | apply keep_drewN | apply keep_drew | apply keep_alloc) | exact HK.out)⟩
  ·
   rw [if_neg c5] at H; have c5b0 : decide (200 < a1) = false := decide_eq_false c5; clear c5
   by_cases c10 : a1 = 0
   · rw [if_pos c10] at H; exact absurd H (by simp)
   ·
    rw [if_neg c10] at H; have c10b0 : (a1 == 0) = false := beq_eq_false_iff_ne.mpr c10; have c10b1 : (a1 != 0) = true := bne_iff_ne.mpr c10; simp only [Option.some.injEq,Prod.mk.injEq] at H; obtain ⟨rfl,rfl,rfl⟩ := H
    go_enter Tryz.func61,Tryz.ntmps61
    go_wp2_with (first | ((with_reducible refine gate_callee (f := 73) rfl ?_); refine goesL_ (some 9) rfl rfl Tryz.func73 (by kernel_rfl) rfl #[.pointer (some ⟨g,0,none⟩)] rfl zrr ?_; (with_reducible refine (spec_l1Cur_next.calls g s0_0 s0_1 s0_2 t101 t102 t103 w0 _ ?side1 ?side2 A4.out).mono ?_); (case side1 => repeat (first | (with_reducible first | exact HI0.out | apply IsS50.alloc | apply IsS50.drewN | apply IsS50.drew | apply IsS50.set_1 | apply IsS50.set_2) | exact HI0.out)); (case side2 => repeat (first | (with_reducible first | exact HB.out | apply below_alloc | apply pw_below_drewN | apply below_drew1 | refine below_set ?_ (IsS50.ge HI0.out)) | exact HB.out)); rintro e w11 ⟨rfl,hi,hb,hk⟩; refine ⟨_,rfl,?_⟩; have n0_ := Aside0.mk (KeepBut.trans (by repeat (first | (with_reducible first | exact HK.out | apply KeepBut.set_ | apply keep_drewN | apply keep_drew | apply keep_alloc) | exact HK.out)) hk (.inl rfl)); have n1_ := Aside0.mk (hb); have n2_ := Aside0.mk (hi); clear HK; clear HB; clear HI0; have HK := n0_; have HB := n1_; have HI0 := n2_; clear n0_ n1_ n2_; (try clear hb); (try clear hb2); (try clear hk); (try clear hi)))
    go_ret
    exact ⟨zer,by repeat (first | (with_reducible first | exact HI0.out | apply IsS50.alloc | apply IsS50.drewN | apply IsS50.drew | apply IsS50.set_1 | apply IsS50.set_2) | exact HI0.out),by repeat (first | (with_reducible first | exact HB.out | apply below_alloc | apply pw_below_drewN | apply below_drew1 | refine below_set ?_ (IsS50.ge HI0.out)) | exact HB.out),by repeat (first | (with_reducible first | exact HK.out | apply KeepBut.set_ | apply keep_drewN | apply keep_drew | apply keep_alloc) | exact HK.out)⟩

end Go.Proofs.YtffbfkfbeggdnaaGreatDoor.P
-- printed by xprint.py
namespace Go.Proofs.YtffbfkfbeggdnaaGreatDoor.P
open Go.RowKit Go.Proofs.YtffbfkfbeggdnaaGreatDoorW.PrintWords Go.Proofs.YtffbfkfbeggdnaaGreatDoorW.PrintLast Go.Proofs.YtffbfkfbeggdnaaGreatDoorW.PrintMore
attribute [local go_sem] max2_int min2_int max_two min_two max_three min_three max_four min_four
set_option linter.unusedVariables false
set_option linter.unusedSimpArgs false

def spec_l1Cur_among.f (s0_0 : List Int) (s0_1 : Int) (s0_2 : Int) (l1 : List Int) : Option (Int × Int × Int) := (spec_l1Cur_pick.f s0_0 s0_1 s0_2 (l1.length : Int)).bind fun bt101 => (if 0 ≤ bt101.1 then (if bt101.1 < (l1.length : Int) then (some (rd l1 bt101.1,bt101.2.1,bt101.2.2)) else (none)) else (none))
set_option maxHeartbeats 8000000 in
set_option maxRecDepth 100000 in
theorem spec_l1Cur_among.calls (g : Nat) (s0_0 : List Int) (s0_1 : Int) (s0_2 : Int) (A1 : Option Addr) (c1 : Nat) (l1 : List Int) (r1 : Int) (r2 : Int) (r3 : Int) (w0 w : World) (hI : IsS50 w0 w g s0_0 s0_1 s0_2) (hB : Below w0.heap.size w0 w) (hr1 : Kd.C (Kd.int .i64) w A1 l1.length l1) (hc1 : l1.length ≤ c1) (hf1 : ∀ ad,A1 = some ad → 0 < l1.length → ad.block ≠ g) (h : spec_l1Cur_among.f s0_0 s0_1 s0_2 l1 = some (r1,r2,r3)) :
  Calls Tryz.prog 32 #[.pointer (some ⟨g,0,none⟩),.slice A1 l1.length c1] w fun e w' => e = .returned (.int .i64 r1) ∧ IsS50 w0 w' g s0_0 r2 r3 ∧ Below w0.heap.size w0 w' ∧ KeepBut w w' g none := by
 have HR1 := Aside0.mk hr1; have HC1 := Aside0.mk hc1; clear hr1 hc1; have HI0 := Aside0.mk hI; have HK := Aside0.mk (KeepBut.refl w g none); have HL := Aside0.mk hB.size; clear hI; have HW0 := Aside0.mk hB.size; have HB := Aside0.mk hB; clear hB; have H : ((spec_l1Cur_pick.f s0_0 s0_1 s0_2 (l1.length : Int)).bind fun bt101 => (if 0 ≤ bt101.1 then (if bt101.1 < (l1.length : Int) then (some (rd l1 bt101.1,bt101.2.1,bt101.2.2)) else (none)) else (none))) = some (r1,r2,r3) := h; clear h; replace H := Option.bind_eq_some_iff.mp H; obtain ⟨⟨t101,t102,t103⟩,A30,H⟩ := H; replace H : (if 0 ≤ t101 then (if t101 < (l1.length : Int) then (some (rd l1 t101,t102,t103)) else (none)) else (none)) = some (r1,r2,r3) := H; have A3 := Aside0.mk A30; clear A30
 by_cases c4 : 0 ≤ t101
 ·
  rw [if_pos c4] at H; have c4b0 : decide (0 ≤ t101) = true := decide_eq_true c4; clear c4
  by_cases c5 : t101 < (l1.length : Int)
  ·
   rw [if_pos c5] at H; have c5b0 : decide (t101 < (l1.length : Int)) = true := decide_eq_true c5; clear c5; simp only [Option.some.injEq,Prod.mk.injEq] at H; obtain ⟨rfl,rfl,rfl⟩ := H
   go_enter Tryz.func32,Tryz.ntmps32
   go_wp2_with (first | ((with_reducible refine gate_callee (f := 61) rfl ?_); refine goesL_ (some 9) rfl rfl Tryz.func61 (by kernel_rfl) rfl #[.pointer (some ⟨g,0,none⟩),.int .i64 (l1.length : Int)] rfl zrr ?_; (with_reducible refine (spec_l1Cur_pick.calls g s0_0 s0_1 s0_2 (l1.length : Int) t101 t102 t103 w0 _ ?side1 ?side2 A3.out).mono ?_); (case side1 => repeat (first | (with_reducible first | exact HI0.out | apply IsS50.alloc | apply IsS50.drewN | apply IsS50.drew | apply IsS50.set_1 | apply IsS50.set_2) | exact HI0.out)); (case side2 => repeat (first | (with_reducible first | exact HB.out | apply below_alloc | apply pw_below_drewN | apply below_drew1 | refine below_set ?_ (IsS50.ge HI0.out)) | exact HB.out)); rintro e w6 ⟨rfl,hi,hb,hk⟩; refine ⟨_,rfl,?_⟩; have n0_ := Aside0.mk (KeepBut.trans (by repeat (first | (with_reducible first | exact HK.out | apply KeepBut.set_ | apply keep_drewN | apply keep_drew | apply keep_alloc) | exact HK.out)) hk (.inl rfl)); have n1_ := Aside0.mk (hb); have n2_ := Aside0.mk (hi); clear HK; clear HB; clear HI0; have HK := n0_; have HB := n1_; have HI0 := n2_; clear n0_ n1_ n2_; (try clear hb); (try clear hb2); (try clear hk); (try clear hi); have p104 : 0 ≤ (t101 : Int) := zdd; have q104 : t101 < (l1.length : Int) := zdd; obtain ⟨ad104,e104,hx104_0⟩ := Kd.at_int HR1.out t101 p104 q104; cases e104; replace hx104_0 := keep_cell HK.out hx104_0 (by first | (rw [add_block]; exact hf1 _ rfl (by omega)) | exact hf1 _ rfl (by omega) | exact hf1 ad104 rfl (by omega)); replace p104 := eq_true p104; replace q104 := eq_true q104))
   go_ret
   exact ⟨zer,by repeat (first | (with_reducible first | exact HI0.out | apply IsS50.alloc | apply IsS50.drewN | apply IsS50.drew | apply IsS50.set_1 | apply IsS50.set_2) | exact HI0.out),by repeat (first | (with_reducible first | exact HB.out | apply below_alloc | apply pw_below_drewN | apply below_drew1 | refine below_set ?_ (IsS50.ge HI0.out)) | exact HB.out),by repeat (first | (with_reducible first | exact HK.out | apply KeepBut.set_ | apply keep_drewN | apply keep_drew | apply keep_alloc) | exact HK.out)⟩
  · rw [if_neg c5] at H; exact absurd H (by simp)
 · rw [if_neg c4] at H; exact absurd H (by simp)

end Go.Proofs.YtffbfkfbeggdnaaGreatDoor.P
-- printed by xprint.py
namespace Go.Proofs.YtffbfkfbeggdnaaGreatDoor.P
open Go.RowKit Go.Proofs.YtffbfkfbeggdnaaGreatDoorW.PrintWords Go.Proofs.YtffbfkfbeggdnaaGreatDoorW.PrintLast Go.Proofs.YtffbfkfbeggdnaaGreatDoorW.PrintMore
attribute [local go_sem] max2_int min2_int max_two min_two max_three min_three max_four min_four
set_option linter.unusedVariables false
set_option linter.unusedSimpArgs false

def spec_l1Cur_of.f (s0_0 : List Int) (s0_1 : Int) (s0_2 : Int) (l1 : List ByteArray) : Option (ByteArray × Int × Int) := (spec_l1Cur_pick.f s0_0 s0_1 s0_2 (l1.length : Int)).bind fun bt101 => (if 0 ≤ bt101.1 then (if bt101.1 < (l1.length : Int) then (some (rdOf ByteArray.empty l1 bt101.1,bt101.2.1,bt101.2.2)) else (none)) else (none))
set_option maxHeartbeats 8000000 in
set_option maxRecDepth 100000 in
theorem spec_l1Cur_of.calls (g : Nat) (s0_0 : List Int) (s0_1 : Int) (s0_2 : Int) (A1 : Option Addr) (c1 : Nat) (l1 : List ByteArray) (r1 : ByteArray) (r2 : Int) (r3 : Int) (w0 w : World) (hI : IsS50 w0 w g s0_0 s0_1 s0_2) (hB : Below w0.heap.size w0 w) (hr1 : Kd.C Kd.string w A1 l1.length l1) (hc1 : l1.length ≤ c1) (hf1 : ∀ ad,A1 = some ad → 0 < l1.length → ad.block ≠ g) (h : spec_l1Cur_of.f s0_0 s0_1 s0_2 l1 = some (r1,r2,r3)) :
  Calls Tryz.prog 60 #[.pointer (some ⟨g,0,none⟩),.slice A1 l1.length c1] w fun e w' => e = .returned (.string r1) ∧ IsS50 w0 w' g s0_0 r2 r3 ∧ Below w0.heap.size w0 w' ∧ KeepBut w w' g none := by
 have HR1 := Aside0.mk hr1; have HC1 := Aside0.mk hc1; clear hr1 hc1; have HI0 := Aside0.mk hI; have HK := Aside0.mk (KeepBut.refl w g none); have HL := Aside0.mk hB.size; clear hI; have HW0 := Aside0.mk hB.size; have HB := Aside0.mk hB; clear hB; have H : ((spec_l1Cur_pick.f s0_0 s0_1 s0_2 (l1.length : Int)).bind fun bt101 => (if 0 ≤ bt101.1 then (if bt101.1 < (l1.length : Int) then (some (rdOf ByteArray.empty l1 bt101.1,bt101.2.1,bt101.2.2)) else (none)) else (none))) = some (r1,r2,r3) := h; clear h; replace H := Option.bind_eq_some_iff.mp H; obtain ⟨⟨t101,t102,t103⟩,A30,H⟩ := H; replace H : (if 0 ≤ t101 then (if t101 < (l1.length : Int) then (some (rdOf ByteArray.empty l1 t101,t102,t103)) else (none)) else (none)) = some (r1,r2,r3) := H; have A3 := Aside0.mk A30; clear A30
 by_cases c4 : 0 ≤ t101
 ·
  rw [if_pos c4] at H; have c4b0 : decide (0 ≤ t101) = true := decide_eq_true c4; clear c4
  by_cases c5 : t101 < (l1.length : Int)
  ·
   rw [if_pos c5] at H; have c5b0 : decide (t101 < (l1.length : Int)) = true := decide_eq_true c5; clear c5; simp only [Option.some.injEq,Prod.mk.injEq] at H; obtain ⟨rfl,rfl,rfl⟩ := H
   go_enter Tryz.func60,Tryz.ntmps60
   go_wp2_with (first | ((with_reducible refine gate_callee (f := 61) rfl ?_); refine goesL_ (some 9) rfl rfl Tryz.func61 (by kernel_rfl) rfl #[.pointer (some ⟨g,0,none⟩),.int .i64 (l1.length : Int)] rfl zrr ?_; (with_reducible refine (spec_l1Cur_pick.calls g s0_0 s0_1 s0_2 (l1.length : Int) t101 t102 t103 w0 _ ?side1 ?side2 A3.out).mono ?_); (case side1 => repeat (first | (with_reducible first | exact HI0.out | apply IsS50.alloc | apply IsS50.drewN | apply IsS50.drew | apply IsS50.set_1 | apply IsS50.set_2) | exact HI0.out)); (case side2 => repeat (first | (with_reducible first | exact HB.out | apply below_alloc | apply pw_below_drewN | apply below_drew1 | refine below_set ?_ (IsS50.ge HI0.out)) | exact HB.out)); rintro e w6 ⟨rfl,hi,hb,hk⟩; refine ⟨_,rfl,?_⟩; have n0_ := Aside0.mk (KeepBut.trans (by repeat (first | (with_reducible first | exact HK.out | apply KeepBut.set_ | apply keep_drewN | apply keep_drew | apply keep_alloc) | exact HK.out)) hk (.inl rfl)); have n1_ := Aside0.mk (hb); have n2_ := Aside0.mk (hi); clear HK; clear HB; clear HI0; have HK := n0_; have HB := n1_; have HI0 := n2_; clear n0_ n1_ n2_; (try clear hb); (try clear hb2); (try clear hk); (try clear hi); have p104 : 0 ≤ (t101 : Int) := zdd; have q104 : t101 < (l1.length : Int) := zdd; obtain ⟨ad104,e104,hx104_0⟩ := Kd.at_string HR1.out t101 p104 q104; cases e104; replace hx104_0 := keep_cell HK.out hx104_0 (by first | (rw [add_block]; exact hf1 _ rfl (by omega)) | exact hf1 _ rfl (by omega) | exact hf1 ad104 rfl (by omega)); replace p104 := eq_true p104; replace q104 := eq_true q104))
   go_ret
   exact ⟨zer,by repeat (first | (with_reducible first | exact HI0.out | apply IsS50.alloc | apply IsS50.drewN | apply IsS50.drew | apply IsS50.set_1 | apply IsS50.set_2) | exact HI0.out),by repeat (first | (with_reducible first | exact HB.out | apply below_alloc | apply pw_below_drewN | apply below_drew1 | refine below_set ?_ (IsS50.ge HI0.out)) | exact HB.out),by repeat (first | (with_reducible first | exact HK.out | apply KeepBut.set_ | apply keep_drewN | apply keep_drew | apply keep_alloc) | exact HK.out)⟩
  · rw [if_neg c5] at H; exact absurd H (by simp)
 · rw [if_neg c4] at H; exact absurd H (by simp)

end Go.Proofs.YtffbfkfbeggdnaaGreatDoor.P
-- printed by xprint.py
namespace Go.Proofs.YtffbfkfbeggdnaaGreatDoor.P
open Go.RowKit Go.Proofs.YtffbfkfbeggdnaaGreatDoorW.PrintWords Go.Proofs.YtffbfkfbeggdnaaGreatDoorW.PrintLast Go.Proofs.YtffbfkfbeggdnaaGreatDoorW.PrintMore
attribute [local go_sem] max2_int min2_int max_two min_two max_three min_three max_four min_four
set_option linter.unusedVariables false
set_option linter.unusedSimpArgs false

def spec_l1Cur_one.f (s0_0 : List Int) (s0_1 : Int) (s0_2 : Int) (a1 : Int) : Option (Bool × Int × Int) := (spec_l1Cur_pick.f s0_0 s0_1 s0_2 a1).bind fun bt101 => (some ((bt101.1 == 0),bt101.2.1,bt101.2.2))
set_option maxHeartbeats 8000000 in
set_option maxRecDepth 100000 in
theorem spec_l1Cur_one.calls (g : Nat) (s0_0 : List Int) (s0_1 : Int) (s0_2 : Int) (a1 : Int) (r1 : Bool) (r2 : Int) (r3 : Int) (w0 w : World) (hI : IsS50 w0 w g s0_0 s0_1 s0_2) (hB : Below w0.heap.size w0 w) (h : spec_l1Cur_one.f s0_0 s0_1 s0_2 a1 = some (r1,r2,r3)) :
  Calls Tryz.prog 59 #[.pointer (some ⟨g,0,none⟩),.int .i64 a1] w fun e w' => e = .returned (.bool r1) ∧ IsS50 w0 w' g s0_0 r2 r3 ∧ Below w0.heap.size w0 w' ∧ KeepBut w w' g none := by
 have HI0 := Aside0.mk hI; have HK := Aside0.mk (KeepBut.refl w g none); have HL := Aside0.mk hB.size; clear hI; have HW0 := Aside0.mk hB.size; have HB := Aside0.mk hB; clear hB; have H : ((spec_l1Cur_pick.f s0_0 s0_1 s0_2 a1).bind fun bt101 => (some ((bt101.1 == 0),bt101.2.1,bt101.2.2))) = some (r1,r2,r3) := h; clear h; replace H := Option.bind_eq_some_iff.mp H; obtain ⟨⟨t101,t102,t103⟩,A30,H⟩ := H; replace H : (some ((t101 == 0),t102,t103)) = some (r1,r2,r3) := H; have A3 := Aside0.mk A30; clear A30; simp only [Option.some.injEq,Prod.mk.injEq] at H; obtain ⟨rfl,rfl,rfl⟩ := H
 go_enter Tryz.func59,Tryz.ntmps59
 go_wp2_with (first | ((with_reducible refine gate_callee (f := 61) rfl ?_); refine goesL_ (some 7) rfl rfl Tryz.func61 (by kernel_rfl) rfl #[.pointer (some ⟨g,0,none⟩),.int .i64 a1] rfl zrr ?_; (with_reducible refine (spec_l1Cur_pick.calls g s0_0 s0_1 s0_2 a1 t101 t102 t103 w0 _ ?side1 ?side2 A3.out).mono ?_); (case side1 => repeat (first | (with_reducible first | exact HI0.out | apply IsS50.alloc | apply IsS50.drewN | apply IsS50.drew | apply IsS50.set_1 | apply IsS50.set_2) | exact HI0.out)); (case side2 => repeat (first | (with_reducible first | exact HB.out | apply below_alloc | apply pw_below_drewN | apply below_drew1 | refine below_set ?_ (IsS50.ge HI0.out)) | exact HB.out)); rintro e w4 ⟨rfl,hi,hb,hk⟩; refine ⟨_,rfl,?_⟩; have n0_ := Aside0.mk (KeepBut.trans (by repeat (first | (with_reducible first | exact HK.out | apply KeepBut.set_ | apply keep_drewN | apply keep_drew | apply keep_alloc) | exact HK.out)) hk (.inl rfl)); have n1_ := Aside0.mk (hb); have n2_ := Aside0.mk (hi); clear HK; clear HB; clear HI0; have HK := n0_; have HB := n1_; have HI0 := n2_; clear n0_ n1_ n2_; (try clear hb); (try clear hb2); (try clear hk); (try clear hi)))
 go_ret
 exact ⟨zer,by repeat (first | (with_reducible first | exact HI0.out | apply IsS50.alloc | apply IsS50.drewN | apply IsS50.drew | apply IsS50.set_1 | apply IsS50.set_2) | exact HI0.out),by repeat (first | (with_reducible first | exact HB.out | apply below_alloc | apply pw_below_drewN | apply below_drew1 | refine below_set ?_ (IsS50.ge HI0.out)) | exact HB.out),by repeat (first | (with_reducible first | exact HK.out | apply KeepBut.set_ | apply keep_drewN | apply keep_drew | apply keep_alloc) | exact HK.out)⟩

end Go.Proofs.YtffbfkfbeggdnaaGreatDoor.P
-- printed by xprint.py
namespace Go.Proofs.YtffbfkfbeggdnaaGreatDoor.P
open Go.RowKit Go.Proofs.YtffbfkfbeggdnaaGreatDoorW.PrintWords Go.Proofs.YtffbfkfbeggdnaaGreatDoorW.PrintLast Go.Proofs.YtffbfkfbeggdnaaGreatDoorW.PrintMore
attribute [local go_sem] max2_int min2_int max_two min_two max_three min_three max_four min_four
set_option linter.unusedVariables false
set_option linter.unusedSimpArgs false

def spec_l1Cur_digit.f (k : Nat) (s0_0 : List Int) (s0_1 : Int) (s0_2 : Int) : Option (ByteArray × Int × Int) := (spec_l1Cur_one.f s0_0 s0_1 s0_2 16).bind fun bt101 => (if bt101.1 = true then ((spec_l1Cur_of.f s0_0 bt101.2.1 bt101.2.2 (([(⟨#[]⟩ : ByteArray),(⟨#[120]⟩ : ByteArray),(⟨#[49,50]⟩ : ByteArray),(⟨#[35]⟩ : ByteArray)] : List ByteArray))).bind fun bt107 => (some (bt107.1,bt107.2.1,bt107.2.2))) else ((spec_l1Cur_pick.f s0_0 bt101.2.1 bt101.2.2 10).bind fun bt110 => ((spec_l1Num.f k bt110.1).bind fun t113 => (some (t113,bt110.2.1,bt110.2.2)))))
set_option maxHeartbeats 8000000 in
set_option maxRecDepth 100000 in
theorem spec_l1Cur_digit.calls (k : Nat) (g : Nat) (s0_0 : List Int) (s0_1 : Int) (s0_2 : Int) (r1 : ByteArray) (r2 : Int) (r3 : Int) (w0 w : World) (hI : IsS50 w0 w g s0_0 s0_1 s0_2) (hB : Below w0.heap.size w0 w) (h : spec_l1Cur_digit.f k s0_0 s0_1 s0_2 = some (r1,r2,r3)) :
  Calls Tryz.prog 31 #[.pointer (some ⟨g,0,none⟩)] w fun e w' => e = .returned (.string r1) ∧ IsS50 w0 w' g s0_0 r2 r3 ∧ Below w0.heap.size w0 w' ∧ KeepBut w w' g none := by
 have HI0 := Aside0.mk hI; have HK := Aside0.mk (KeepBut.refl w g none); have HL := Aside0.mk hB.size; clear hI; have HW0 := Aside0.mk hB.size; have HB := Aside0.mk hB; clear hB; have H : ((spec_l1Cur_one.f s0_0 s0_1 s0_2 16).bind fun bt101 => (if bt101.1 = true then ((spec_l1Cur_of.f s0_0 bt101.2.1 bt101.2.2 (([(⟨#[]⟩ : ByteArray),(⟨#[120]⟩ : ByteArray),(⟨#[49,50]⟩ : ByteArray),(⟨#[35]⟩ : ByteArray)] : List ByteArray))).bind fun bt107 => (some (bt107.1,bt107.2.1,bt107.2.2))) else ((spec_l1Cur_pick.f s0_0 bt101.2.1 bt101.2.2 10).bind fun bt110 => ((spec_l1Num.f k bt110.1).bind fun t113 => (some (t113,bt110.2.1,bt110.2.2)))))) = some (r1,r2,r3) := h; clear h; replace H := Option.bind_eq_some_iff.mp H; obtain ⟨⟨t101,t102,t103⟩,A20,H⟩ := H; replace H : (if t101 = true then ((spec_l1Cur_of.f s0_0 t102 t103 (([(⟨#[]⟩ : ByteArray),(⟨#[120]⟩ : ByteArray),(⟨#[49,50]⟩ : ByteArray),(⟨#[35]⟩ : ByteArray)] : List ByteArray))).bind fun bt107 => (some (bt107.1,bt107.2.1,bt107.2.2))) else ((spec_l1Cur_pick.f s0_0 t102 t103 10).bind fun bt110 => ((spec_l1Num.f k bt110.1).bind fun t113 => (some (t113,bt110.2.1,bt110.2.2))))) = some (r1,r2,r3) := H; have A2 := Aside0.mk A20; clear A20
 by_cases c3 : t101 = true
 ·
  subst c3; have H1 : ((spec_l1Cur_of.f s0_0 t102 t103 (([(⟨#[]⟩ : ByteArray),(⟨#[120]⟩ : ByteArray),(⟨#[49,50]⟩ : ByteArray),(⟨#[35]⟩ : ByteArray)] : List ByteArray))).bind fun bt107 => (some (bt107.1,bt107.2.1,bt107.2.2))) = some (r1,r2,r3) := by rw [if_pos rfl] at H; exact H
  clear H; have H := H1; clear H1; obtain ⟨y104,hy104⟩ : ∃ y_ : List ByteArray,y_ = (([(⟨#[]⟩ : ByteArray),(⟨#[120]⟩ : ByteArray),(⟨#[49,50]⟩ : ByteArray),(⟨#[35]⟩ : ByteArray)] : List ByteArray)) := ⟨_,rfl⟩; replace H : ((spec_l1Cur_of.f s0_0 t102 t103 y104).bind fun bt107 => (some (bt107.1,bt107.2.1,bt107.2.2))) = some (r1,r2,r3) := by first | (rw [hy104]; with_reducible exact H) | (have H2_ := (Option.bind_some _ _).symm.trans H; rw [hy104]; with_reducible exact H2_) | (have H2_ := (Option.bind_some _ _).symm.trans H; with_reducible exact H2_) | with_reducible exact H | (rw [hy104]; exact H) | exact H
  have Ny104 := Aside0.mk hy104; clear hy104; replace H := Option.bind_eq_some_iff.mp H; obtain ⟨⟨t107,t108,t109⟩,A40,H⟩ := H; replace H : (some (t107,t108,t109)) = some (r1,r2,r3) := H; have A4 := Aside0.mk A40; clear A40; simp only [Option.some.injEq,Prod.mk.injEq] at H; obtain ⟨rfl,rfl,rfl⟩ := H
  go_enter Tryz.func31,Tryz.ntmps31
  go_wp2_with (first | ((with_reducible refine gate_callee (f := 59) rfl ?_); refine goesL_ (some 4) rfl rfl Tryz.func59 (by kernel_rfl) rfl #[.pointer (some ⟨g,0,none⟩),.int .i64 16] rfl zrr ?_; (with_reducible refine (spec_l1Cur_one.calls g s0_0 s0_1 s0_2 16 true t102 t103 w0 _ ?side1 ?side2 A2.out).mono ?_); (case side1 => repeat (first | (with_reducible first | exact HI0.out | apply IsS50.alloc | apply IsS50.drewN | apply IsS50.drew | apply IsS50.set_1 | apply IsS50.set_2) | exact HI0.out)); (case side2 => repeat (first | (with_reducible first | exact HB.out | apply below_alloc | apply pw_below_drewN | apply below_drew1 | refine below_set ?_ (IsS50.ge HI0.out)) | exact HB.out)); rintro e w5 ⟨rfl,hi,hb,hk⟩; refine ⟨_,rfl,?_⟩; have n0_ := Aside0.mk (KeepBut.trans (by repeat (first | (with_reducible first | exact HK.out | apply KeepBut.set_ | apply keep_drewN | apply keep_drew | apply keep_alloc) | exact HK.out)) hk (.inl rfl)); have n1_ := Aside0.mk (hb); have n2_ := Aside0.mk (hi); clear HK; clear HB; clear HI0; have HK := n0_; have HB := n1_; have HI0 := n2_; clear n0_ n1_ n2_; (try clear hb); (try clear hb2); (try clear hk); (try clear hi)) | ((with_reducible refine gate_dst (N := 6) rfl ?_); refine Kd.R_lit Kd.string _ 9 ?hg (N := 6) ?hd (xs := ([(⟨#[]⟩ : ByteArray),(⟨#[120]⟩ : ByteArray),(⟨#[49,50]⟩ : ByteArray),(⟨#[35]⟩ : ByteArray)] : List ByteArray)) (inner := [.string (⟨#[]⟩ : ByteArray),.string (⟨#[120]⟩ : ByteArray),.string (⟨#[49,50]⟩ : ByteArray),.string (⟨#[35]⟩ : ByteArray)]) (ok := fun _ => True) (okp := fun _ => True) ?hr ?hp (fun _ hk => hk) trivial (Below.refl _ _) (Nat.le_refl _) (by simp) ?_; (case hd => rfl); (case hg => rfl); (case hr => first | (go_simp; done) | (go_simp; rfl)); (case hp => exact (Reps.one (show Kd.M Kd.string _ _ _ (⟨#[]⟩ : ByteArray) [.string (⟨#[]⟩ : ByteArray)] from rfl) (Reps.one (show Kd.M Kd.string _ _ _ (⟨#[120]⟩ : ByteArray) [.string (⟨#[120]⟩ : ByteArray)] from rfl) (Reps.one (show Kd.M Kd.string _ _ _ (⟨#[49,50]⟩ : ByteArray) [.string (⟨#[49,50]⟩ : ByteArray)] from rfl) (Reps.one (show Kd.M Kd.string _ _ _ (⟨#[35]⟩ : ByteArray) [.string (⟨#[35]⟩ : ByteArray)] from rfl) (Reps.none _ _)))))); intro v105 w6 ho7 hb hg_ hnew_; clear hg_ hnew_; (first | rw [← Ny104.out] at ho7 | (simp only [Int.reduceToNat] at ho7; rw [← Ny104.out] at ho7)); have n0_ := Aside0.mk (Kd.R_lower ho7 (keep_size (w := w) (g := g) (row := none) (by repeat (first | (with_reducible first | exact HK.out | apply KeepBut.set_ | apply keep_drewN | apply keep_drew | apply keep_alloc) | exact HK.out)))); have n1_ := Aside0.mk (IsS50.below (by repeat (first | (with_reducible first | exact HI0.out | apply IsS50.alloc | apply IsS50.drewN | apply IsS50.drew | apply IsS50.set_1 | apply IsS50.set_2) | exact HI0.out)) hb); have n2_ := Aside0.mk (KeepBut.trans (by repeat (first | (with_reducible first | exact HK.out | apply KeepBut.set_ | apply keep_drewN | apply keep_drew | apply keep_alloc) | exact HK.out)) (KeepBut.of_below hb g none) (.inl rfl)); have n3_ := Aside0.mk (below_step (by repeat (first | (with_reducible first | exact HB.out | apply below_alloc | apply pw_below_drewN | apply below_drew1 | refine below_set ?_ (IsS50.ge HI0.out)) | exact HB.out)) hb); clear HI0; clear HK; clear HB; have HO106 := n0_; have HI0 := n1_; have HK := n2_; have HB := n3_; clear n0_ n1_ n2_ n3_; clear hb ho7; obtain ⟨Ao8,co8,eo8⟩ := Kd.R_slice HO106.out; subst eo8) | ((with_reducible refine gate_callee (f := 60) rfl ?_); refine goesL_ (some 7) rfl rfl Tryz.func60 (by kernel_rfl) rfl #[.pointer (some ⟨g,0,none⟩),.slice Ao8 y104.length co8] rfl zrr ?_; (with_reducible refine (spec_l1Cur_of.calls g s0_0 t102 t103 _ _ y104 t107 t108 t109 w0 _ ?side1 ?side2 ?side3 ?side4 ?side5 A4.out).mono ?_); (case side1 => repeat (first | (with_reducible first | exact HI0.out | apply IsS50.alloc | apply IsS50.drewN | apply IsS50.drew | apply IsS50.set_1 | apply IsS50.set_2) | exact HI0.out)); (case side2 => repeat (first | (with_reducible first | exact HB.out | apply below_alloc | apply pw_below_drewN | apply below_drew1 | refine below_set ?_ (IsS50.ge HI0.out)) | exact HB.out)); (case side3 => repeat (first | exact (Kd.R_reads' HO106.out).2.2 | (with_reducible refine Kd.C_alloc ?_ _) | (with_reducible refine Kd.C_drewN ?_ _) | (with_reducible refine Kd.C_drew ?_))); (case side4 => exact (Kd.R_reads' HO106.out).2.1); (case side5 => exact far_slice (IsS50.own_ne HI0.out HO106.out (by decide))); rintro e w9 ⟨rfl,hi,hb,hk⟩; refine ⟨_,rfl,?_⟩; have n0_ := Aside0.mk (Kd.R_mono (Kd.R_keep (IsS50.apart (show IsS50 w0 _ g s0_0 t102 t103 from by repeat (first | (with_reducible first | exact HI0.out | apply IsS50.alloc | apply IsS50.drewN | apply IsS50.drew | apply IsS50.set_1 | apply IsS50.set_2) | exact HI0.out)) (by (with_reducible repeat (first | apply Kd.R_alloc | apply Kd.R_drewN | apply Kd.R_drew)); exact HO106.out) (by decide)) hk (fun _ h => h.2)) (fun _ h => h.1)); have n1_ := Aside0.mk (KeepBut.trans (by repeat (first | (with_reducible first | exact HK.out | apply KeepBut.set_ | apply keep_drewN | apply keep_drew | apply keep_alloc) | exact HK.out)) hk (.inl rfl)); have n2_ := Aside0.mk (hb); have n3_ := Aside0.mk (hi); clear HO106; clear HK; clear HB; clear HI0; have HO106 := n0_; have HK := n1_; have HB := n2_; have HI0 := n3_; clear n0_ n1_ n2_ n3_; (try clear hb); (try clear hb2); (try clear hk); (try clear hi)))
  go_ret
  exact ⟨zer,by repeat (first | (with_reducible first | exact HI0.out | apply IsS50.alloc | apply IsS50.drewN | apply IsS50.drew | apply IsS50.set_1 | apply IsS50.set_2) | exact HI0.out),by repeat (first | (with_reducible first | exact HB.out | apply below_alloc | apply pw_below_drewN | apply below_drew1 | refine below_set ?_ (IsS50.ge HI0.out)) | exact HB.out),by repeat (first | (with_reducible first | exact HK.out | apply KeepBut.set_ | apply keep_drewN | apply keep_drew | apply keep_alloc) | exact HK.out)⟩
 ·
  replace c3 := Bool.eq_false_iff.mpr c3; subst c3; have H1 : ((spec_l1Cur_pick.f s0_0 t102 t103 10).bind fun bt110 => ((spec_l1Num.f k bt110.1).bind fun t113 => (some (t113,bt110.2.1,bt110.2.2)))) = some (r1,r2,r3) := by rw [if_neg (show ¬ (false = true) by decide)] at H; exact H
  clear H; have H := H1; clear H1; replace H := Option.bind_eq_some_iff.mp H; obtain ⟨⟨t110,t111,t112⟩,A100,H⟩ := H; replace H : ((spec_l1Num.f k t110).bind fun t113 => (some (t113,t111,t112))) = some (r1,r2,r3) := H; have A10 := Aside0.mk A100; clear A100; replace H := Option.bind_eq_some_iff.mp H; obtain ⟨t113,A110,H⟩ := H; replace H : (some (t113,t111,t112)) = some (r1,r2,r3) := H; have A11 := Aside0.mk A110; clear A110; simp only [Option.some.injEq,Prod.mk.injEq] at H; obtain ⟨rfl,rfl,rfl⟩ := H
  go_enter Tryz.func31,Tryz.ntmps31
  go_wp2_with (first | ((with_reducible refine gate_callee (f := 59) rfl ?_); refine goesL_ (some 4) rfl rfl Tryz.func59 (by kernel_rfl) rfl #[.pointer (some ⟨g,0,none⟩),.int .i64 16] rfl zrr ?_; (with_reducible refine (spec_l1Cur_one.calls g s0_0 s0_1 s0_2 16 false t102 t103 w0 _ ?side1 ?side2 A2.out).mono ?_); (case side1 => repeat (first | (with_reducible first | exact HI0.out | apply IsS50.alloc | apply IsS50.drewN | apply IsS50.drew | apply IsS50.set_1 | apply IsS50.set_2) | exact HI0.out)); (case side2 => repeat (first | (with_reducible first | exact HB.out | apply below_alloc | apply pw_below_drewN | apply below_drew1 | refine below_set ?_ (IsS50.ge HI0.out)) | exact HB.out)); rintro e w12 ⟨rfl,hi,hb,hk⟩; refine ⟨_,rfl,?_⟩; have n0_ := Aside0.mk (KeepBut.trans (by repeat (first | (with_reducible first | exact HK.out | apply KeepBut.set_ | apply keep_drewN | apply keep_drew | apply keep_alloc) | exact HK.out)) hk (.inl rfl)); have n1_ := Aside0.mk (hb); have n2_ := Aside0.mk (hi); clear HK; clear HB; clear HI0; have HK := n0_; have HB := n1_; have HI0 := n2_; clear n0_ n1_ n2_; (try clear hb); (try clear hb2); (try clear hk); (try clear hi)) | ((with_reducible refine gate_callee (f := 61) rfl ?_); refine goesL_ (some 9) rfl rfl Tryz.func61 (by kernel_rfl) rfl #[.pointer (some ⟨g,0,none⟩),.int .i64 10] rfl zrr ?_; (with_reducible refine (spec_l1Cur_pick.calls g s0_0 t102 t103 10 t110 t111 t112 w0 _ ?side1 ?side2 A10.out).mono ?_); (case side1 => repeat (first | (with_reducible first | exact HI0.out | apply IsS50.alloc | apply IsS50.drewN | apply IsS50.drew | apply IsS50.set_1 | apply IsS50.set_2) | exact HI0.out)); (case side2 => repeat (first | (with_reducible first | exact HB.out | apply below_alloc | apply pw_below_drewN | apply below_drew1 | refine below_set ?_ (IsS50.ge HI0.out)) | exact HB.out)); rintro e w13 ⟨rfl,hi,hb,hk⟩; refine ⟨_,rfl,?_⟩; have n0_ := Aside0.mk (KeepBut.trans (by repeat (first | (with_reducible first | exact HK.out | apply KeepBut.set_ | apply keep_drewN | apply keep_drew | apply keep_alloc) | exact HK.out)) hk (.inl rfl)); have n1_ := Aside0.mk (hb); have n2_ := Aside0.mk (hi); clear HK; clear HB; clear HI0; have HK := n0_; have HB := n1_; have HI0 := n2_; clear n0_ n1_ n2_; (try clear hb); (try clear hb2); (try clear hk); (try clear hi)) | ((with_reducible refine gate_callee (f := 58) rfl ?_); refine goesL_ (some 10) rfl rfl Tryz.func58 (by kernel_rfl) rfl #[.int .i64 t110] rfl zrr ?_; (with_reducible refine (spec_l1Num.calls k t110 t113 _ A11.out).mono ?_); rintro e w14 ⟨rfl,hb⟩; refine ⟨_,rfl,?_⟩; have n0_ := Aside0.mk (IsS50.below (by repeat (first | (with_reducible first | exact HI0.out | apply IsS50.alloc | apply IsS50.drewN | apply IsS50.drew | apply IsS50.set_1 | apply IsS50.set_2) | exact HI0.out)) hb); have n1_ := Aside0.mk (KeepBut.trans (by repeat (first | (with_reducible first | exact HK.out | apply KeepBut.set_ | apply keep_drewN | apply keep_drew | apply keep_alloc) | exact HK.out)) (KeepBut.of_below hb g none) (.inl rfl)); have n2_ := Aside0.mk (below_step (by repeat (first | (with_reducible first | exact HB.out | apply below_alloc | apply pw_below_drewN | apply below_drew1 | refine below_set ?_ (IsS50.ge HI0.out)) | exact HB.out)) hb); clear HI0; clear HK; clear HB; have HI0 := n0_; have HK := n1_; have HB := n2_; clear n0_ n1_ n2_; (try clear hb); (try clear hb2); (try clear hk); (try clear hi)))
  go_ret
  exact ⟨zer,by repeat (first | (with_reducible first | exact HI0.out | apply IsS50.alloc | apply IsS50.drewN | apply IsS50.drew | apply IsS50.set_1 | apply IsS50.set_2) | exact HI0.out),by repeat (first | (with_reducible first | exact HB.out | apply below_alloc | apply pw_below_drewN | apply below_drew1 | refine below_set ?_ (IsS50.ge HI0.out)) | exact HB.out),by repeat (first | (with_reducible first | exact HK.out | apply KeepBut.set_ | apply keep_drewN | apply keep_drew | apply keep_alloc) | exact HK.out)⟩

end Go.Proofs.YtffbfkfbeggdnaaGreatDoor.P
-- printed by xprint.py
namespace Go.Proofs.YtffbfkfbeggdnaaGreatDoor.P
open Go.RowKit Go.Proofs.YtffbfkfbeggdnaaGreatDoorW.PrintWords Go.Proofs.YtffbfkfbeggdnaaGreatDoorW.PrintLast Go.Proofs.YtffbfkfbeggdnaaGreatDoorW.PrintMore
attribute [local go_sem] max2_int min2_int max_two min_two max_three min_three max_four min_four
set_option linter.unusedVariables false
set_option linter.unusedSimpArgs false

def spec_l1Cur_piece.f (s0_0 : List Int) (s0_1 : Int) (s0_2 : Int) : Option (ByteArray × Int × Int) := (spec_l1Cur_one.f s0_0 s0_1 s0_2 16).bind fun bt101 => (if bt101.1 = true then ((spec_l1Cur_of.f s0_0 bt101.2.1 bt101.2.2 (([(⟨#[]⟩ : ByteArray),(⟨#[113]⟩ : ByteArray),(⟨#[110,107]⟩ : ByteArray),(⟨#[75]⟩ : ByteArray)] : List ByteArray))).bind fun bt107 => (some (bt107.1,bt107.2.1,bt107.2.2))) else ((spec_l1Cur_of.f s0_0 bt101.2.1 bt101.2.2 (([(⟨#[110]⟩ : ByteArray),(⟨#[110]⟩ : ByteArray),(⟨#[107]⟩ : ByteArray),(⟨#[114]⟩ : ByteArray),(⟨#[98]⟩ : ByteArray)] : List ByteArray))).bind fun bt113 => (some (bt113.1,bt113.2.1,bt113.2.2))))
set_option maxHeartbeats 8000000 in
set_option maxRecDepth 100000 in
theorem spec_l1Cur_piece.calls (g : Nat) (s0_0 : List Int) (s0_1 : Int) (s0_2 : Int) (r1 : ByteArray) (r2 : Int) (r3 : Int) (w0 w : World) (hI : IsS50 w0 w g s0_0 s0_1 s0_2) (hB : Below w0.heap.size w0 w) (h : spec_l1Cur_piece.f s0_0 s0_1 s0_2 = some (r1,r2,r3)) :
  Calls Tryz.prog 30 #[.pointer (some ⟨g,0,none⟩)] w fun e w' => e = .returned (.string r1) ∧ IsS50 w0 w' g s0_0 r2 r3 ∧ Below w0.heap.size w0 w' ∧ KeepBut w w' g none := by
 have HI0 := Aside0.mk hI; have HK := Aside0.mk (KeepBut.refl w g none); have HL := Aside0.mk hB.size; clear hI; have HW0 := Aside0.mk hB.size; have HB := Aside0.mk hB; clear hB; have H : ((spec_l1Cur_one.f s0_0 s0_1 s0_2 16).bind fun bt101 => (if bt101.1 = true then ((spec_l1Cur_of.f s0_0 bt101.2.1 bt101.2.2 (([(⟨#[]⟩ : ByteArray),(⟨#[113]⟩ : ByteArray),(⟨#[110,107]⟩ : ByteArray),(⟨#[75]⟩ : ByteArray)] : List ByteArray))).bind fun bt107 => (some (bt107.1,bt107.2.1,bt107.2.2))) else ((spec_l1Cur_of.f s0_0 bt101.2.1 bt101.2.2 (([(⟨#[110]⟩ : ByteArray),(⟨#[110]⟩ : ByteArray),(⟨#[107]⟩ : ByteArray),(⟨#[114]⟩ : ByteArray),(⟨#[98]⟩ : ByteArray)] : List ByteArray))).bind fun bt113 => (some (bt113.1,bt113.2.1,bt113.2.2))))) = some (r1,r2,r3) := h; clear h; replace H := Option.bind_eq_some_iff.mp H; obtain ⟨⟨t101,t102,t103⟩,A20,H⟩ := H; (try dsimp only at H); have A2 := Aside0.mk A20; clear A20
 by_cases c3 : t101 = true
 ·
  subst c3; have H1 : ((spec_l1Cur_of.f s0_0 t102 t103 (([(⟨#[]⟩ : ByteArray),(⟨#[113]⟩ : ByteArray),(⟨#[110,107]⟩ : ByteArray),(⟨#[75]⟩ : ByteArray)] : List ByteArray))).bind fun bt107 => (some (bt107.1,bt107.2.1,bt107.2.2))) = some (r1,r2,r3) := by rw [if_pos rfl] at H; exact H
  clear H; have H := H1; clear H1; obtain ⟨y104,hy104⟩ : ∃ y_ : List ByteArray,y_ = (([(⟨#[]⟩ : ByteArray),(⟨#[113]⟩ : ByteArray),(⟨#[110,107]⟩ : ByteArray),(⟨#[75]⟩ : ByteArray)] : List ByteArray)) := ⟨_,rfl⟩; replace H : ((spec_l1Cur_of.f s0_0 t102 t103 y104).bind fun bt107 => (some (bt107.1,bt107.2.1,bt107.2.2))) = some (r1,r2,r3) := by first | (rw [hy104]; with_reducible exact H) | (have H2_ := (Option.bind_some _ _).symm.trans H; rw [hy104]; with_reducible exact H2_) | (have H2_ := (Option.bind_some _ _).symm.trans H; with_reducible exact H2_) | with_reducible exact H | (rw [hy104]; exact H) | exact H
  have Ny104 := Aside0.mk hy104; clear hy104; replace H := Option.bind_eq_some_iff.mp H; obtain ⟨⟨t107,t108,t109⟩,A40,H⟩ := H; replace H : (some (t107,t108,t109)) = some (r1,r2,r3) := H; have A4 := Aside0.mk A40; clear A40; simp only [Option.some.injEq,Prod.mk.injEq] at H; obtain ⟨rfl,rfl,rfl⟩ := H
  go_enter Tryz.func30,Tryz.ntmps30
  go_wp2_with (first | ((with_reducible refine gate_callee (f := 59) rfl ?_); refine goesL_ (some 4) rfl rfl Tryz.func59 (by kernel_rfl) rfl #[.pointer (some ⟨g,0,none⟩),.int .i64 16] rfl zrr ?_; (with_reducible refine (spec_l1Cur_one.calls g s0_0 s0_1 s0_2 16 true t102 t103 w0 _ ?side1 ?side2 A2.out).mono ?_); (case side1 => repeat (first | (with_reducible first | exact HI0.out | apply IsS50.alloc | apply IsS50.drewN | apply IsS50.drew | apply IsS50.set_1 | apply IsS50.set_2) | exact HI0.out)); (case side2 => repeat (first | (with_reducible first | exact HB.out | apply below_alloc | apply pw_below_drewN | apply below_drew1 | refine below_set ?_ (IsS50.ge HI0.out)) | exact HB.out)); rintro e w5 ⟨rfl,hi,hb,hk⟩; refine ⟨_,rfl,?_⟩; have n0_ := Aside0.mk (KeepBut.trans (by repeat (first | (with_reducible first | exact HK.out | apply KeepBut.set_ | apply keep_drewN | apply keep_drew | apply keep_alloc) | exact HK.out)) hk (.inl rfl)); have n1_ := Aside0.mk (hb); have n2_ := Aside0.mk (hi); clear HK; clear HB; clear HI0; have HK := n0_; have HB := n1_; have HI0 := n2_; clear n0_ n1_ n2_; (try clear hb); (try clear hb2); (try clear hk); (try clear hi)) | ((with_reducible refine gate_dst (N := 6) rfl ?_); refine Kd.R_lit Kd.string _ 9 ?hg (N := 6) ?hd (xs := ([(⟨#[]⟩ : ByteArray),(⟨#[113]⟩ : ByteArray),(⟨#[110,107]⟩ : ByteArray),(⟨#[75]⟩ : ByteArray)] : List ByteArray)) (inner := [.string (⟨#[]⟩ : ByteArray),.string (⟨#[113]⟩ : ByteArray),.string (⟨#[110,107]⟩ : ByteArray),.string (⟨#[75]⟩ : ByteArray)]) (ok := fun _ => True) (okp := fun _ => True) ?hr ?hp (fun _ hk => hk) trivial (Below.refl _ _) (Nat.le_refl _) (by simp) ?_; (case hd => rfl); (case hg => rfl); (case hr => first | (go_simp; done) | (go_simp; rfl)); (case hp => exact (Reps.one (show Kd.M Kd.string _ _ _ (⟨#[]⟩ : ByteArray) [.string (⟨#[]⟩ : ByteArray)] from rfl) (Reps.one (show Kd.M Kd.string _ _ _ (⟨#[113]⟩ : ByteArray) [.string (⟨#[113]⟩ : ByteArray)] from rfl) (Reps.one (show Kd.M Kd.string _ _ _ (⟨#[110,107]⟩ : ByteArray) [.string (⟨#[110,107]⟩ : ByteArray)] from rfl) (Reps.one (show Kd.M Kd.string _ _ _ (⟨#[75]⟩ : ByteArray) [.string (⟨#[75]⟩ : ByteArray)] from rfl) (Reps.none _ _)))))); intro v105 w6 ho7 hb hg_ hnew_; clear hg_ hnew_; (first | rw [← Ny104.out] at ho7 | (simp only [Int.reduceToNat] at ho7; rw [← Ny104.out] at ho7)); have n0_ := Aside0.mk (Kd.R_lower ho7 (keep_size (w := w) (g := g) (row := none) (by repeat (first | (with_reducible first | exact HK.out | apply KeepBut.set_ | apply keep_drewN | apply keep_drew | apply keep_alloc) | exact HK.out)))); have n1_ := Aside0.mk (IsS50.below (by repeat (first | (with_reducible first | exact HI0.out | apply IsS50.alloc | apply IsS50.drewN | apply IsS50.drew | apply IsS50.set_1 | apply IsS50.set_2) | exact HI0.out)) hb); have n2_ := Aside0.mk (KeepBut.trans (by repeat (first | (with_reducible first | exact HK.out | apply KeepBut.set_ | apply keep_drewN | apply keep_drew | apply keep_alloc) | exact HK.out)) (KeepBut.of_below hb g none) (.inl rfl)); have n3_ := Aside0.mk (below_step (by repeat (first | (with_reducible first | exact HB.out | apply below_alloc | apply pw_below_drewN | apply below_drew1 | refine below_set ?_ (IsS50.ge HI0.out)) | exact HB.out)) hb); clear HI0; clear HK; clear HB; have HO106 := n0_; have HI0 := n1_; have HK := n2_; have HB := n3_; clear n0_ n1_ n2_ n3_; clear hb ho7; obtain ⟨Ao8,co8,eo8⟩ := Kd.R_slice HO106.out; subst eo8) | ((with_reducible refine gate_callee (f := 60) rfl ?_); refine goesL_ (some 7) rfl rfl Tryz.func60 (by kernel_rfl) rfl #[.pointer (some ⟨g,0,none⟩),.slice Ao8 y104.length co8] rfl zrr ?_; (with_reducible refine (spec_l1Cur_of.calls g s0_0 t102 t103 _ _ y104 t107 t108 t109 w0 _ ?side1 ?side2 ?side3 ?side4 ?side5 A4.out).mono ?_); (case side1 => repeat (first | (with_reducible first | exact HI0.out | apply IsS50.alloc | apply IsS50.drewN | apply IsS50.drew | apply IsS50.set_1 | apply IsS50.set_2) | exact HI0.out)); (case side2 => repeat (first | (with_reducible first | exact HB.out | apply below_alloc | apply pw_below_drewN | apply below_drew1 | refine below_set ?_ (IsS50.ge HI0.out)) | exact HB.out)); (case side3 => repeat (first | exact (Kd.R_reads' HO106.out).2.2 | (with_reducible refine Kd.C_alloc ?_ _) | (with_reducible refine Kd.C_drewN ?_ _) | (with_reducible refine Kd.C_drew ?_))); (case side4 => exact (Kd.R_reads' HO106.out).2.1); (case side5 => exact far_slice (IsS50.own_ne HI0.out HO106.out (by decide))); rintro e w9 ⟨rfl,hi,hb,hk⟩; refine ⟨_,rfl,?_⟩; have n0_ := Aside0.mk (Kd.R_mono (Kd.R_keep (IsS50.apart (show IsS50 w0 _ g s0_0 t102 t103 from by repeat (first | (with_reducible first | exact HI0.out | apply IsS50.alloc | apply IsS50.drewN | apply IsS50.drew | apply IsS50.set_1 | apply IsS50.set_2) | exact HI0.out)) (by (with_reducible repeat (first | apply Kd.R_alloc | apply Kd.R_drewN | apply Kd.R_drew)); exact HO106.out) (by decide)) hk (fun _ h => h.2)) (fun _ h => h.1)); have n1_ := Aside0.mk (KeepBut.trans (by repeat (first | (with_reducible first | exact HK.out | apply KeepBut.set_ | apply keep_drewN | apply keep_drew | apply keep_alloc) | exact HK.out)) hk (.inl rfl)); have n2_ := Aside0.mk (hb); have n3_ := Aside0.mk (hi); clear HO106; clear HK; clear HB; clear HI0; have HO106 := n0_; have HK := n1_; have HB := n2_; have HI0 := n3_; clear n0_ n1_ n2_ n3_; (try clear hb); (try clear hb2); (try clear hk); (try clear hi)))
  go_ret
  exact ⟨zer,by repeat (first | (with_reducible first | exact HI0.out | apply IsS50.alloc | apply IsS50.drewN | apply IsS50.drew | apply IsS50.set_1 | apply IsS50.set_2) | exact HI0.out),by repeat (first | (with_reducible first | exact HB.out | apply below_alloc | apply pw_below_drewN | apply below_drew1 | refine below_set ?_ (IsS50.ge HI0.out)) | exact HB.out),by repeat (first | (with_reducible first | exact HK.out | apply KeepBut.set_ | apply keep_drewN | apply keep_drew | apply keep_alloc) | exact HK.out)⟩
 ·
  replace c3 := Bool.eq_false_iff.mpr c3; subst c3; have H1 : ((spec_l1Cur_of.f s0_0 t102 t103 (([(⟨#[110]⟩ : ByteArray),(⟨#[110]⟩ : ByteArray),(⟨#[107]⟩ : ByteArray),(⟨#[114]⟩ : ByteArray),(⟨#[98]⟩ : ByteArray)] : List ByteArray))).bind fun bt113 => (some (bt113.1,bt113.2.1,bt113.2.2))) = some (r1,r2,r3) := by rw [if_neg (show ¬ (false = true) by decide)] at H; exact H
  clear H; have H := H1; clear H1; obtain ⟨y110,hy110⟩ : ∃ y_ : List ByteArray,y_ = (([(⟨#[110]⟩ : ByteArray),(⟨#[110]⟩ : ByteArray),(⟨#[107]⟩ : ByteArray),(⟨#[114]⟩ : ByteArray),(⟨#[98]⟩ : ByteArray)] : List ByteArray)) := ⟨_,rfl⟩; replace H : ((spec_l1Cur_of.f s0_0 t102 t103 y110).bind fun bt113 => (some (bt113.1,bt113.2.1,bt113.2.2))) = some (r1,r2,r3) := by first | (rw [hy110]; with_reducible exact H) | (have H2_ := (Option.bind_some _ _).symm.trans H; rw [hy110]; with_reducible exact H2_) | (have H2_ := (Option.bind_some _ _).symm.trans H; with_reducible exact H2_) | with_reducible exact H | (rw [hy110]; exact H) | exact H
  have Ny110 := Aside0.mk hy110; clear hy110; replace H := Option.bind_eq_some_iff.mp H; obtain ⟨⟨t113,t114,t115⟩,A100,H⟩ := H; replace H : (some (t113,t114,t115)) = some (r1,r2,r3) := H; have A10 := Aside0.mk A100; clear A100; simp only [Option.some.injEq,Prod.mk.injEq] at H; obtain ⟨rfl,rfl,rfl⟩ := H
  go_enter Tryz.func30,Tryz.ntmps30
  go_wp2_with (first | ((with_reducible refine gate_callee (f := 59) rfl ?_); refine goesL_ (some 4) rfl rfl Tryz.func59 (by kernel_rfl) rfl #[.pointer (some ⟨g,0,none⟩),.int .i64 16] rfl zrr ?_; (with_reducible refine (spec_l1Cur_one.calls g s0_0 s0_1 s0_2 16 false t102 t103 w0 _ ?side1 ?side2 A2.out).mono ?_); (case side1 => repeat (first | (with_reducible first | exact HI0.out | apply IsS50.alloc | apply IsS50.drewN | apply IsS50.drew | apply IsS50.set_1 | apply IsS50.set_2) | exact HI0.out)); (case side2 => repeat (first | (with_reducible first | exact HB.out | apply below_alloc | apply pw_below_drewN | apply below_drew1 | refine below_set ?_ (IsS50.ge HI0.out)) | exact HB.out)); rintro e w11 ⟨rfl,hi,hb,hk⟩; refine ⟨_,rfl,?_⟩; have n0_ := Aside0.mk (KeepBut.trans (by repeat (first | (with_reducible first | exact HK.out | apply KeepBut.set_ | apply keep_drewN | apply keep_drew | apply keep_alloc) | exact HK.out)) hk (.inl rfl)); have n1_ := Aside0.mk (hb); have n2_ := Aside0.mk (hi); clear HK; clear HB; clear HI0; have HK := n0_; have HB := n1_; have HI0 := n2_; clear n0_ n1_ n2_; (try clear hb); (try clear hb2); (try clear hk); (try clear hi)) | ((with_reducible refine gate_dst (N := 9) rfl ?_); refine Kd.R_lit Kd.string _ 9 ?hg (N := 9) ?hd (xs := ([(⟨#[110]⟩ : ByteArray),(⟨#[110]⟩ : ByteArray),(⟨#[107]⟩ : ByteArray),(⟨#[114]⟩ : ByteArray),(⟨#[98]⟩ : ByteArray)] : List ByteArray)) (inner := [.string (⟨#[110]⟩ : ByteArray),.string (⟨#[110]⟩ : ByteArray),.string (⟨#[107]⟩ : ByteArray),.string (⟨#[114]⟩ : ByteArray),.string (⟨#[98]⟩ : ByteArray)]) (ok := fun _ => True) (okp := fun _ => True) ?hr ?hp (fun _ hk => hk) trivial (Below.refl _ _) (Nat.le_refl _) (by simp) ?_; (case hd => rfl); (case hg => rfl); (case hr => first | (go_simp; done) | (go_simp; rfl)); (case hp => exact (Reps.one (show Kd.M Kd.string _ _ _ (⟨#[110]⟩ : ByteArray) [.string (⟨#[110]⟩ : ByteArray)] from rfl) (Reps.one (show Kd.M Kd.string _ _ _ (⟨#[110]⟩ : ByteArray) [.string (⟨#[110]⟩ : ByteArray)] from rfl) (Reps.one (show Kd.M Kd.string _ _ _ (⟨#[107]⟩ : ByteArray) [.string (⟨#[107]⟩ : ByteArray)] from rfl) (Reps.one (show Kd.M Kd.string _ _ _ (⟨#[114]⟩ : ByteArray) [.string (⟨#[114]⟩ : ByteArray)] from rfl) (Reps.one (show Kd.M Kd.string _ _ _ (⟨#[98]⟩ : ByteArray) [.string (⟨#[98]⟩ : ByteArray)] from rfl) (Reps.none _ _))))))); intro v111 w12 ho13 hb hg_ hnew_; clear hg_ hnew_; (first | rw [← Ny110.out] at ho13 | (simp only [Int.reduceToNat] at ho13; rw [← Ny110.out] at ho13)); have n0_ := Aside0.mk (Kd.R_lower ho13 (keep_size (w := w) (g := g) (row := none) (by repeat (first | (with_reducible first | exact HK.out | apply KeepBut.set_ | apply keep_drewN | apply keep_drew | apply keep_alloc) | exact HK.out)))); have n1_ := Aside0.mk (IsS50.below (by repeat (first | (with_reducible first | exact HI0.out | apply IsS50.alloc | apply IsS50.drewN | apply IsS50.drew | apply IsS50.set_1 | apply IsS50.set_2) | exact HI0.out)) hb); have n2_ := Aside0.mk (KeepBut.trans (by repeat (first | (with_reducible first | exact HK.out | apply KeepBut.set_ | apply keep_drewN | apply keep_drew | apply keep_alloc) | exact HK.out)) (KeepBut.of_below hb g none) (.inl rfl)); have n3_ := Aside0.mk (below_step (by repeat (first | (with_reducible first | exact HB.out | apply below_alloc | apply pw_below_drewN | apply below_drew1 | refine below_set ?_ (IsS50.ge HI0.out)) | exact HB.out)) hb); clear HI0; clear HK; clear HB; have HO112 := n0_; have HI0 := n1_; have HK := n2_; have HB := n3_; clear n0_ n1_ n2_ n3_; clear hb ho13; obtain ⟨Ao14,co14,eo14⟩ := Kd.R_slice HO112.out; subst eo14) | ((with_reducible refine gate_callee (f := 60) rfl ?_); refine goesL_ (some 10) rfl rfl Tryz.func60 (by kernel_rfl) rfl #[.pointer (some ⟨g,0,none⟩),.slice Ao14 y110.length co14] rfl zrr ?_; (with_reducible refine (spec_l1Cur_of.calls g s0_0 t102 t103 _ _ y110 t113 t114 t115 w0 _ ?side1 ?side2 ?side3 ?side4 ?side5 A10.out).mono ?_); (case side1 => repeat (first | (with_reducible first | exact HI0.out | apply IsS50.alloc | apply IsS50.drewN | apply IsS50.drew | apply IsS50.set_1 | apply IsS50.set_2) | exact HI0.out)); (case side2 => repeat (first | (with_reducible first | exact HB.out | apply below_alloc | apply pw_below_drewN | apply below_drew1 | refine below_set ?_ (IsS50.ge HI0.out)) | exact HB.out)); (case side3 => repeat (first | exact (Kd.R_reads' HO112.out).2.2 | (with_reducible refine Kd.C_alloc ?_ _) | (with_reducible refine Kd.C_drewN ?_ _) | (with_reducible refine Kd.C_drew ?_))); (case side4 => exact (Kd.R_reads' HO112.out).2.1); (case side5 => exact far_slice (IsS50.own_ne HI0.out HO112.out (by decide))); rintro e w15 ⟨rfl,hi,hb,hk⟩; refine ⟨_,rfl,?_⟩; have n0_ := Aside0.mk (Kd.R_mono (Kd.R_keep (IsS50.apart (show IsS50 w0 _ g s0_0 t102 t103 from by repeat (first | (with_reducible first | exact HI0.out | apply IsS50.alloc | apply IsS50.drewN | apply IsS50.drew | apply IsS50.set_1 | apply IsS50.set_2) | exact HI0.out)) (by (with_reducible repeat (first | apply Kd.R_alloc | apply Kd.R_drewN | apply Kd.R_drew)); exact HO112.out) (by decide)) hk (fun _ h => h.2)) (fun _ h => h.1)); have n1_ := Aside0.mk (KeepBut.trans (by repeat (first | (with_reducible first | exact HK.out | apply KeepBut.set_ | apply keep_drewN | apply keep_drew | apply keep_alloc) | exact HK.out)) hk (.inl rfl)); have n2_ := Aside0.mk (hb); have n3_ := Aside0.mk (hi); clear HO112; clear HK; clear HB; clear HI0; have HO112 := n0_; have HK := n1_; have HB := n2_; have HI0 := n3_; clear n0_ n1_ n2_ n3_; (try clear hb); (try clear hb2); (try clear hk); (try clear hi)))
  go_ret
  exact ⟨zer,by repeat (first | (with_reducible first | exact HI0.out | apply IsS50.alloc | apply IsS50.drewN | apply IsS50.drew | apply IsS50.set_1 | apply IsS50.set_2) | exact HI0.out),by repeat (first | (with_reducible first | exact HB.out | apply below_alloc | apply pw_below_drewN | apply below_drew1 | refine below_set ?_ (IsS50.ge HI0.out)) | exact HB.out),by repeat (first | (with_reducible first | exact HK.out | apply KeepBut.set_ | apply keep_drewN | apply keep_drew | apply keep_alloc) | exact HK.out)⟩

end Go.Proofs.YtffbfkfbeggdnaaGreatDoor.P
-- printed by xprint.py
namespace Go.Proofs.YtffbfkfbeggdnaaGreatDoor.P
open Go.RowKit Go.Proofs.YtffbfkfbeggdnaaGreatDoorW.PrintWords Go.Proofs.YtffbfkfbeggdnaaGreatDoorW.PrintLast Go.Proofs.YtffbfkfbeggdnaaGreatDoorW.PrintMore
attribute [local go_sem] max2_int min2_int max_two min_two max_three min_three max_four min_four
set_option linter.unusedVariables false
set_option linter.unusedSimpArgs false

def spec_DrawCountNumbers.g (k : Nat) (s0_0 : List Int) (s0_1 : Int) (s0_2 : Int) : Option (ByteArray × ByteArray × Int × Int × Int) := (spec_l1Cur_piece.f s0_0 s0_1 s0_2).bind fun bt101 => ((spec_l1Cur_digit.f k s0_0 bt101.2.1 bt101.2.2).bind fun bt104 => ((spec_l1Cur_among.f s0_0 bt104.2.1 bt104.2.2 (([1,2,3,4,7,10,20,40,41,0,(-1)] : List Int))).bind fun bt110 => (some (bt101.1,bt104.1,bt110.1,bt110.2.1,bt110.2.2))))
def spec_DrawCountNumbers.f (k : Nat) (l0 : List Int) : Option (ByteArray × ByteArray × Int) := (spec_DrawCountNumbers.g k l0 0 0).bind fun p => some (p.1,p.2.1,p.2.2.1)
set_option maxHeartbeats 8000000 in
set_option maxRecDepth 100000 in
theorem spec_DrawCountNumbers.calls (k : Nat) (A0 : Option Addr) (c0 : Nat) (l0 : List Int) (r1 : ByteArray) (r2 : ByteArray) (r3 : Int) (w : World) (hr0 : Kd.C (Kd.int .u8) w A0 l0.length l0) (hc0 : l0.length ≤ c0) (h : spec_DrawCountNumbers.f k l0 = some (r1,r2,r3)) :
  Calls Tryz.prog 5 #[.slice A0 l0.length c0] w fun e w' => e = .returned (.tuple #[.string r1,.string r2,.int .i64 r3]) ∧ Below w.heap.size w w' := by
 unfold spec_DrawCountNumbers.f at h
 have h0 := h; clear h; obtain ⟨⟨r1_,r2_,r3_,s1_,s2_⟩,h,hq⟩ := Option.bind_eq_some_iff.mp h0; clear h0; simp only [Option.some.injEq,Prod.mk.injEq] at hq; obtain ⟨rfl,rfl,rfl⟩ := hq; have HR0 := Aside0.mk hr0; clear hr0; have HBr := Aside0.mk (Below.refl w.heap.size w); have H : ((spec_l1Cur_piece.f l0 (0 : Int) (0 : Int)).bind fun bt101 => ((spec_l1Cur_digit.f k l0 bt101.2.1 bt101.2.2).bind fun bt104 => ((spec_l1Cur_among.f l0 bt104.2.1 bt104.2.2 (([1,2,3,4,7,10,20,40,41,0,(-1)] : List Int))).bind fun bt110 => (some (bt101.1,bt104.1,bt110.1,bt110.2.1,bt110.2.2))))) = some (r1_,r2_,r3_,s1_,s2_) := h; clear h; replace H := Option.bind_eq_some_iff.mp H; obtain ⟨⟨t101,t102,t103⟩,A20,H⟩ := H; replace H : ((spec_l1Cur_digit.f k l0 t102 t103).bind fun bt104 => ((spec_l1Cur_among.f l0 bt104.2.1 bt104.2.2 (([1,2,3,4,7,10,20,40,41,0,(-1)] : List Int))).bind fun bt110 => (some (t101,bt104.1,bt110.1,bt110.2.1,bt110.2.2)))) = some (r1_,r2_,r3_,s1_,s2_) := H; have A2 := Aside0.mk A20; clear A20; replace H := Option.bind_eq_some_iff.mp H; obtain ⟨⟨t104,t105,t106⟩,A30,H⟩ := H; replace H : ((spec_l1Cur_among.f l0 t105 t106 (([1,2,3,4,7,10,20,40,41,0,(-1)] : List Int))).bind fun bt110 => (some (t101,t104,bt110.1,bt110.2.1,bt110.2.2))) = some (r1_,r2_,r3_,s1_,s2_) := H; have A3 := Aside0.mk A30; clear A30; obtain ⟨y107,hy107⟩ : ∃ y_ : List Int,y_ = (([1,2,3,4,7,10,20,40,41,0,(-1)] : List Int)) := ⟨_,rfl⟩; replace H : ((spec_l1Cur_among.f l0 t105 t106 y107).bind fun bt110 => (some (t101,t104,bt110.1,bt110.2.1,bt110.2.2))) = some (r1_,r2_,r3_,s1_,s2_) := by first | (rw [hy107]; with_reducible exact H) | (have H2_ := (Option.bind_some _ _).symm.trans H; rw [hy107]; with_reducible exact H2_) | (have H2_ := (Option.bind_some _ _).symm.trans H; with_reducible exact H2_) | with_reducible exact H | (rw [hy107]; exact H) | exact H
 have Ny107 := Aside0.mk hy107; clear hy107; replace H := Option.bind_eq_some_iff.mp H; obtain ⟨⟨t110,t111,t112⟩,A40,H⟩ := H; replace H : (some (t101,t104,t110,t111,t112)) = some (r1_,r2_,r3_,s1_,s2_) := H; have A4 := Aside0.mk A40; clear A40; simp only [Option.some.injEq,Prod.mk.injEq] at H; obtain ⟨rfl,rfl,rfl,rfl,rfl⟩ := H
 go_enter Tryz.func5,Tryz.ntmps5
 go_wp2_with (first | ((with_reducible refine gate_dst (N := 10) rfl ?_); refine box_event ?hg (N := 10) ?hd (cs := #[.slice A0 l0.length c0,.int .i64 0,.int .u64 0]) (t := 50) ?hr ?_; (case hd => rfl); (case hg => rfl); (case hr => first | (go_simp; done) | (go_simp; rfl)); intro g hg wb hbox hb; have HI0 := Aside0.mk (show IsS50 w wb g l0 0 0 from ⟨A0,c0,hbox,by rw [hg]; exact below_size (by repeat (first | (with_reducible first | exact HBr.out | apply below_alloc | apply pw_below_drewN | apply below_drew1) | exact HBr.out)),HR0.out⟩); have HB := Aside0.mk (below_step (by repeat (first | (with_reducible first | exact HBr.out | apply below_alloc | apply pw_below_drewN | apply below_drew1) | exact HBr.out)) hb); have HL := Aside0.mk HB.out.size; have HW0 := Aside0.mk HB.out.size; have HK := Aside0.mk (KeepBut.refl wb g none); clear hb hbox hg) | ((with_reducible refine gate_callee (f := 30) rfl ?_); refine goesL_ (some 12) rfl rfl Tryz.func30 (by kernel_rfl) rfl #[.pointer (some ⟨g,0,none⟩)] rfl zrr ?_; (with_reducible refine (spec_l1Cur_piece.calls g l0 (0 : Int) (0 : Int) t101 t102 t103 w _ ?side1 ?side2 A2.out).mono ?_); (case side1 => repeat (first | (with_reducible first | exact HI0.out | apply IsS50.alloc | apply IsS50.drewN | apply IsS50.drew | apply IsS50.set_1 | apply IsS50.set_2) | exact HI0.out)); (case side2 => repeat (first | (with_reducible first | exact HB.out | apply below_alloc | apply pw_below_drewN | apply below_drew1 | refine below_set ?_ (IsS50.ge HI0.out)) | exact HB.out)); rintro e w5 ⟨rfl,hi,hb,hk⟩; refine ⟨_,rfl,?_⟩; have n0_ := Aside0.mk (KeepBut.trans (by repeat (first | (with_reducible first | exact HK.out | apply KeepBut.set_ | apply keep_drewN | apply keep_drew | apply keep_alloc) | exact HK.out)) hk (.inl rfl)); have n1_ := Aside0.mk (hb); have n2_ := Aside0.mk (hi); clear HK; clear HB; clear HI0; have HK := n0_; have HB := n1_; have HI0 := n2_; clear n0_ n1_ n2_; (try clear hb); (try clear hb2); (try clear hk); (try clear hi)) | ((with_reducible refine gate_callee (f := 31) rfl ?_); refine goesL_ (some 14) rfl rfl Tryz.func31 (by kernel_rfl) rfl #[.pointer (some ⟨g,0,none⟩)] rfl zrr ?_; (with_reducible refine (spec_l1Cur_digit.calls k g l0 t102 t103 t104 t105 t106 w _ ?side1 ?side2 A3.out).mono ?_); (case side1 => repeat (first | (with_reducible first | exact HI0.out | apply IsS50.alloc | apply IsS50.drewN | apply IsS50.drew | apply IsS50.set_1 | apply IsS50.set_2) | exact HI0.out)); (case side2 => repeat (first | (with_reducible first | exact HB.out | apply below_alloc | apply pw_below_drewN | apply below_drew1 | refine below_set ?_ (IsS50.ge HI0.out)) | exact HB.out)); rintro e w6 ⟨rfl,hi,hb,hk⟩; refine ⟨_,rfl,?_⟩; have n0_ := Aside0.mk (KeepBut.trans (by repeat (first | (with_reducible first | exact HK.out | apply KeepBut.set_ | apply keep_drewN | apply keep_drew | apply keep_alloc) | exact HK.out)) hk (.inl rfl)); have n1_ := Aside0.mk (hb); have n2_ := Aside0.mk (hi); clear HK; clear HB; clear HI0; have HK := n0_; have HB := n1_; have HI0 := n2_; clear n0_ n1_ n2_; (try clear hb); (try clear hb2); (try clear hk); (try clear hi)) | ((with_reducible refine gate_dst (N := 18) rfl ?_); refine Kd.R_lit (Kd.int .i64) _ 3 ?hg (N := 18) ?hd (xs := ([1,2,3,4,7,10,20,40,41,0,(-1)] : List Int)) (inner := [.int .i64 1,.int .i64 2,.int .i64 3,.int .i64 4,.int .i64 7,.int .i64 10,.int .i64 20,.int .i64 40,.int .i64 41,.int .i64 0,.int .i64 (-1)]) (ok := fun _ => True) (okp := fun _ => True) ?hr ?hp (fun _ hk => hk) trivial (Below.refl _ _) (Nat.le_refl _) (by simp) ?_; (case hd => rfl); (case hg => rfl); (case hr => first | (go_simp; done) | (go_simp; rfl)); (case hp => exact (Reps.one (show Kd.M (Kd.int .i64) _ _ _ 1 [.int .i64 1] from rfl) (Reps.one (show Kd.M (Kd.int .i64) _ _ _ 2 [.int .i64 2] from rfl) (Reps.one (show Kd.M (Kd.int .i64) _ _ _ 3 [.int .i64 3] from rfl) (Reps.one (show Kd.M (Kd.int .i64) _ _ _ 4 [.int .i64 4] from rfl) (Reps.one (show Kd.M (Kd.int .i64) _ _ _ 7 [.int .i64 7] from rfl) (Reps.one (show Kd.M (Kd.int .i64) _ _ _ 10 [.int .i64 10] from rfl) (Reps.one (show Kd.M (Kd.int .i64) _ _ _ 20 [.int .i64 20] from rfl) (Reps.one (show Kd.M (Kd.int .i64) _ _ _ 40 [.int .i64 40] from rfl) (Reps.one (show Kd.M (Kd.int .i64) _ _ _ 41 [.int .i64 41] from rfl) (Reps.one (show Kd.M (Kd.int .i64) _ _ _ 0 [.int .i64 0] from rfl) (Reps.one (show Kd.M (Kd.int .i64) _ _ _ (-1) [.int .i64 (-1)] from rfl) (Reps.none _ _))))))))))))); intro v108 w7 ho8 hb hg_ hnew_; clear hg_ hnew_; (first | rw [← Ny107.out] at ho8 | (simp only [Int.reduceToNat] at ho8; rw [← Ny107.out] at ho8)); have n0_ := Aside0.mk (Kd.R_lower ho8 (keep_size (w := wb) (g := g) (row := none) (by repeat (first | (with_reducible first | exact HK.out | apply KeepBut.set_ | apply keep_drewN | apply keep_drew | apply keep_alloc) | exact HK.out)))); have n1_ := Aside0.mk (IsS50.below (by repeat (first | (with_reducible first | exact HI0.out | apply IsS50.alloc | apply IsS50.drewN | apply IsS50.drew | apply IsS50.set_1 | apply IsS50.set_2) | exact HI0.out)) hb); have n2_ := Aside0.mk (KeepBut.trans (by repeat (first | (with_reducible first | exact HK.out | apply KeepBut.set_ | apply keep_drewN | apply keep_drew | apply keep_alloc) | exact HK.out)) (KeepBut.of_below hb g none) (.inl rfl)); have n3_ := Aside0.mk (below_step (by repeat (first | (with_reducible first | exact HB.out | apply below_alloc | apply pw_below_drewN | apply below_drew1 | refine below_set ?_ (IsS50.ge HI0.out)) | exact HB.out)) hb); clear HI0; clear HK; clear HB; have HO109 := n0_; have HI0 := n1_; have HK := n2_; have HB := n3_; clear n0_ n1_ n2_ n3_; clear hb ho8; obtain ⟨Ao9,co9,eo9⟩ := Kd.R_slice HO109.out; subst eo9) | ((with_reducible refine gate_callee (f := 32) rfl ?_); refine goesL_ (some 19) rfl rfl Tryz.func32 (by kernel_rfl) rfl #[.pointer (some ⟨g,0,none⟩),.slice Ao9 y107.length co9] rfl zrr ?_; (with_reducible refine (spec_l1Cur_among.calls g l0 t105 t106 _ _ y107 t110 t111 t112 w _ ?side1 ?side2 ?side3 ?side4 ?side5 A4.out).mono ?_); (case side1 => repeat (first | (with_reducible first | exact HI0.out | apply IsS50.alloc | apply IsS50.drewN | apply IsS50.drew | apply IsS50.set_1 | apply IsS50.set_2) | exact HI0.out)); (case side2 => repeat (first | (with_reducible first | exact HB.out | apply below_alloc | apply pw_below_drewN | apply below_drew1 | refine below_set ?_ (IsS50.ge HI0.out)) | exact HB.out)); (case side3 => repeat (first | exact (Kd.R_reads' HO109.out).2.2 | (with_reducible refine Kd.C_alloc ?_ _) | (with_reducible refine Kd.C_drewN ?_ _) | (with_reducible refine Kd.C_drew ?_))); (case side4 => exact (Kd.R_reads' HO109.out).2.1); (case side5 => exact far_slice (IsS50.own_ne HI0.out HO109.out (by decide))); rintro e w10 ⟨rfl,hi,hb,hk⟩; refine ⟨_,rfl,?_⟩; have n0_ := Aside0.mk (Kd.R_mono (Kd.R_keep (IsS50.apart (show IsS50 w _ g l0 t105 t106 from by repeat (first | (with_reducible first | exact HI0.out | apply IsS50.alloc | apply IsS50.drewN | apply IsS50.drew | apply IsS50.set_1 | apply IsS50.set_2) | exact HI0.out)) (by (with_reducible repeat (first | apply Kd.R_alloc | apply Kd.R_drewN | apply Kd.R_drew)); exact HO109.out) (by decide)) hk (fun _ h => h.2)) (fun _ h => h.1)); have n1_ := Aside0.mk (KeepBut.trans (by repeat (first | (with_reducible first | exact HK.out | apply KeepBut.set_ | apply keep_drewN | apply keep_drew | apply keep_alloc) | exact HK.out)) hk (.inl rfl)); have n2_ := Aside0.mk (hb); have n3_ := Aside0.mk (hi); clear HO109; clear HK; clear HB; clear HI0; have HO109 := n0_; have HK := n1_; have HB := n2_; have HI0 := n3_; clear n0_ n1_ n2_ n3_; (try clear hb); (try clear hb2); (try clear hk); (try clear hi)))
 go_ret3
 exact ⟨zer,by repeat (first | (with_reducible first | exact HB.out | apply below_alloc | apply pw_below_drewN | apply below_drew1 | refine below_set ?_ (IsS50.ge HI0.out)) | exact HB.out)⟩

end Go.Proofs.YtffbfkfbeggdnaaGreatDoor.P
-- printed by xprint.py
namespace Go.Proofs.YtffbfkfbeggdnaaGreatDoor.P
open Go.RowKit Go.Proofs.YtffbfkfbeggdnaaGreatDoorW.PrintWords Go.Proofs.YtffbfkfbeggdnaaGreatDoorW.PrintLast Go.Proofs.YtffbfkfbeggdnaaGreatDoorW.PrintMore
attribute [local go_sem] max2_int min2_int max_two min_two max_three min_three max_four min_four
set_option linter.unusedVariables false
set_option linter.unusedSimpArgs false

def spec_DrawCountAllNumbers.f (k : Nat) (l0 : List Int) : Option (ByteArray × Int) := (spec_DrawCountNumbers.f k l0).bind fun bt101 => (some (bt101.1,bt101.2.2))
set_option maxHeartbeats 8000000 in
set_option maxRecDepth 100000 in
theorem spec_DrawCountAllNumbers.calls (k : Nat) (A0 : Option Addr) (c0 : Nat) (l0 : List Int) (r1 : ByteArray) (r2 : Int) (w : World) (hr0 : Kd.C (Kd.int .u8) w A0 l0.length l0) (hc0 : l0.length ≤ c0) (h : spec_DrawCountAllNumbers.f k l0 = some (r1,r2)) :
  Calls Tryz.prog 57 #[.slice A0 l0.length c0] w fun e w' => e = .returned (.tuple #[.string r1,.int .i64 r2]) ∧ Below w.heap.size w w' := by
 have HR0 := Aside0.mk hr0; have HC0 := Aside0.mk hc0; clear hr0 hc0; have HB := Aside0.mk (Below.refl w.heap.size w); have H : ((spec_DrawCountNumbers.f k l0).bind fun bt101 => (some (bt101.1,bt101.2.2))) = some (r1,r2) := h; clear h; replace H := Option.bind_eq_some_iff.mp H; obtain ⟨⟨t101,t102,t103⟩,A20,H⟩ := H; replace H : (some (t101,t103)) = some (r1,r2) := H; have A2 := Aside0.mk A20; clear A20; simp only [Option.some.injEq,Prod.mk.injEq] at H; obtain ⟨rfl,rfl⟩ := H
 go_enter Tryz.func57,Tryz.ntmps57
 go_wp2_with (first | ((with_reducible refine gate_callee (f := 5) rfl ?_); refine goesL_ (some 9) rfl rfl Tryz.func5 (by kernel_rfl) rfl #[.slice A0 l0.length c0] rfl zrr ?_; (with_reducible refine (spec_DrawCountNumbers.calls k _ _ l0 t101 t102 t103 _ ?side1 ?side2 A2.out).mono ?_); (case side1 => repeat (first | exact HR0.out | (with_reducible refine Kd.C_alloc ?_ _) | (with_reducible refine Kd.C_drewN ?_ _) | (with_reducible refine Kd.C_drew ?_))); (case side2 => exact HC0.out); rintro e w3 ⟨rfl,hb⟩; refine ⟨_,rfl,?_⟩; have n0_ := Aside0.mk (below_step zbw hb); clear HB; have HB := n0_; clear n0_; (try clear hb); (try clear hb2); (try clear hk); (try clear hi)))
 go_ret2
 exact ⟨zer,zbw⟩

end Go.Proofs.YtffbfkfbeggdnaaGreatDoor.P
-- printed by xprint.py
namespace Go.Proofs.YtffbfkfbeggdnaaGreatDoor.P
open Go.RowKit Go.Proofs.YtffbfkfbeggdnaaGreatDoorW.PrintWords Go.Proofs.YtffbfkfbeggdnaaGreatDoorW.PrintLast Go.Proofs.YtffbfkfbeggdnaaGreatDoorW.PrintMore
attribute [local go_sem] max2_int min2_int max_two min_two max_three min_three max_four min_four
set_option linter.unusedVariables false
set_option linter.unusedSimpArgs false

def spec_DrawBusiestKey.f (k : Nat) (l0 : List Int) : Option (ByteArray × Int) := (spec_DrawCountAllNumbers.f k l0).bind fun bt101 => (some (bt101.1,bt101.2))
set_option maxHeartbeats 8000000 in
set_option maxRecDepth 100000 in
theorem spec_DrawBusiestKey.calls (k : Nat) (A0 : Option Addr) (c0 : Nat) (l0 : List Int) (r1 : ByteArray) (r2 : Int) (w : World) (hr0 : Kd.C (Kd.int .u8) w A0 l0.length l0) (hc0 : l0.length ≤ c0) (h : spec_DrawBusiestKey.f k l0 = some (r1,r2)) :
  Calls Tryz.prog 25 #[.slice A0 l0.length c0] w fun e w' => e = .returned (.tuple #[.string r1,.int .i64 r2]) ∧ Below w.heap.size w w' := by
 have HR0 := Aside0.mk hr0; have HC0 := Aside0.mk hc0; clear hr0 hc0; have HB := Aside0.mk (Below.refl w.heap.size w); have H : ((spec_DrawCountAllNumbers.f k l0).bind fun bt101 => (some (bt101.1,bt101.2))) = some (r1,r2) := h; clear h; replace H := Option.bind_eq_some_iff.mp H; obtain ⟨⟨t101,t102⟩,A20,H⟩ := H; replace H : (some (t101,t102)) = some (r1,r2) := H; have A2 := Aside0.mk A20; clear A20; simp only [Option.some.injEq,Prod.mk.injEq] at H; obtain ⟨rfl,rfl⟩ := H
 go_enter Tryz.func25,Tryz.ntmps25
 go_wp2_with (first | ((with_reducible refine gate_callee (f := 57) rfl ?_); refine goesL_ (some 5) rfl rfl Tryz.func57 (by kernel_rfl) rfl #[.slice A0 l0.length c0] rfl zrr ?_; (with_reducible refine (spec_DrawCountAllNumbers.calls k _ _ l0 t101 t102 _ ?side1 ?side2 A2.out).mono ?_); (case side1 => repeat (first | exact HR0.out | (with_reducible refine Kd.C_alloc ?_ _) | (with_reducible refine Kd.C_drewN ?_ _) | (with_reducible refine Kd.C_drew ?_))); (case side2 => exact HC0.out); rintro e w3 ⟨rfl,hb⟩; refine ⟨_,rfl,?_⟩; have n0_ := Aside0.mk (below_step zbw hb); clear HB; have HB := n0_; clear n0_; (try clear hb); (try clear hb2); (try clear hk); (try clear hi)))
 go_ret2
 exact ⟨zer,zbw⟩

end Go.Proofs.YtffbfkfbeggdnaaGreatDoor.P
-- printed by xprint.py
namespace Go.Proofs.YtffbfkfbeggdnaaGreatDoor.P
open Go.RowKit Go.Proofs.YtffbfkfbeggdnaaGreatDoorW.PrintWords Go.Proofs.YtffbfkfbeggdnaaGreatDoorW.PrintLast Go.Proofs.YtffbfkfbeggdnaaGreatDoorW.PrintMore
attribute [local go_sem] max2_int min2_int max_two min_two max_three min_three max_four min_four
set_option linter.unusedVariables false
set_option linter.unusedSimpArgs false

def spec_DrawCountBetween.g (k : Nat) (s0_0 : List Int) (s0_1 : Int) (s0_2 : Int) : Option (ByteArray × ByteArray × ByteArray × Int × Int × Int) := (spec_l1Cur_piece.f s0_0 s0_1 s0_2).bind fun bt101 => ((spec_l1Cur_digit.f k s0_0 bt101.2.1 bt101.2.2).bind fun bt104 => ((spec_l1Cur_digit.f k s0_0 bt104.2.1 bt104.2.2).bind fun bt107 => ((spec_l1Cur_among.f s0_0 bt107.2.1 bt107.2.2 (([0,1,2,3,4,7,10,39,40,(-1)] : List Int))).bind fun bt113 => (some (bt101.1,bt104.1,bt107.1,bt113.1,bt113.2.1,bt113.2.2)))))
def spec_DrawCountBetween.f (k : Nat) (l0 : List Int) : Option (ByteArray × ByteArray × ByteArray × Int) := (spec_DrawCountBetween.g k l0 0 0).bind fun p => some (p.1,p.2.1,p.2.2.1,p.2.2.2.1)
set_option maxHeartbeats 8000000 in
set_option maxRecDepth 100000 in
theorem spec_DrawCountBetween.calls (k : Nat) (A0 : Option Addr) (c0 : Nat) (l0 : List Int) (r1 : ByteArray) (r2 : ByteArray) (r3 : ByteArray) (r4 : Int) (w : World) (hr0 : Kd.C (Kd.int .u8) w A0 l0.length l0) (hc0 : l0.length ≤ c0) (h : spec_DrawCountBetween.f k l0 = some (r1,r2,r3,r4)) :
  Calls Tryz.prog 22 #[.slice A0 l0.length c0] w fun e w' => e = .returned (.tuple #[.string r1,.string r2,.string r3,.int .i64 r4]) ∧ Below w.heap.size w w' := by
 unfold spec_DrawCountBetween.f at h
 have h0 := h; clear h; obtain ⟨⟨r1_,r2_,r3_,r4_,s1_,s2_⟩,h,hq⟩ := Option.bind_eq_some_iff.mp h0; clear h0; simp only [Option.some.injEq,Prod.mk.injEq] at hq; obtain ⟨rfl,rfl,rfl,rfl⟩ := hq; have HR0 := Aside0.mk hr0; clear hr0; have HBr := Aside0.mk (Below.refl w.heap.size w); have H : ((spec_l1Cur_piece.f l0 (0 : Int) (0 : Int)).bind fun bt101 => ((spec_l1Cur_digit.f k l0 bt101.2.1 bt101.2.2).bind fun bt104 => ((spec_l1Cur_digit.f k l0 bt104.2.1 bt104.2.2).bind fun bt107 => ((spec_l1Cur_among.f l0 bt107.2.1 bt107.2.2 (([0,1,2,3,4,7,10,39,40,(-1)] : List Int))).bind fun bt113 => (some (bt101.1,bt104.1,bt107.1,bt113.1,bt113.2.1,bt113.2.2)))))) = some (r1_,r2_,r3_,r4_,s1_,s2_) := h; clear h; replace H := Option.bind_eq_some_iff.mp H; obtain ⟨⟨t101,t102,t103⟩,A20,H⟩ := H; replace H : ((spec_l1Cur_digit.f k l0 t102 t103).bind fun bt104 => ((spec_l1Cur_digit.f k l0 bt104.2.1 bt104.2.2).bind fun bt107 => ((spec_l1Cur_among.f l0 bt107.2.1 bt107.2.2 (([0,1,2,3,4,7,10,39,40,(-1)] : List Int))).bind fun bt113 => (some (t101,bt104.1,bt107.1,bt113.1,bt113.2.1,bt113.2.2))))) = some (r1_,r2_,r3_,r4_,s1_,s2_) := H; have A2 := Aside0.mk A20; clear A20; replace H := Option.bind_eq_some_iff.mp H; obtain ⟨⟨t104,t105,t106⟩,A30,H⟩ := H; replace H : ((spec_l1Cur_digit.f k l0 t105 t106).bind fun bt107 => ((spec_l1Cur_among.f l0 bt107.2.1 bt107.2.2 (([0,1,2,3,4,7,10,39,40,(-1)] : List Int))).bind fun bt113 => (some (t101,t104,bt107.1,bt113.1,bt113.2.1,bt113.2.2)))) = some (r1_,r2_,r3_,r4_,s1_,s2_) := H; have A3 := Aside0.mk A30; clear A30; replace H := Option.bind_eq_some_iff.mp H; obtain ⟨⟨t107,t108,t109⟩,A40,H⟩ := H; replace H : ((spec_l1Cur_among.f l0 t108 t109 (([0,1,2,3,4,7,10,39,40,(-1)] : List Int))).bind fun bt113 => (some (t101,t104,t107,bt113.1,bt113.2.1,bt113.2.2))) = some (r1_,r2_,r3_,r4_,s1_,s2_) := H; have A4 := Aside0.mk A40; clear A40; obtain ⟨y110,hy110⟩ : ∃ y_ : List Int,y_ = (([0,1,2,3,4,7,10,39,40,(-1)] : List Int)) := ⟨_,rfl⟩; replace H : ((spec_l1Cur_among.f l0 t108 t109 y110).bind fun bt113 => (some (t101,t104,t107,bt113.1,bt113.2.1,bt113.2.2))) = some (r1_,r2_,r3_,r4_,s1_,s2_) := by first | (rw [hy110]; with_reducible exact H) | (have H2_ := (Option.bind_some _ _).symm.trans H; rw [hy110]; with_reducible exact H2_) | (have H2_ := (Option.bind_some _ _).symm.trans H; with_reducible exact H2_) | with_reducible exact H | (rw [hy110]; exact H) | exact H
 have Ny110 := Aside0.mk hy110; clear hy110; replace H := Option.bind_eq_some_iff.mp H; obtain ⟨⟨t113,t114,t115⟩,A50,H⟩ := H; replace H : (some (t101,t104,t107,t113,t114,t115)) = some (r1_,r2_,r3_,r4_,s1_,s2_) := H; have A5 := Aside0.mk A50; clear A50; simp only [Option.some.injEq,Prod.mk.injEq] at H; obtain ⟨rfl,rfl,rfl,rfl,rfl,rfl⟩ := H
 go_enter Tryz.func22,Tryz.ntmps22
 go_wp2_with (first | ((with_reducible refine gate_dst (N := 12) rfl ?_); refine box_event ?hg (N := 12) ?hd (cs := #[.slice A0 l0.length c0,.int .i64 0,.int .u64 0]) (t := 50) ?hr ?_; (case hd => rfl); (case hg => rfl); (case hr => first | (go_simp; done) | (go_simp; rfl)); intro g hg wb hbox hb; have HI0 := Aside0.mk (show IsS50 w wb g l0 0 0 from ⟨A0,c0,hbox,by rw [hg]; exact below_size (by repeat (first | (with_reducible first | exact HBr.out | apply below_alloc | apply pw_below_drewN | apply below_drew1) | exact HBr.out)),HR0.out⟩); have HB := Aside0.mk (below_step (by repeat (first | (with_reducible first | exact HBr.out | apply below_alloc | apply pw_below_drewN | apply below_drew1) | exact HBr.out)) hb); have HL := Aside0.mk HB.out.size; have HW0 := Aside0.mk HB.out.size; have HK := Aside0.mk (KeepBut.refl wb g none); clear hb hbox hg) | ((with_reducible refine gate_callee (f := 30) rfl ?_); refine goesL_ (some 14) rfl rfl Tryz.func30 (by kernel_rfl) rfl #[.pointer (some ⟨g,0,none⟩)] rfl zrr ?_; (with_reducible refine (spec_l1Cur_piece.calls g l0 (0 : Int) (0 : Int) t101 t102 t103 w _ ?side1 ?side2 A2.out).mono ?_); (case side1 => repeat (first | (with_reducible first | exact HI0.out | apply IsS50.alloc | apply IsS50.drewN | apply IsS50.drew | apply IsS50.set_1 | apply IsS50.set_2) | exact HI0.out)); (case side2 => repeat (first | (with_reducible first | exact HB.out | apply below_alloc | apply pw_below_drewN | apply below_drew1 | refine below_set ?_ (IsS50.ge HI0.out)) | exact HB.out)); rintro e w6 ⟨rfl,hi,hb,hk⟩; refine ⟨_,rfl,?_⟩; have n0_ := Aside0.mk (KeepBut.trans (by repeat (first | (with_reducible first | exact HK.out | apply KeepBut.set_ | apply keep_drewN | apply keep_drew | apply keep_alloc) | exact HK.out)) hk (.inl rfl)); have n1_ := Aside0.mk (hb); have n2_ := Aside0.mk (hi); clear HK; clear HB; clear HI0; have HK := n0_; have HB := n1_; have HI0 := n2_; clear n0_ n1_ n2_; (try clear hb); (try clear hb2); (try clear hk); (try clear hi)) | ((with_reducible refine gate_callee (f := 31) rfl ?_); refine goesL_ (some 16) rfl rfl Tryz.func31 (by kernel_rfl) rfl #[.pointer (some ⟨g,0,none⟩)] rfl zrr ?_; (with_reducible refine (spec_l1Cur_digit.calls k g l0 t102 t103 t104 t105 t106 w _ ?side1 ?side2 A3.out).mono ?_); (case side1 => repeat (first | (with_reducible first | exact HI0.out | apply IsS50.alloc | apply IsS50.drewN | apply IsS50.drew | apply IsS50.set_1 | apply IsS50.set_2) | exact HI0.out)); (case side2 => repeat (first | (with_reducible first | exact HB.out | apply below_alloc | apply pw_below_drewN | apply below_drew1 | refine below_set ?_ (IsS50.ge HI0.out)) | exact HB.out)); rintro e w7 ⟨rfl,hi,hb,hk⟩; refine ⟨_,rfl,?_⟩; have n0_ := Aside0.mk (KeepBut.trans (by repeat (first | (with_reducible first | exact HK.out | apply KeepBut.set_ | apply keep_drewN | apply keep_drew | apply keep_alloc) | exact HK.out)) hk (.inl rfl)); have n1_ := Aside0.mk (hb); have n2_ := Aside0.mk (hi); clear HK; clear HB; clear HI0; have HK := n0_; have HB := n1_; have HI0 := n2_; clear n0_ n1_ n2_; (try clear hb); (try clear hb2); (try clear hk); (try clear hi)) | ((with_reducible refine gate_callee (f := 31) rfl ?_); refine goesL_ (some 18) rfl rfl Tryz.func31 (by kernel_rfl) rfl #[.pointer (some ⟨g,0,none⟩)] rfl zrr ?_; (with_reducible refine (spec_l1Cur_digit.calls k g l0 t105 t106 t107 t108 t109 w _ ?side1 ?side2 A4.out).mono ?_); (case side1 => repeat (first | (with_reducible first | exact HI0.out | apply IsS50.alloc | apply IsS50.drewN | apply IsS50.drew | apply IsS50.set_1 | apply IsS50.set_2) | exact HI0.out)); (case side2 => repeat (first | (with_reducible first | exact HB.out | apply below_alloc | apply pw_below_drewN | apply below_drew1 | refine below_set ?_ (IsS50.ge HI0.out)) | exact HB.out)); rintro e w8 ⟨rfl,hi,hb,hk⟩; refine ⟨_,rfl,?_⟩; have n0_ := Aside0.mk (KeepBut.trans (by repeat (first | (with_reducible first | exact HK.out | apply KeepBut.set_ | apply keep_drewN | apply keep_drew | apply keep_alloc) | exact HK.out)) hk (.inl rfl)); have n1_ := Aside0.mk (hb); have n2_ := Aside0.mk (hi); clear HK; clear HB; clear HI0; have HK := n0_; have HB := n1_; have HI0 := n2_; clear n0_ n1_ n2_; (try clear hb); (try clear hb2); (try clear hk); (try clear hi)) | ((with_reducible refine gate_dst (N := 23) rfl ?_); refine Kd.R_lit (Kd.int .i64) _ 3 ?hg (N := 23) ?hd (xs := ([0,1,2,3,4,7,10,39,40,(-1)] : List Int)) (inner := [.int .i64 0,.int .i64 1,.int .i64 2,.int .i64 3,.int .i64 4,.int .i64 7,.int .i64 10,.int .i64 39,.int .i64 40,.int .i64 (-1)]) (ok := fun _ => True) (okp := fun _ => True) ?hr ?hp (fun _ hk => hk) trivial (Below.refl _ _) (Nat.le_refl _) (by simp) ?_; (case hd => rfl); (case hg => rfl); (case hr => first | (go_simp; done) | (go_simp; rfl)); (case hp => exact (Reps.one (show Kd.M (Kd.int .i64) _ _ _ 0 [.int .i64 0] from rfl) (Reps.one (show Kd.M (Kd.int .i64) _ _ _ 1 [.int .i64 1] from rfl) (Reps.one (show Kd.M (Kd.int .i64) _ _ _ 2 [.int .i64 2] from rfl) (Reps.one (show Kd.M (Kd.int .i64) _ _ _ 3 [.int .i64 3] from rfl) (Reps.one (show Kd.M (Kd.int .i64) _ _ _ 4 [.int .i64 4] from rfl) (Reps.one (show Kd.M (Kd.int .i64) _ _ _ 7 [.int .i64 7] from rfl) (Reps.one (show Kd.M (Kd.int .i64) _ _ _ 10 [.int .i64 10] from rfl) (Reps.one (show Kd.M (Kd.int .i64) _ _ _ 39 [.int .i64 39] from rfl) (Reps.one (show Kd.M (Kd.int .i64) _ _ _ 40 [.int .i64 40] from rfl) (Reps.one (show Kd.M (Kd.int .i64) _ _ _ (-1) [.int .i64 (-1)] from rfl) (Reps.none _ _)))))))))))); intro v111 w9 ho10 hb hg_ hnew_; clear hg_ hnew_; (first | rw [← Ny110.out] at ho10 | (simp only [Int.reduceToNat] at ho10; rw [← Ny110.out] at ho10)); have n0_ := Aside0.mk (Kd.R_lower ho10 (keep_size (w := wb) (g := g) (row := none) (by repeat (first | (with_reducible first | exact HK.out | apply KeepBut.set_ | apply keep_drewN | apply keep_drew | apply keep_alloc) | exact HK.out)))); have n1_ := Aside0.mk (IsS50.below (by repeat (first | (with_reducible first | exact HI0.out | apply IsS50.alloc | apply IsS50.drewN | apply IsS50.drew | apply IsS50.set_1 | apply IsS50.set_2) | exact HI0.out)) hb); have n2_ := Aside0.mk (KeepBut.trans (by repeat (first | (with_reducible first | exact HK.out | apply KeepBut.set_ | apply keep_drewN | apply keep_drew | apply keep_alloc) | exact HK.out)) (KeepBut.of_below hb g none) (.inl rfl)); have n3_ := Aside0.mk (below_step (by repeat (first | (with_reducible first | exact HB.out | apply below_alloc | apply pw_below_drewN | apply below_drew1 | refine below_set ?_ (IsS50.ge HI0.out)) | exact HB.out)) hb); clear HI0; clear HK; clear HB; have HO112 := n0_; have HI0 := n1_; have HK := n2_; have HB := n3_; clear n0_ n1_ n2_ n3_; clear hb ho10; obtain ⟨Ao11,co11,eo11⟩ := Kd.R_slice HO112.out; subst eo11) | ((with_reducible refine gate_callee (f := 32) rfl ?_); refine goesL_ (some 24) rfl rfl Tryz.func32 (by kernel_rfl) rfl #[.pointer (some ⟨g,0,none⟩),.slice Ao11 y110.length co11] rfl zrr ?_; (with_reducible refine (spec_l1Cur_among.calls g l0 t108 t109 _ _ y110 t113 t114 t115 w _ ?side1 ?side2 ?side3 ?side4 ?side5 A5.out).mono ?_); (case side1 => repeat (first | (with_reducible first | exact HI0.out | apply IsS50.alloc | apply IsS50.drewN | apply IsS50.drew | apply IsS50.set_1 | apply IsS50.set_2) | exact HI0.out)); (case side2 => repeat (first | (with_reducible first | exact HB.out | apply below_alloc | apply pw_below_drewN | apply below_drew1 | refine below_set ?_ (IsS50.ge HI0.out)) | exact HB.out)); (case side3 => repeat (first | exact (Kd.R_reads' HO112.out).2.2 | (with_reducible refine Kd.C_alloc ?_ _) | (with_reducible refine Kd.C_drewN ?_ _) | (with_reducible refine Kd.C_drew ?_))); (case side4 => exact (Kd.R_reads' HO112.out).2.1); (case side5 => exact far_slice (IsS50.own_ne HI0.out HO112.out (by decide))); rintro e w12 ⟨rfl,hi,hb,hk⟩; refine ⟨_,rfl,?_⟩; have n0_ := Aside0.mk (Kd.R_mono (Kd.R_keep (IsS50.apart (show IsS50 w _ g l0 t108 t109 from by repeat (first | (with_reducible first | exact HI0.out | apply IsS50.alloc | apply IsS50.drewN | apply IsS50.drew | apply IsS50.set_1 | apply IsS50.set_2) | exact HI0.out)) (by (with_reducible repeat (first | apply Kd.R_alloc | apply Kd.R_drewN | apply Kd.R_drew)); exact HO112.out) (by decide)) hk (fun _ h => h.2)) (fun _ h => h.1)); have n1_ := Aside0.mk (KeepBut.trans (by repeat (first | (with_reducible first | exact HK.out | apply KeepBut.set_ | apply keep_drewN | apply keep_drew | apply keep_alloc) | exact HK.out)) hk (.inl rfl)); have n2_ := Aside0.mk (hb); have n3_ := Aside0.mk (hi); clear HO112; clear HK; clear HB; clear HI0; have HO112 := n0_; have HK := n1_; have HB := n2_; have HI0 := n3_; clear n0_ n1_ n2_ n3_; (try clear hb); (try clear hb2); (try clear hk); (try clear hi)))
 refine bodyPost_ret (results_list (rs := [.tmp 2,.tmp 3,.tmp 4,.tmp 5]) rfl (by simp) (.tmp (.tmp (.tmp (.tmp .nil))))) rfl ?_; exact ⟨zer,by repeat (first | (with_reducible first | exact HB.out | apply below_alloc | apply pw_below_drewN | apply below_drew1 | refine below_set ?_ (IsS50.ge HI0.out)) | exact HB.out)⟩

end Go.Proofs.YtffbfkfbeggdnaaGreatDoor.P
-- printed by xprint.py
namespace Go.Proofs.YtffbfkfbeggdnaaGreatDoor.P
open Go.RowKit Go.Proofs.YtffbfkfbeggdnaaGreatDoorW.PrintWords Go.Proofs.YtffbfkfbeggdnaaGreatDoorW.PrintLast Go.Proofs.YtffbfkfbeggdnaaGreatDoorW.PrintMore
attribute [local go_sem] max2_int min2_int max_two min_two max_three min_three max_four min_four
set_option linter.unusedVariables false
set_option linter.unusedSimpArgs false

def spec_DrawCountRounds.f (k : Nat) (l0 : List Int) : Option (ByteArray × ByteArray × Int) := (spec_DrawCountBetween.f k l0).bind fun bt101 => (some (bt101.1,bt101.2.1,bt101.2.2.2))
set_option maxHeartbeats 8000000 in
set_option maxRecDepth 100000 in
theorem spec_DrawCountRounds.calls (k : Nat) (A0 : Option Addr) (c0 : Nat) (l0 : List Int) (r1 : ByteArray) (r2 : ByteArray) (r3 : Int) (w : World) (hr0 : Kd.C (Kd.int .u8) w A0 l0.length l0) (hc0 : l0.length ≤ c0) (h : spec_DrawCountRounds.f k l0 = some (r1,r2,r3)) :
  Calls Tryz.prog 27 #[.slice A0 l0.length c0] w fun e w' => e = .returned (.tuple #[.string r1,.string r2,.int .i64 r3]) ∧ Below w.heap.size w w' := by
 have HR0 := Aside0.mk hr0; have HC0 := Aside0.mk hc0; clear hr0 hc0; have HB := Aside0.mk (Below.refl w.heap.size w); have H : ((spec_DrawCountBetween.f k l0).bind fun bt101 => (some (bt101.1,bt101.2.1,bt101.2.2.2))) = some (r1,r2,r3) := h; clear h; replace H := Option.bind_eq_some_iff.mp H; obtain ⟨⟨t101,t102,t103,t104⟩,A20,H⟩ := H; replace H : (some (t101,t102,t104)) = some (r1,r2,r3) := H; have A2 := Aside0.mk A20; clear A20; simp only [Option.some.injEq,Prod.mk.injEq] at H; obtain ⟨rfl,rfl,rfl⟩ := H
 go_enter Tryz.func27,Tryz.ntmps27
 go_wp2_with (first | ((with_reducible refine gate_callee (f := 22) rfl ?_); refine goesL_ (some 11) rfl rfl Tryz.func22 (by kernel_rfl) rfl #[.slice A0 l0.length c0] rfl zrr ?_; (with_reducible refine (spec_DrawCountBetween.calls k _ _ l0 t101 t102 t103 t104 _ ?side1 ?side2 A2.out).mono ?_); (case side1 => repeat (first | exact HR0.out | (with_reducible refine Kd.C_alloc ?_ _) | (with_reducible refine Kd.C_drewN ?_ _) | (with_reducible refine Kd.C_drew ?_))); (case side2 => exact HC0.out); rintro e w3 ⟨rfl,hb⟩; refine ⟨_,rfl,?_⟩; have n0_ := Aside0.mk (below_step zbw hb); clear HB; have HB := n0_; clear n0_; (try clear hb); (try clear hb2); (try clear hk); (try clear hi)))
 go_ret3
 exact ⟨zer,zbw⟩

end Go.Proofs.YtffbfkfbeggdnaaGreatDoor.P
-- printed by xprint.py
namespace Go.Proofs.YtffbfkfbeggdnaaGreatDoor.P
open Go.RowKit Go.Proofs.YtffbfkfbeggdnaaGreatDoorW.PrintWords Go.Proofs.YtffbfkfbeggdnaaGreatDoorW.PrintLast Go.Proofs.YtffbfkfbeggdnaaGreatDoorW.PrintMore
attribute [local go_sem] max2_int min2_int max_two min_two max_three min_three max_four min_four
set_option linter.unusedVariables false
set_option linter.unusedSimpArgs false

def spec_DrawNumberOfRank.g (k : Nat) (s0_0 : List Int) (s0_1 : Int) (s0_2 : Int) : Option (ByteArray × ByteArray × Int × Int × Int × Int) := (spec_l1Cur_piece.f s0_0 s0_1 s0_2).bind fun bt101 => ((spec_l1Cur_digit.f k s0_0 bt101.2.1 bt101.2.2).bind fun bt104 => ((spec_l1Cur_among.f s0_0 bt104.2.1 bt104.2.2 (([1,2,3,4,7,10,20,40,0] : List Int))).bind fun bt110 => ((spec_l1Cur_among.f s0_0 bt110.2.1 bt110.2.2 (([0,1,2,5,12,100,100000,(-1),4611686018427387904] : List Int))).bind fun bt116 => (some (bt101.1,bt104.1,bt110.1,bt116.1,bt116.2.1,bt116.2.2)))))
def spec_DrawNumberOfRank.f (k : Nat) (l0 : List Int) : Option (ByteArray × ByteArray × Int × Int) := (spec_DrawNumberOfRank.g k l0 0 0).bind fun p => some (p.1,p.2.1,p.2.2.1,p.2.2.2.1)
set_option maxHeartbeats 8000000 in
set_option maxRecDepth 100000 in
theorem spec_DrawNumberOfRank.calls (k : Nat) (A0 : Option Addr) (c0 : Nat) (l0 : List Int) (r1 : ByteArray) (r2 : ByteArray) (r3 : Int) (r4 : Int) (w : World) (hr0 : Kd.C (Kd.int .u8) w A0 l0.length l0) (hc0 : l0.length ≤ c0) (h : spec_DrawNumberOfRank.f k l0 = some (r1,r2,r3,r4)) :
  Calls Tryz.prog 14 #[.slice A0 l0.length c0] w fun e w' => e = .returned (.tuple #[.string r1,.string r2,.int .i64 r3,.int .i64 r4]) ∧ Below w.heap.size w w' := by
 unfold spec_DrawNumberOfRank.f at h
 have h0 := h; clear h; obtain ⟨⟨r1_,r2_,r3_,r4_,s1_,s2_⟩,h,hq⟩ := Option.bind_eq_some_iff.mp h0; clear h0; simp only [Option.some.injEq,Prod.mk.injEq] at hq; obtain ⟨rfl,rfl,rfl,rfl⟩ := hq; have HR0 := Aside0.mk hr0; clear hr0; have HBr := Aside0.mk (Below.refl w.heap.size w); have H : ((spec_l1Cur_piece.f l0 (0 : Int) (0 : Int)).bind fun bt101 => ((spec_l1Cur_digit.f k l0 bt101.2.1 bt101.2.2).bind fun bt104 => ((spec_l1Cur_among.f l0 bt104.2.1 bt104.2.2 (([1,2,3,4,7,10,20,40,0] : List Int))).bind fun bt110 => ((spec_l1Cur_among.f l0 bt110.2.1 bt110.2.2 (([0,1,2,5,12,100,100000,(-1),4611686018427387904] : List Int))).bind fun bt116 => (some (bt101.1,bt104.1,bt110.1,bt116.1,bt116.2.1,bt116.2.2)))))) = some (r1_,r2_,r3_,r4_,s1_,s2_) := h; clear h; replace H := Option.bind_eq_some_iff.mp H; obtain ⟨⟨t101,t102,t103⟩,A20,H⟩ := H; replace H : ((spec_l1Cur_digit.f k l0 t102 t103).bind fun bt104 => ((spec_l1Cur_among.f l0 bt104.2.1 bt104.2.2 (([1,2,3,4,7,10,20,40,0] : List Int))).bind fun bt110 => ((spec_l1Cur_among.f l0 bt110.2.1 bt110.2.2 (([0,1,2,5,12,100,100000,(-1),4611686018427387904] : List Int))).bind fun bt116 => (some (t101,bt104.1,bt110.1,bt116.1,bt116.2.1,bt116.2.2))))) = some (r1_,r2_,r3_,r4_,s1_,s2_) := H; have A2 := Aside0.mk A20; clear A20; replace H := Option.bind_eq_some_iff.mp H; obtain ⟨⟨t104,t105,t106⟩,A30,H⟩ := H; replace H : ((spec_l1Cur_among.f l0 t105 t106 (([1,2,3,4,7,10,20,40,0] : List Int))).bind fun bt110 => ((spec_l1Cur_among.f l0 bt110.2.1 bt110.2.2 (([0,1,2,5,12,100,100000,(-1),4611686018427387904] : List Int))).bind fun bt116 => (some (t101,t104,bt110.1,bt116.1,bt116.2.1,bt116.2.2)))) = some (r1_,r2_,r3_,r4_,s1_,s2_) := H; have A3 := Aside0.mk A30; clear A30; obtain ⟨y107,hy107⟩ : ∃ y_ : List Int,y_ = (([1,2,3,4,7,10,20,40,0] : List Int)) := ⟨_,rfl⟩; replace H : ((spec_l1Cur_among.f l0 t105 t106 y107).bind fun bt110 => ((spec_l1Cur_among.f l0 bt110.2.1 bt110.2.2 (([0,1,2,5,12,100,100000,(-1),4611686018427387904] : List Int))).bind fun bt116 => (some (t101,t104,bt110.1,bt116.1,bt116.2.1,bt116.2.2)))) = some (r1_,r2_,r3_,r4_,s1_,s2_) := by first | (rw [hy107]; with_reducible exact H) | (have H2_ := (Option.bind_some _ _).symm.trans H; rw [hy107]; with_reducible exact H2_) | (have H2_ := (Option.bind_some _ _).symm.trans H; with_reducible exact H2_) | with_reducible exact H | (rw [hy107]; exact H) | exact H
 have Ny107 := Aside0.mk hy107; clear hy107; replace H := Option.bind_eq_some_iff.mp H; obtain ⟨⟨t110,t111,t112⟩,A40,H⟩ := H; replace H : ((spec_l1Cur_among.f l0 t111 t112 (([0,1,2,5,12,100,100000,(-1),4611686018427387904] : List Int))).bind fun bt116 => (some (t101,t104,t110,bt116.1,bt116.2.1,bt116.2.2))) = some (r1_,r2_,r3_,r4_,s1_,s2_) := H; have A4 := Aside0.mk A40; clear A40; obtain ⟨y113,hy113⟩ : ∃ y_ : List Int,y_ = (([0,1,2,5,12,100,100000,(-1),4611686018427387904] : List Int)) := ⟨_,rfl⟩; replace H : ((spec_l1Cur_among.f l0 t111 t112 y113).bind fun bt116 => (some (t101,t104,t110,bt116.1,bt116.2.1,bt116.2.2))) = some (r1_,r2_,r3_,r4_,s1_,s2_) := by first | (rw [hy113]; with_reducible exact H) | (have H2_ := (Option.bind_some _ _).symm.trans H; rw [hy113]; with_reducible exact H2_) | (have H2_ := (Option.bind_some _ _).symm.trans H; with_reducible exact H2_) | with_reducible exact H | (rw [hy113]; exact H) | exact H
 have Ny113 := Aside0.mk hy113; clear hy113; replace H := Option.bind_eq_some_iff.mp H; obtain ⟨⟨t116,t117,t118⟩,A50,H⟩ := H; replace H : (some (t101,t104,t110,t116,t117,t118)) = some (r1_,r2_,r3_,r4_,s1_,s2_) := H; have A5 := Aside0.mk A50; clear A50; simp only [Option.some.injEq,Prod.mk.injEq] at H; obtain ⟨rfl,rfl,rfl,rfl,rfl,rfl⟩ := H
 go_enter Tryz.func14,Tryz.ntmps14
 go_wp2_with (first | ((with_reducible refine gate_dst (N := 11) rfl ?_); refine box_event ?hg (N := 11) ?hd (cs := #[.slice A0 l0.length c0,.int .i64 0,.int .u64 0]) (t := 50) ?hr ?_; (case hd => rfl); (case hg => rfl); (case hr => first | (go_simp; done) | (go_simp; rfl)); intro g hg wb hbox hb; have HI0 := Aside0.mk (show IsS50 w wb g l0 0 0 from ⟨A0,c0,hbox,by rw [hg]; exact below_size (by repeat (first | (with_reducible first | exact HBr.out | apply below_alloc | apply pw_below_drewN | apply below_drew1) | exact HBr.out)),HR0.out⟩); have HB := Aside0.mk (below_step (by repeat (first | (with_reducible first | exact HBr.out | apply below_alloc | apply pw_below_drewN | apply below_drew1) | exact HBr.out)) hb); have HL := Aside0.mk HB.out.size; have HW0 := Aside0.mk HB.out.size; have HK := Aside0.mk (KeepBut.refl wb g none); clear hb hbox hg) | ((with_reducible refine gate_callee (f := 30) rfl ?_); refine goesL_ (some 13) rfl rfl Tryz.func30 (by kernel_rfl) rfl #[.pointer (some ⟨g,0,none⟩)] rfl zrr ?_; (with_reducible refine (spec_l1Cur_piece.calls g l0 (0 : Int) (0 : Int) t101 t102 t103 w _ ?side1 ?side2 A2.out).mono ?_); (case side1 => repeat (first | (with_reducible first | exact HI0.out | apply IsS50.alloc | apply IsS50.drewN | apply IsS50.drew | apply IsS50.set_1 | apply IsS50.set_2) | exact HI0.out)); (case side2 => repeat (first | (with_reducible first | exact HB.out | apply below_alloc | apply pw_below_drewN | apply below_drew1 | refine below_set ?_ (IsS50.ge HI0.out)) | exact HB.out)); rintro e w6 ⟨rfl,hi,hb,hk⟩; refine ⟨_,rfl,?_⟩; have n0_ := Aside0.mk (KeepBut.trans (by repeat (first | (with_reducible first | exact HK.out | apply KeepBut.set_ | apply keep_drewN | apply keep_drew | apply keep_alloc) | exact HK.out)) hk (.inl rfl)); have n1_ := Aside0.mk (hb); have n2_ := Aside0.mk (hi); clear HK; clear HB; clear HI0; have HK := n0_; have HB := n1_; have HI0 := n2_; clear n0_ n1_ n2_; (try clear hb); (try clear hb2); (try clear hk); (try clear hi)) | ((with_reducible refine gate_callee (f := 31) rfl ?_); refine goesL_ (some 15) rfl rfl Tryz.func31 (by kernel_rfl) rfl #[.pointer (some ⟨g,0,none⟩)] rfl zrr ?_; (with_reducible refine (spec_l1Cur_digit.calls k g l0 t102 t103 t104 t105 t106 w _ ?side1 ?side2 A3.out).mono ?_); (case side1 => repeat (first | (with_reducible first | exact HI0.out | apply IsS50.alloc | apply IsS50.drewN | apply IsS50.drew | apply IsS50.set_1 | apply IsS50.set_2) | exact HI0.out)); (case side2 => repeat (first | (with_reducible first | exact HB.out | apply below_alloc | apply pw_below_drewN | apply below_drew1 | refine below_set ?_ (IsS50.ge HI0.out)) | exact HB.out)); rintro e w7 ⟨rfl,hi,hb,hk⟩; refine ⟨_,rfl,?_⟩; have n0_ := Aside0.mk (KeepBut.trans (by repeat (first | (with_reducible first | exact HK.out | apply KeepBut.set_ | apply keep_drewN | apply keep_drew | apply keep_alloc) | exact HK.out)) hk (.inl rfl)); have n1_ := Aside0.mk (hb); have n2_ := Aside0.mk (hi); clear HK; clear HB; clear HI0; have HK := n0_; have HB := n1_; have HI0 := n2_; clear n0_ n1_ n2_; (try clear hb); (try clear hb2); (try clear hk); (try clear hi)) | ((with_reducible refine gate_dst (N := 19) rfl ?_); refine Kd.R_lit (Kd.int .i64) _ 3 ?hg (N := 19) ?hd (xs := ([1,2,3,4,7,10,20,40,0] : List Int)) (inner := [.int .i64 1,.int .i64 2,.int .i64 3,.int .i64 4,.int .i64 7,.int .i64 10,.int .i64 20,.int .i64 40,.int .i64 0]) (ok := fun _ => True) (okp := fun _ => True) ?hr ?hp (fun _ hk => hk) trivial (Below.refl _ _) (Nat.le_refl _) (by simp) ?_; (case hd => rfl); (case hg => rfl); (case hr => first | (go_simp; done) | (go_simp; rfl)); (case hp => exact (Reps.one (show Kd.M (Kd.int .i64) _ _ _ 1 [.int .i64 1] from rfl) (Reps.one (show Kd.M (Kd.int .i64) _ _ _ 2 [.int .i64 2] from rfl) (Reps.one (show Kd.M (Kd.int .i64) _ _ _ 3 [.int .i64 3] from rfl) (Reps.one (show Kd.M (Kd.int .i64) _ _ _ 4 [.int .i64 4] from rfl) (Reps.one (show Kd.M (Kd.int .i64) _ _ _ 7 [.int .i64 7] from rfl) (Reps.one (show Kd.M (Kd.int .i64) _ _ _ 10 [.int .i64 10] from rfl) (Reps.one (show Kd.M (Kd.int .i64) _ _ _ 20 [.int .i64 20] from rfl) (Reps.one (show Kd.M (Kd.int .i64) _ _ _ 40 [.int .i64 40] from rfl) (Reps.one (show Kd.M (Kd.int .i64) _ _ _ 0 [.int .i64 0] from rfl) (Reps.none _ _))))))))))); intro v108 w8 ho9 hb hg_ hnew_; clear hg_ hnew_; (first | rw [← Ny107.out] at ho9 | (simp only [Int.reduceToNat] at ho9; rw [← Ny107.out] at ho9)); have n0_ := Aside0.mk (Kd.R_lower ho9 (keep_size (w := wb) (g := g) (row := none) (by repeat (first | (with_reducible first | exact HK.out | apply KeepBut.set_ | apply keep_drewN | apply keep_drew | apply keep_alloc) | exact HK.out)))); have n1_ := Aside0.mk (IsS50.below (by repeat (first | (with_reducible first | exact HI0.out | apply IsS50.alloc | apply IsS50.drewN | apply IsS50.drew | apply IsS50.set_1 | apply IsS50.set_2) | exact HI0.out)) hb); have n2_ := Aside0.mk (KeepBut.trans (by repeat (first | (with_reducible first | exact HK.out | apply KeepBut.set_ | apply keep_drewN | apply keep_drew | apply keep_alloc) | exact HK.out)) (KeepBut.of_below hb g none) (.inl rfl)); have n3_ := Aside0.mk (below_step (by repeat (first | (with_reducible first | exact HB.out | apply below_alloc | apply pw_below_drewN | apply below_drew1 | refine below_set ?_ (IsS50.ge HI0.out)) | exact HB.out)) hb); clear HI0; clear HK; clear HB; have HO109 := n0_; have HI0 := n1_; have HK := n2_; have HB := n3_; clear n0_ n1_ n2_ n3_; clear hb ho9; obtain ⟨Ao10,co10,eo10⟩ := Kd.R_slice HO109.out; subst eo10) | ((with_reducible refine gate_callee (f := 32) rfl ?_); refine goesL_ (some 20) rfl rfl Tryz.func32 (by kernel_rfl) rfl #[.pointer (some ⟨g,0,none⟩),.slice Ao10 y107.length co10] rfl zrr ?_; (with_reducible refine (spec_l1Cur_among.calls g l0 t105 t106 _ _ y107 t110 t111 t112 w _ ?side1 ?side2 ?side3 ?side4 ?side5 A4.out).mono ?_); (case side1 => repeat (first | (with_reducible first | exact HI0.out | apply IsS50.alloc | apply IsS50.drewN | apply IsS50.drew | apply IsS50.set_1 | apply IsS50.set_2) | exact HI0.out)); (case side2 => repeat (first | (with_reducible first | exact HB.out | apply below_alloc | apply pw_below_drewN | apply below_drew1 | refine below_set ?_ (IsS50.ge HI0.out)) | exact HB.out)); (case side3 => repeat (first | exact (Kd.R_reads' HO109.out).2.2 | (with_reducible refine Kd.C_alloc ?_ _) | (with_reducible refine Kd.C_drewN ?_ _) | (with_reducible refine Kd.C_drew ?_))); (case side4 => exact (Kd.R_reads' HO109.out).2.1); (case side5 => exact far_slice (IsS50.own_ne HI0.out HO109.out (by decide))); rintro e w11 ⟨rfl,hi,hb,hk⟩; refine ⟨_,rfl,?_⟩; have n0_ := Aside0.mk (Kd.R_mono (Kd.R_keep (IsS50.apart (show IsS50 w _ g l0 t105 t106 from by repeat (first | (with_reducible first | exact HI0.out | apply IsS50.alloc | apply IsS50.drewN | apply IsS50.drew | apply IsS50.set_1 | apply IsS50.set_2) | exact HI0.out)) (by (with_reducible repeat (first | apply Kd.R_alloc | apply Kd.R_drewN | apply Kd.R_drew)); exact HO109.out) (by decide)) hk (fun _ h => h.2)) (fun _ h => h.1)); have n1_ := Aside0.mk (KeepBut.trans (by repeat (first | (with_reducible first | exact HK.out | apply KeepBut.set_ | apply keep_drewN | apply keep_drew | apply keep_alloc) | exact HK.out)) hk (.inl rfl)); have n2_ := Aside0.mk (hb); have n3_ := Aside0.mk (hi); clear HO109; clear HK; clear HB; clear HI0; have HO109 := n0_; have HK := n1_; have HB := n2_; have HI0 := n3_; clear n0_ n1_ n2_ n3_; (try clear hb); (try clear hb2); (try clear hk); (try clear hi)) | ((with_reducible refine gate_dst (N := 22) rfl ?_); refine Kd.R_lit (Kd.int .i64) _ 3 ?hg (N := 22) ?hd (xs := ([0,1,2,5,12,100,100000,(-1),4611686018427387904] : List Int)) (inner := [.int .i64 0,.int .i64 1,.int .i64 2,.int .i64 5,.int .i64 12,.int .i64 100,.int .i64 100000,.int .i64 (-1),.int .i64 4611686018427387904]) (ok := fun _ => True) (okp := fun _ => True) ?hr ?hp (fun _ hk => hk) trivial (Below.refl _ _) (Nat.le_refl _) (by simp) ?_; (case hd => rfl); (case hg => rfl); (case hr => first | (go_simp; done) | (go_simp; rfl)); (case hp => exact (Reps.one (show Kd.M (Kd.int .i64) _ _ _ 0 [.int .i64 0] from rfl) (Reps.one (show Kd.M (Kd.int .i64) _ _ _ 1 [.int .i64 1] from rfl) (Reps.one (show Kd.M (Kd.int .i64) _ _ _ 2 [.int .i64 2] from rfl) (Reps.one (show Kd.M (Kd.int .i64) _ _ _ 5 [.int .i64 5] from rfl) (Reps.one (show Kd.M (Kd.int .i64) _ _ _ 12 [.int .i64 12] from rfl) (Reps.one (show Kd.M (Kd.int .i64) _ _ _ 100 [.int .i64 100] from rfl) (Reps.one (show Kd.M (Kd.int .i64) _ _ _ 100000 [.int .i64 100000] from rfl) (Reps.one (show Kd.M (Kd.int .i64) _ _ _ (-1) [.int .i64 (-1)] from rfl) (Reps.one (show Kd.M (Kd.int .i64) _ _ _ 4611686018427387904 [.int .i64 4611686018427387904] from rfl) (Reps.none _ _))))))))))); intro v114 w12 ho13 hb hg_ hnew_; clear hg_ hnew_; (first | rw [← Ny113.out] at ho13 | (simp only [Int.reduceToNat] at ho13; rw [← Ny113.out] at ho13)); have n0_ := Aside0.mk (Kd.R_elder' (by (with_reducible repeat (first | apply Kd.R_alloc | apply Kd.R_drewN | apply Kd.R_drew)); exact HO109.out) (Kd.R_base ho13) hb); have n1_ := Aside0.mk (Kd.R_lower (Kd.R_new' ho13 (Kd.R_lt (by (with_reducible repeat (first | apply Kd.R_alloc | apply Kd.R_drewN | apply Kd.R_drew)); exact HO109.out))) (keep_size (w := wb) (g := g) (row := none) (by repeat (first | (with_reducible first | exact HK.out | apply KeepBut.set_ | apply keep_drewN | apply keep_drew | apply keep_alloc) | exact HK.out)))); have n2_ := Aside0.mk (IsS50.below (by repeat (first | (with_reducible first | exact HI0.out | apply IsS50.alloc | apply IsS50.drewN | apply IsS50.drew | apply IsS50.set_1 | apply IsS50.set_2) | exact HI0.out)) hb); have n3_ := Aside0.mk (KeepBut.trans (by repeat (first | (with_reducible first | exact HK.out | apply KeepBut.set_ | apply keep_drewN | apply keep_drew | apply keep_alloc) | exact HK.out)) (KeepBut.of_below hb g none) (.inl rfl)); have n4_ := Aside0.mk (below_step (by repeat (first | (with_reducible first | exact HB.out | apply below_alloc | apply pw_below_drewN | apply below_drew1 | refine below_set ?_ (IsS50.ge HI0.out)) | exact HB.out)) hb); clear HO109; clear HI0; clear HK; clear HB; have HO109 := n0_; have HO115 := n1_; have HI0 := n2_; have HK := n3_; have HB := n4_; clear n0_ n1_ n2_ n3_ n4_; clear hb ho13; obtain ⟨Ao14,co14,eo14⟩ := Kd.R_slice HO115.out; subst eo14) | ((with_reducible refine gate_callee (f := 32) rfl ?_); refine goesL_ (some 23) rfl rfl Tryz.func32 (by kernel_rfl) rfl #[.pointer (some ⟨g,0,none⟩),.slice Ao14 y113.length co14] rfl zrr ?_; (with_reducible refine (spec_l1Cur_among.calls g l0 t111 t112 _ _ y113 t116 t117 t118 w _ ?side1 ?side2 ?side3 ?side4 ?side5 A5.out).mono ?_); (case side1 => repeat (first | (with_reducible first | exact HI0.out | apply IsS50.alloc | apply IsS50.drewN | apply IsS50.drew | apply IsS50.set_1 | apply IsS50.set_2) | exact HI0.out)); (case side2 => repeat (first | (with_reducible first | exact HB.out | apply below_alloc | apply pw_below_drewN | apply below_drew1 | refine below_set ?_ (IsS50.ge HI0.out)) | exact HB.out)); (case side3 => repeat (first | exact (Kd.R_reads' HO115.out).2.2 | (with_reducible refine Kd.C_alloc ?_ _) | (with_reducible refine Kd.C_drewN ?_ _) | (with_reducible refine Kd.C_drew ?_))); (case side4 => exact (Kd.R_reads' HO115.out).2.1); (case side5 => exact far_slice (IsS50.own_ne HI0.out HO115.out (by decide))); rintro e w15 ⟨rfl,hi,hb,hk⟩; refine ⟨_,rfl,?_⟩; have n0_ := Aside0.mk (Kd.R_mono (Kd.R_keep (IsS50.apart (show IsS50 w _ g l0 t111 t112 from by repeat (first | (with_reducible first | exact HI0.out | apply IsS50.alloc | apply IsS50.drewN | apply IsS50.drew | apply IsS50.set_1 | apply IsS50.set_2) | exact HI0.out)) (by (with_reducible repeat (first | apply Kd.R_alloc | apply Kd.R_drewN | apply Kd.R_drew)); exact HO109.out) (by decide)) hk (fun _ h => h.2)) (fun _ h => h.1)); have n1_ := Aside0.mk (Kd.R_mono (Kd.R_keep (IsS50.apart (show IsS50 w _ g l0 t111 t112 from by repeat (first | (with_reducible first | exact HI0.out | apply IsS50.alloc | apply IsS50.drewN | apply IsS50.drew | apply IsS50.set_1 | apply IsS50.set_2) | exact HI0.out)) (by (with_reducible repeat (first | apply Kd.R_alloc | apply Kd.R_drewN | apply Kd.R_drew)); exact HO115.out) (by decide)) hk (fun _ h => h.2)) (fun _ h => h.1)); have n2_ := Aside0.mk (KeepBut.trans (by repeat (first | (with_reducible first | exact HK.out | apply KeepBut.set_ | apply keep_drewN | apply keep_drew | apply keep_alloc) | exact HK.out)) hk (.inl rfl)); have n3_ := Aside0.mk (hb); have n4_ := Aside0.mk (hi); clear HO109; clear HO115; clear HK; clear HB; clear HI0; have HO109 := n0_; have HO115 := n1_; have HK := n2_; have HB := n3_; have HI0 := n4_; clear n0_ n1_ n2_ n3_ n4_; (try clear hb); (try clear hb2); (try clear hk); (try clear hi)))
 refine bodyPost_ret (results_list (rs := [.tmp 2,.tmp 3,.tmp 4,.tmp 5]) rfl (by simp) (.tmp (.tmp (.tmp (.tmp .nil))))) rfl ?_; exact ⟨zer,by repeat (first | (with_reducible first | exact HB.out | apply below_alloc | apply pw_below_drewN | apply below_drew1 | refine below_set ?_ (IsS50.ge HI0.out)) | exact HB.out)⟩

end Go.Proofs.YtffbfkfbeggdnaaGreatDoor.P
