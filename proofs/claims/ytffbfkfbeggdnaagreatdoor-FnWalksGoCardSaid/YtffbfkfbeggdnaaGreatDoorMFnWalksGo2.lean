/- Part 2 of 6 of the proof of: FnWalksGoCardSaid: the law 'FnWalksGo' answers true for every input, and leaves its arguments as they were. The row and its tied card, over the walk of its calls and the pure statement. -/
import Derived.Test.YtffbfkfbeggdnaaGreatDoorMFnWalksGo1
import Derived.Ground.NamesProg
import Derived.Shelf.Strings.SlTrimAscii
-- printed by xprint.py
namespace Go.Proofs.YtffbfkfbeggdnaaGreatDoor.P
open Go.RowKit Go.Proofs.YtffbfkfbeggdnaaGreatDoorW.PrintWords Go.Proofs.YtffbfkfbeggdnaaGreatDoorW.PrintLast Go.Proofs.YtffbfkfbeggdnaaGreatDoorW.PrintMore
attribute [local go_sem] max2_int min2_int max_two min_two max_three min_three max_four min_four
set_option linter.unusedVariables false
set_option linter.unusedSimpArgs false

mutual
def impl_CountAllNumbers.j0 : Nat → ByteArray → Int → Bool → Option (Int × Bool)
 | 0,_,_,_ => none
 | k + 1,x0,x1,x16 => if x16 = true then (some (0,false)) else ((impl_numbers.f k x0 x1).bind fun t103 => (impl_CountAllNumbers.l0 k 0 t103 (t103.length : Int) 0))
def impl_CountAllNumbers.l0 : Nat → Int → List Int → Int → Int → Option (Int × Bool)
 | 0,_,_,_,_ => none
 | k + 1,x6,x19,x20,x21 => if x21 < x20 then (if 0 ≤ x21 then (if x21 < (x19.length : Int) then (impl_CountAllNumbers.l0 k (wrap64 (x6 + (rd x19 x21))) x19 x20 (wrap64 (x21 + 1))) else (none)) else (none)) else ((impl_few.f x6).bind fun bt107 => (some (bt107.1,bt107.2)))
end
def impl_CountAllNumbers.f (k : Nat) (a0 : ByteArray) (a1 : Int) : Option (Int × Bool) := (impl_isPiece.f a0).bind fun t101 => (if t101 = true then ((impl_longOk.f a1).bind fun t102 => (impl_CountAllNumbers.j0 k a0 a1 (!t102))) else (impl_CountAllNumbers.j0 k a0 a1 true))
theorem impl_CountAllNumbers.mono_l : ∀ k,(∀ y0 y1 y2,LeO (impl_CountAllNumbers.j0 k y0 y1 y2) (impl_CountAllNumbers.j0 (k + 1) y0 y1 y2)) ∧ (∀ y0 y1 y2 y3,LeO (impl_CountAllNumbers.l0 k y0 y1 y2 y3) (impl_CountAllNumbers.l0 (k + 1) y0 y1 y2 y3))
 | 0 => ⟨by intros; intro r h; simp [impl_CountAllNumbers.j0] at h,by intros; intro r h; simp [impl_CountAllNumbers.l0] at h⟩
 | k + 1 => by
  obtain ⟨ih0,ih1⟩ := impl_CountAllNumbers.mono_l k; refine ⟨?_,?_⟩
  ·
   intro y0 y1 y2
   unfold impl_CountAllNumbers.j0
   repeat' first
   | (with_reducible exact ih0 _ _ _)
   | (with_reducible exact ih1 _ _ _ _)
   | (with_reducible exact impl_numbers.mono _ _ _)
   | (with_reducible exact LeO.refl _)
   | (with_reducible exact LeO.none _)
   | (with_reducible refine LeO.ite ?_ ?_)
   | (with_reducible refine LeO.bind ?_ (fun _ => ?_))
   | exact ih0 _ _ _
   | exact ih1 _ _ _ _
   | exact impl_numbers.mono _ _ _
   | exact LeO.none _
   | refine LeO.ite ?_ ?_
   | refine LeO.bind ?_ (fun _ => ?_)
  ·
   intro y0 y1 y2 y3
   unfold impl_CountAllNumbers.l0
   repeat' first
   | (with_reducible exact ih0 _ _ _)
   | (with_reducible exact ih1 _ _ _ _)
   | (with_reducible exact impl_numbers.mono _ _ _)
   | (with_reducible exact LeO.refl _)
   | (with_reducible exact LeO.none _)
   | (with_reducible refine LeO.ite ?_ ?_)
   | (with_reducible refine LeO.bind ?_ (fun _ => ?_))
   | exact ih0 _ _ _
   | exact ih1 _ _ _ _
   | exact impl_numbers.mono _ _ _
   | exact LeO.none _
   | refine LeO.ite ?_ ?_
   | refine LeO.bind ?_ (fun _ => ?_)
set_option maxHeartbeats 8000000 in
set_option maxRecDepth 100000 in
theorem impl_CountAllNumbers.calls (k : Nat) (a0 : ByteArray) (a1 : Int) (r1 : Int) (r2 : Bool) (w : World) (hml : ∃ m_ : Int,w.cell? ⟨0,0,none⟩ = some (.int .i64 m_)) (h : impl_CountAllNumbers.f k a0 a1 = some (r1,r2)) :
  Calls Tryz.prog 10 #[.string a0,.int .i64 a1] w fun e w' => e = .returned (.tuple #[.int .i64 r1,.bool r2]) ∧ Below w.heap.size w w' := by
 obtain ⟨ml_,hml⟩ := hml; have HML := Aside0.mk hml; clear hml; have HB := Aside0.mk (Below.refl w.heap.size w); have H : ((impl_isPiece.f a0).bind fun t101 => (if t101 = true then ((impl_longOk.f a1).bind fun t102 => (impl_CountAllNumbers.j0 k a0 a1 (!t102))) else (impl_CountAllNumbers.j0 k a0 a1 true))) = some (r1,r2) := h; clear h; have HC3 := Aside0.mk H; clear H
 go_enter Tryz.func10,Tryz.ntmps10
 go_upto_region 1 with (fail)
 go_cut [16] (fun v16 wc => ∃ (kq : Nat) (x16_2 : Bool),v16 = .bool x16_2 ∧ Aside0 (impl_CountAllNumbers.j0 kq a0 a1 x16_2 = some (r1,r2)) ∧ Aside0 (kq ≤ k) ∧ Aside0 (Below w.heap.size w wc))
 case first =>
  have H := HC3.out; clear HC3; replace H := Option.bind_eq_some_iff.mp H; obtain ⟨t101,A40,H⟩ := H; replace H : (if t101 = true then ((impl_longOk.f a1).bind fun t102 => (impl_CountAllNumbers.j0 k a0 a1 (!t102))) else (impl_CountAllNumbers.j0 k a0 a1 true)) = some (r1,r2) := H; have A4 := Aside0.mk A40; clear A40
  by_cases c5 : t101 = true
  ·
   subst c5; have H1 : ((impl_longOk.f a1).bind fun t102 => (impl_CountAllNumbers.j0 k a0 a1 (!t102))) = some (r1,r2) := by rw [if_pos rfl] at H; exact H
   clear H; have H := H1; clear H1; replace H := Option.bind_eq_some_iff.mp H; obtain ⟨t102,A60,H⟩ := H; replace H : (impl_CountAllNumbers.j0 k a0 a1 (!t102)) = some (r1,r2) := H; have A6 := Aside0.mk A60; clear A60; have H' := Aside0.mk H; clear H; go_wp2_with (first | ((with_reducible refine gate_callee (f := 33) rfl ?_); refine goesL_ (some 10) rfl rfl Tryz.func33 (by kernel_rfl) rfl #[.string a0] rfl zrr ?_; (with_reducible refine (impl_isPiece.calls a0 true _ zhm A4.out).mono ?_); rintro e w' ⟨rfl,⟨nd,rfl⟩⟩; refine ⟨_,rfl,?_⟩) | (go_at_call 35; (with_reducible refine (impl_longOk.calls a1 t102 _ A6.out).mono ?_); rintro e w' ⟨rfl,⟨nd,rfl⟩⟩))
   go_meet
   case rel => exact ⟨_,(!t102),zrs,H',⟨by first | omega | exact Nat.le_refl _⟩,⟨zbw⟩⟩
  ·
   replace c5 := Bool.eq_false_iff.mpr c5; subst c5; have H1 : (impl_CountAllNumbers.j0 k a0 a1 true) = some (r1,r2) := by rw [if_neg (show ¬ (false = true) by decide)] at H; exact H
   clear H; have H := H1; clear H1; have H' := Aside0.mk H; clear H; go_wp2_with (first | ((with_reducible refine gate_callee (f := 33) rfl ?_); refine goesL_ (some 10) rfl rfl Tryz.func33 (by kernel_rfl) rfl #[.string a0] rfl zrr ?_; (with_reducible refine (impl_isPiece.calls a0 false _ zhm A4.out).mono ?_); rintro e w' ⟨rfl,⟨nd,rfl⟩⟩; refine ⟨_,rfl,?_⟩))
   go_meet
   case rel => exact ⟨_,(true),zrs,H',⟨by first | omega | exact Nat.le_refl _⟩,⟨zbw⟩⟩
 case rest =>
  clear HC3; try clear c1
  try clear p2
  try clear c3
  try clear c5
  obtain ⟨kq,x16_2,rfl,HA,HJ2,HB⟩ := hcut
  cases kq with
  | zero => exact absurd HA.out (by simp [impl_CountAllNumbers.j0])
  | succ kj2 =>
   have H := HA.out; clear HA; simp only [impl_CountAllNumbers.j0] at H
   by_cases c7 : x16_2 = true
   ·
    subst c7; have H1 : (some (0,false)) = some (r1,r2) := by rw [if_pos rfl] at H; exact H
    clear H; have H := H1; clear H1; simp only [Option.some.injEq,Prod.mk.injEq] at H; obtain ⟨rfl,rfl⟩ := H; go_wp2
    go_ret2
    exact ⟨zer,zbw⟩
   ·
    replace c7 := Bool.eq_false_iff.mpr c7; subst c7; have H1 : ((impl_numbers.f kj2 a0 a1).bind fun t103 => (impl_CountAllNumbers.l0 kj2 0 t103 (t103.length : Int) 0)) = some (r1,r2) := by rw [if_neg (show ¬ (false = true) by decide)] at H; exact H
    clear H; have H := H1; clear H1; replace H := Option.bind_eq_some_iff.mp H; obtain ⟨t103,A80,H⟩ := H; replace H : (impl_CountAllNumbers.l0 kj2 0 t103 (t103.length : Int) 0) = some (r1,r2) := H; have A8 := Aside0.mk A80; clear A80; have H' := Aside0.mk H; clear H; go_wp2_with (first | ((with_reducible refine gate_callee (f := 37) rfl ?_); refine goesL_ (some 19) rfl rfl Tryz.func37 (by kernel_rfl) rfl #[.string a0,.int .i64 a1] rfl zrr ?_; (with_reducible refine (impl_numbers.calls kj2 a0 a1 t103 _ A8.out).mono ?_); rintro e w9 ⟨v104,rfl,ho0,hb⟩; refine ⟨_,rfl,?_⟩; have n0_ := Aside0.mk (Kd.R_lower ho0 (below_size zbw)); have n1_ := Aside0.mk (below_step zbw hb); clear HB; have HO105 := n0_; have HB := n1_; clear n0_ n1_; (try clear hb); (try clear hb2); (try clear hk); (try clear hi); (try clear ho0); obtain ⟨Ao10,co10,eo10⟩ := Kd.R_slice HO105.out; subst eo10))
    go_loopg [6,21] kj2 (fun kq v6 v21 w' => ∃ (x6_2 : Int) (x21_2 : Int),v6 = .int .i64 x6_2 ∧ v21 = .int .i64 x21_2 ∧ Aside0 (impl_CountAllNumbers.l0 kq x6_2 t103 (t103.length : Int) x21_2 = some (r1,r2)) ∧ Aside0 (kq ≤ kj2) ∧ Aside0 (Kd.R (Kd.int .i64) 3 w' w.heap.size (fun _ => True) (.slice Ao10 t103.length co10) t103) ∧ Aside0 (Below w.heap.size w w'))
    case atStart => exact ⟨(0),(0),zrs,zrs,H',⟨Nat.le_refl _⟩,⟨by (with_reducible repeat (first | apply Kd.R_alloc | apply Kd.R_drewN | apply Kd.R_drew)); exact HO105.out⟩,⟨zbw⟩⟩
    case round =>
     clear H'; try clear c1
     try clear p2
     try clear c3
     try clear c5
     try clear c7
     try clear c10
     try clear p2
     obtain ⟨x6_2,x21_2,rfl,rfl,HA,HK2,HO_19,HB⟩ := hrel
     cases gk with
     | zero => exact absurd HA.out (by simp [impl_CountAllNumbers.l0])
     | succ k2 =>
      have H := HA.out; clear HA; simp only [impl_CountAllNumbers.l0] at H
      by_cases c11 : x21_2 < (t103.length : Int)
      ·
       rw [if_pos c11] at H; have c11b0 : decide (x21_2 < (t103.length : Int)) = true := decide_eq_true c11; clear c11
       by_cases c12 : 0 ≤ x21_2
       ·
        rw [if_pos c12] at H; have c12b0 : decide (0 ≤ x21_2) = true := decide_eq_true c12; clear c12
        by_cases c13 : x21_2 < (t103.length : Int)
        ·
         rw [if_pos c13] at H; have c13b0 : decide (x21_2 < (t103.length : Int)) = true := decide_eq_true c13; clear c13; have H' := Aside0.mk H; clear H; have p106 : 0 ≤ (x21_2 : Int) := zdd; have q106 : x21_2 < (t103.length : Int) := zdd; obtain ⟨ad106,e106,hx106_0⟩ := Kd.at_int (Kd.R_reads' HO_19.out).2.2 x21_2 p106 q106
         cases e106
         replace p106 := eq_true p106; replace q106 := eq_true q106; go_wp2
         go_roundg k2
         case measure => have := HJ2.out; have := HK2.out; omega
         case rel => exact ⟨(wrap64 (x6_2 + (rd t103 x21_2))),(wrap64 (x21_2 + 1)),zrs,zrs,H',⟨by have := HJ2.out; have := HK2.out; omega⟩,⟨by (with_reducible repeat (first | apply Kd.R_alloc | apply Kd.R_drewN | apply Kd.R_drew)); exact HO_19.out⟩,⟨zbw⟩⟩
        · rw [if_neg c13] at H; exact absurd H (by simp)
       · rw [if_neg c12] at H; exact absurd H (by simp)
      ·
       rw [if_neg c11] at H; have c11b0 : decide (x21_2 < (t103.length : Int)) = false := decide_eq_false c11; clear c11; replace H := Option.bind_eq_some_iff.mp H; obtain ⟨⟨t107,t108⟩,A140,H⟩ := H; replace H : (some (t107,t108)) = some (r1,r2) := H; have A14 := Aside0.mk A140; clear A140; simp only [Option.some.injEq,Prod.mk.injEq] at H; obtain ⟨rfl,rfl⟩ := H; go_wp2_with (first | ((with_reducible refine gate_callee (f := 36) rfl ?_); refine goesL_ (some 30) rfl rfl Tryz.func36 (by kernel_rfl) rfl #[.int .i64 x6_2] rfl zrr ?_; (with_reducible refine (impl_few.calls x6_2 t107 t108 _ A14.out).mono ?_); rintro e w' ⟨rfl,⟨nd,rfl⟩⟩; refine ⟨_,rfl,?_⟩))
       go_ret2
       exact ⟨zer,zbw⟩

end Go.Proofs.YtffbfkfbeggdnaaGreatDoor.P
-- printed by xprint.py
namespace Go.Proofs.YtffbfkfbeggdnaaGreatDoor.P
open Go.RowKit Go.Proofs.YtffbfkfbeggdnaaGreatDoorW.PrintWords Go.Proofs.YtffbfkfbeggdnaaGreatDoorW.PrintLast Go.Proofs.YtffbfkfbeggdnaaGreatDoorW.PrintMore
attribute [local go_sem] max2_int min2_int max_two min_two max_three min_three max_four min_four
set_option linter.unusedVariables false
set_option linter.unusedSimpArgs false

def impl_digit.f (a0 : Int) : Option (Int) := some ((a0 - 48) % 256)
set_option maxHeartbeats 8000000 in
set_option maxRecDepth 100000 in
theorem impl_digit.calls (a0 : Int) (r : Int) (w : World) (h : impl_digit.f a0 = some r) :
  Calls Tryz.prog 38 #[.int .u8 a0] w fun e w' => e = .returned (.int .i64 r) ∧ Drawn0 w w' := by
 have H : (some ((a0 - 48) % 256)) = some r := h; clear h; obtain rfl := Option.some.inj H
 go_enter Tryz.func38,Tryz.ntmps38
 go_wp2
 go_ret
 exact ⟨by first | rfl | (simp; done) | (simp [*]; done),by repeat (first | exact Drawn0.refl _ | apply Drawn0.step)⟩

end Go.Proofs.YtffbfkfbeggdnaaGreatDoor.P
-- printed by xprint.py
namespace Go.Proofs.YtffbfkfbeggdnaaGreatDoor.P
open Go.RowKit Go.Proofs.YtffbfkfbeggdnaaGreatDoorW.PrintWords Go.Proofs.YtffbfkfbeggdnaaGreatDoorW.PrintLast Go.Proofs.YtffbfkfbeggdnaaGreatDoorW.PrintMore
attribute [local go_sem] max2_int min2_int max_two min_two max_three min_three max_four min_four
set_option linter.unusedVariables false
set_option linter.unusedSimpArgs false

def strings_Trim.f (a0 : ByteArray) (a1 : ByteArray) : Option ByteArray :=
 if a0.size ≤ 9223372036854775807 ∧ a1.size < 4294967281 ∧ a1.data.toList.all (fun b => decide (b.toNat < 128)) = true then some ⟨(Lib.trimS a0.data.toList a1.data.toList).toArray⟩ else none
end Go.Proofs.YtffbfkfbeggdnaaGreatDoor.P
namespace Go.Proofs
open Go.Shelf
def YtffbfkfbeggdnaaGreatDoorlaysTrim_ren : Go.Shelf.Ren := ⟨fun | 160 => 85 | 232 => 107 | 231 => 106 | 227 => 108 | 234 => 110 | 233 => 109 | 236 => 112 | 235 => 111 | 228 => 121 | 271 => 124 | 151 => 123 | 197 => 122 | 120 => 128 | 152 => 127 | 260 => 126 | 137 => 129 | 119 => 130 | 224 => 104 | 225 => 103 | 217 => 102 | 266 => 119 | n => n, fun | 9 => 9 | 4 => 4 | 3 => 3 | 5 => 5 | 117 => 118 | 116 => 117 | 0 => 0 | 124 => 121 | 21 => 21 | 105 => 130 | 46 => 89 | 119 => 136 | 139 => 139 | 138 => 138 | n => n, fun | 3 => 1 | 4 => 2 | n => n⟩
theorem YtffbfkfbeggdnaaGreatDoorlaysTrim : Go.Proofs.Lays.n160 Tryz.prog YtffbfkfbeggdnaaGreatDoorlaysTrim_ren := {
  mixed := by kernel_rfl
  f119 := Tryz.func130.trans (congrArg some (by kernel_rfl))
  f120 := Tryz.func128.trans (congrArg some (by kernel_rfl))
  f137 := Tryz.func129.trans (congrArg some (by kernel_rfl))
  f151 := Tryz.func123.trans (congrArg some (by kernel_rfl))
  f152 := Tryz.func127.trans (congrArg some (by kernel_rfl))
  f160 := Tryz.func85.trans (congrArg some (by kernel_rfl))
  f197 := Tryz.func122.trans (congrArg some (by kernel_rfl))
  f217 := Tryz.func102.trans (congrArg some (by kernel_rfl))
  f224 := Tryz.func104.trans (congrArg some (by kernel_rfl))
  f225 := Tryz.func103.trans (congrArg some (by kernel_rfl))
  f227 := Tryz.func108.trans (congrArg some (by kernel_rfl))
  f228 := Tryz.func121.trans (congrArg some (by kernel_rfl))
  f231 := Tryz.func106.trans (congrArg some (by kernel_rfl))
  f232 := Tryz.func107.trans (congrArg some (by kernel_rfl))
  f233 := Tryz.func109.trans (congrArg some (by kernel_rfl))
  f234 := Tryz.func110.trans (congrArg some (by kernel_rfl))
  f235 := Tryz.func111.trans (congrArg some (by kernel_rfl))
  f236 := Tryz.func112.trans (congrArg some (by kernel_rfl))
  f260 := Tryz.func126.trans (congrArg some (by kernel_rfl))
  f266 := Tryz.func119.trans (congrArg some (by kernel_rfl))
  f271 := Tryz.func124.trans (congrArg some (by kernel_rfl))
  t0 := Tryz.underlying0
  a0 := Tryz.isAgg0
  z0 := Tryz.sizeOf0
  v0 := Tryz.zeroValue0
  t3 := Tryz.underlying3
  a3 := Tryz.isAgg3
  z3 := Tryz.sizeOf3
  v3 := Tryz.zeroValue3
  t4 := Tryz.underlying4
  a4 := Tryz.isAgg4
  z4 := Tryz.sizeOf4
  v4 := Tryz.zeroValue4
  t5 := Tryz.underlying5
  a5 := Tryz.isAgg5
  z5 := Tryz.sizeOf5
  v5 := Tryz.zeroValue5
  t9 := Tryz.underlying9
  a9 := Tryz.isAgg9
  z9 := Tryz.sizeOf9
  v9 := Tryz.zeroValue9
  t21 := Tryz.underlying21
  a21 := Tryz.isAgg21
  z21 := Tryz.sizeOf21
  v21 := Tryz.zeroValue21
  t46 := Tryz.underlying89
  a46 := Tryz.isAgg89
  z46 := Tryz.sizeOf89
  v46 := Tryz.zeroValue89
  t105 := Tryz.underlying130
  a105 := Tryz.isAgg130
  z105 := Tryz.sizeOf130
  v105 := Tryz.zeroValue130
  t116 := Tryz.underlying117
  a116 := Tryz.isAgg117
  z116 := Tryz.sizeOf117
  t117 := Tryz.underlying118
  a117 := Tryz.isAgg118
  z117 := Tryz.sizeOf118
  v117 := Tryz.zeroValue118
  t119 := Tryz.underlying136
  a119 := Tryz.isAgg136
  z119 := Tryz.sizeOf136
  t124 := Tryz.underlying121
  a124 := Tryz.isAgg121
  z124 := Tryz.sizeOf121
  v124 := Tryz.zeroValue121
  t138 := Tryz.underlying138
  a138 := Tryz.isAgg138
  z138 := Tryz.sizeOf138
  v138 := Tryz.zeroValue138
  t139 := Tryz.underlying139
  a139 := Tryz.isAgg139
  z139 := Tryz.sizeOf139
  v139 := Tryz.zeroValue139
  g3 := by kernel_rfl
  g4 := by kernel_rfl }
end Go.Proofs
namespace Go.Proofs.YtffbfkfbeggdnaaGreatDoor.P
open Go.RowKit Go.Proofs.YtffbfkfbeggdnaaGreatDoorW.PrintWords Go.Proofs.YtffbfkfbeggdnaaGreatDoorW.PrintLast Go.Proofs.YtffbfkfbeggdnaaGreatDoorW.PrintMore
theorem strings_Trim.calls (a0 : ByteArray) (a1 : ByteArray) (r : ByteArray) (w : World) (h : strings_Trim.f a0 a1 = some r) :
  Calls Tryz.prog 85 #[.string a0,.string a1] w fun e w' => e = .returned (.string r) ∧ Below w.heap.size w w' := by
 unfold strings_Trim.f at h
 split at h
 ·
  rename_i c
  obtain rfl := Option.some.inj h; have hcon := Any.strings_Trim_laid YtffbfkfbeggdnaaGreatDoorlaysTrim (by kernel_rfl) a0 a1 w c.1 c.2.1 (ascii_of_all c.2.2)
  change Calls Tryz.prog 85 _ _ _ at hcon
  exact hcon
 · cases h

end Go.Proofs.YtffbfkfbeggdnaaGreatDoor.P
-- printed by xprint.py
namespace Go.Proofs.YtffbfkfbeggdnaaGreatDoor.P
open Go.RowKit Go.Proofs.YtffbfkfbeggdnaaGreatDoorW.PrintWords Go.Proofs.YtffbfkfbeggdnaaGreatDoorW.PrintLast Go.Proofs.YtffbfkfbeggdnaaGreatDoorW.PrintMore
attribute [local go_sem] max2_int min2_int max_two min_two max_three min_three max_four min_four
set_option linter.unusedVariables false
set_option linter.unusedSimpArgs false

def impl_over.f (a0 : ByteArray) (a1 : ByteArray) : Option (Bool) := (strings_Trim.f a0 a1).bind fun t101 => (some (t101.toList == ([] : List UInt8)))
set_option maxHeartbeats 8000000 in
set_option maxRecDepth 100000 in
theorem impl_over.calls (a0 : ByteArray) (a1 : ByteArray) (r : Bool) (w : World) (h : impl_over.f a0 a1 = some r) :
  Calls Tryz.prog 75 #[.string a0,.string a1] w fun e w' => e = .returned (.bool r) ∧ Below w.heap.size w w' := by
 have HB := Aside0.mk (Below.refl w.heap.size w); have H : ((strings_Trim.f a0 a1).bind fun t101 => (some (t101.toList == ([] : List UInt8)))) = some r := h; clear h; replace H := Option.bind_eq_some_iff.mp H; obtain ⟨t101,A30,H⟩ := H; replace H : (some (t101.toList == ([] : List UInt8))) = some r := H; have A3 := Aside0.mk A30; clear A30; obtain rfl := Option.some.inj H
 go_enter Tryz.func75,Tryz.ntmps75
 go_wp2_with (first | ((with_reducible refine gate_callee (f := 85) rfl ?_); refine goesL_ (some 7) rfl rfl Tryz.func85 (by kernel_rfl) rfl #[.string a0,.string a1] rfl zrr ?_; (with_reducible refine (strings_Trim.calls a0 a1 t101 _ A3.out).mono ?_); rintro e w4 ⟨rfl,hb⟩; refine ⟨_,rfl,?_⟩; have n0_ := Aside0.mk (below_step zbw hb); clear HB; have HB := n0_; clear n0_; (try clear hb); (try clear hb2); (try clear hk); (try clear hi)))
 go_ret
 exact ⟨zer,zbw⟩

end Go.Proofs.YtffbfkfbeggdnaaGreatDoor.P
-- printed by xprint.py
namespace Go.Proofs.YtffbfkfbeggdnaaGreatDoor.P
open Go.RowKit Go.Proofs.YtffbfkfbeggdnaaGreatDoorW.PrintWords Go.Proofs.YtffbfkfbeggdnaaGreatDoorW.PrintLast Go.Proofs.YtffbfkfbeggdnaaGreatDoorW.PrintMore
attribute [local go_sem] max2_int min2_int max_two min_two max_three min_three max_four min_four
set_option linter.unusedVariables false
set_option linter.unusedSimpArgs false

def impl_isDigits.f (a0 : ByteArray) (a1 : Int) (a2 : Int) : Option (Bool) := (impl_in.f (a0.size : Int) a1 a2).bind fun t101 => (if t101 = true then ((impl_over.f a0 (⟨#[48,49,50,51,52,53,54,55,56,57]⟩ : ByteArray)).bind fun t102 => (some t102)) else (some false))
set_option maxHeartbeats 8000000 in
set_option maxRecDepth 100000 in
theorem impl_isDigits.calls (a0 : ByteArray) (a1 : Int) (a2 : Int) (r : Bool) (w : World) (h : impl_isDigits.f a0 a1 a2 = some r) :
  Calls Tryz.prog 63 #[.string a0,.int .i64 a1,.int .i64 a2] w fun e w' => e = .returned (.bool r) ∧ Below w.heap.size w w' := by
 have HB := Aside0.mk (Below.refl w.heap.size w); have H : ((impl_in.f (a0.size : Int) a1 a2).bind fun t101 => (if t101 = true then ((impl_over.f a0 (⟨#[48,49,50,51,52,53,54,55,56,57]⟩ : ByteArray)).bind fun t102 => (some t102)) else (some false))) = some r := h; clear h; replace H := Option.bind_eq_some_iff.mp H; obtain ⟨t101,A40,H⟩ := H; replace H : (if t101 = true then ((impl_over.f a0 (⟨#[48,49,50,51,52,53,54,55,56,57]⟩ : ByteArray)).bind fun t102 => (some t102)) else (some false)) = some r := H; have A4 := Aside0.mk A40; clear A40
 by_cases c5 : t101 = true
 ·
  subst c5; have H1 : ((impl_over.f a0 (⟨#[48,49,50,51,52,53,54,55,56,57]⟩ : ByteArray)).bind fun t102 => (some t102)) = some r := by rw [if_pos rfl] at H; exact H
  clear H; have H := H1; clear H1; replace H := Option.bind_eq_some_iff.mp H; obtain ⟨t102,A60,H⟩ := H; replace H : (some t102) = some r := H; have A6 := Aside0.mk A60; clear A60; obtain rfl := Option.some.inj H
  go_enter Tryz.func63,Tryz.ntmps63
  go_wp2_with (first | ((with_reducible refine gate_callee (f := 48) rfl ?_); refine goesL_ (some 11) rfl rfl Tryz.func48 (by kernel_rfl) rfl #[.int .i64 (a0.size : Int),.int .i64 a1,.int .i64 a2] rfl zrr ?_; (with_reducible refine (impl_in.calls (a0.size : Int) a1 a2 true _ A4.out).mono ?_); rintro e w' ⟨rfl,⟨nd,rfl⟩⟩; refine ⟨_,rfl,?_⟩) | (go_at_call 75; (with_reducible refine (impl_over.calls a0 (⟨#[48,49,50,51,52,53,54,55,56,57]⟩ : ByteArray) t102 _ A6.out).mono ?_); rintro e w7 ⟨rfl,hb⟩; have n0_ := Aside0.mk (below_step zbw hb); clear HB; have HB := n0_; clear n0_; (try clear hb); (try clear hb2); (try clear hk); (try clear hi)))
  go_ret
  exact ⟨zer,zbw⟩
 ·
  replace c5 := Bool.eq_false_iff.mpr c5; subst c5; have H1 : (some false) = some r := by rw [if_neg (show ¬ (false = true) by decide)] at H; exact H
  clear H; have H := H1; clear H1; obtain rfl := Option.some.inj H
  go_enter Tryz.func63,Tryz.ntmps63
  go_wp2_with (first | ((with_reducible refine gate_callee (f := 48) rfl ?_); refine goesL_ (some 11) rfl rfl Tryz.func48 (by kernel_rfl) rfl #[.int .i64 (a0.size : Int),.int .i64 a1,.int .i64 a2] rfl zrr ?_; (with_reducible refine (impl_in.calls (a0.size : Int) a1 a2 false _ A4.out).mono ?_); rintro e w' ⟨rfl,⟨nd,rfl⟩⟩; refine ⟨_,rfl,?_⟩))
  go_ret
  exact ⟨zer,zbw⟩

end Go.Proofs.YtffbfkfbeggdnaaGreatDoor.P
-- printed by xprint.py
namespace Go.Proofs.YtffbfkfbeggdnaaGreatDoor.P
open Go.RowKit Go.Proofs.YtffbfkfbeggdnaaGreatDoorW.PrintWords Go.Proofs.YtffbfkfbeggdnaaGreatDoorW.PrintLast Go.Proofs.YtffbfkfbeggdnaaGreatDoorW.PrintMore
attribute [local go_sem] max2_int min2_int max_two min_two max_three min_three max_four min_four
set_option linter.unusedVariables false
set_option linter.unusedSimpArgs false

def impl_isDigit.f (a0 : ByteArray) : Option (Bool) := (impl_isDigits.f a0 1 1).bind fun t101 => (some t101)
set_option maxHeartbeats 8000000 in
set_option maxRecDepth 100000 in
theorem impl_isDigit.calls (a0 : ByteArray) (r : Bool) (w : World) (h : impl_isDigit.f a0 = some r) :
  Calls Tryz.prog 34 #[.string a0] w fun e w' => e = .returned (.bool r) ∧ Below w.heap.size w w' := by
 have HB := Aside0.mk (Below.refl w.heap.size w); have H : ((impl_isDigits.f a0 1 1).bind fun t101 => (some t101)) = some r := h; clear h; replace H := Option.bind_eq_some_iff.mp H; obtain ⟨t101,A20,H⟩ := H; replace H : (some t101) = some r := H; have A2 := Aside0.mk A20; clear A20; obtain rfl := Option.some.inj H
 go_enter Tryz.func34,Tryz.ntmps34
 go_wp2_with (first | ((with_reducible refine gate_callee (f := 63) rfl ?_); refine goesL_ (some 4) rfl rfl Tryz.func63 (by kernel_rfl) rfl #[.string a0,.int .i64 1,.int .i64 1] rfl zrr ?_; (with_reducible refine (impl_isDigits.calls a0 1 1 t101 _ A2.out).mono ?_); rintro e w3 ⟨rfl,hb⟩; refine ⟨_,rfl,?_⟩; have n0_ := Aside0.mk (below_step zbw hb); clear HB; have HB := n0_; clear n0_; (try clear hb); (try clear hb2); (try clear hk); (try clear hi)))
 go_ret
 exact ⟨zer,zbw⟩

end Go.Proofs.YtffbfkfbeggdnaaGreatDoor.P
-- printed by xprint.py
namespace Go.Proofs.YtffbfkfbeggdnaaGreatDoor.P
open Go.RowKit Go.Proofs.YtffbfkfbeggdnaaGreatDoorW.PrintWords Go.Proofs.YtffbfkfbeggdnaaGreatDoorW.PrintLast Go.Proofs.YtffbfkfbeggdnaaGreatDoorW.PrintMore
attribute [local go_sem] max2_int min2_int max_two min_two max_three min_three max_four min_four
set_option linter.unusedVariables false
set_option linter.unusedSimpArgs false

def impl_only.f (a0 : Int) : Option (List Int) := if 10 ≤ 35184372088832 then ((some (List.replicate 10 0 : List Int)).bind fun y101 => (if 0 ≤ a0 then (if a0 < (y101.length : Int) then (some (y101.set (a0 : Int).toNat 1)) else (none)) else (none))) else (none)
set_option maxHeartbeats 8000000 in
set_option maxRecDepth 100000 in
theorem impl_only.calls (a0 : Int) (r : List Int) (w : World) (h : impl_only.f a0 = some r) :
  Calls Tryz.prog 54 #[.int .i64 a0] w fun e w' => ∃ v0_ : Value,e = .returned (v0_) ∧ Kd.R (Kd.int .i64) 3 w' w.heap.size (fun _ => True) v0_ r ∧ Below w.heap.size w w' := by
 have HB := Aside0.mk (Below.refl w.heap.size w); have H : (if 10 ≤ 35184372088832 then ((some (List.replicate 10 0 : List Int)).bind fun y101 => (if 0 ≤ a0 then (if a0 < (y101.length : Int) then (some (y101.set (a0 : Int).toNat 1)) else (none)) else (none))) else (none)) = some r := h; clear h
 by_cases c2 : 10 ≤ 35184372088832
 ·
  rw [if_pos c2] at H; have c2b0 := eq_true c2; have c2b1 : decide (10 ≤ 35184372088832) = true := decide_eq_true c2; clear c2; obtain ⟨y101,hy101⟩ : ∃ y_ : List Int,y_ = (List.replicate 10 0) := ⟨_,rfl⟩; replace H : (if 0 ≤ a0 then (if a0 < (y101.length : Int) then (some (y101.set (a0 : Int).toNat 1)) else (none)) else (none)) = some r := by first | (rw [hy101]; with_reducible exact H) | (have H2_ := (Option.bind_some _ _).symm.trans H; rw [hy101]; with_reducible exact H2_) | (have H2_ := (Option.bind_some _ _).symm.trans H; with_reducible exact H2_) | with_reducible exact H | (rw [hy101]; exact H) | exact H
  have Ny101 := Aside0.mk hy101; clear hy101
  by_cases c3 : 0 ≤ a0
  ·
   rw [if_pos c3] at H; have c3b0 : decide (0 ≤ a0) = true := decide_eq_true c3; clear c3
   by_cases c4 : a0 < (y101.length : Int)
   ·
    rw [if_pos c4] at H; have c4b0 : decide (a0 < (y101.length : Int)) = true := decide_eq_true c4; clear c4; obtain ⟨y104,hy104⟩ : ∃ y_ : List Int,y_ = (y101.set (a0 : Int).toNat 1) := ⟨_,rfl⟩; replace H : (some y104) = some r := by first | (rw [hy104]; with_reducible exact H) | (have H2_ := (Option.bind_some _ _).symm.trans H; rw [hy104]; with_reducible exact H2_) | (have H2_ := (Option.bind_some _ _).symm.trans H; with_reducible exact H2_) | with_reducible exact H | (rw [hy104]; exact H) | exact H
    have Ny104 := Aside0.mk hy104; clear hy104; obtain rfl := Option.some.inj H
    go_enter Tryz.func54,Tryz.ntmps54
    go_wp2_with (first | ((with_reducible refine gate_dst (N := 4) rfl ?_); refine Kd.R_make (Kd.int .i64) _ 3 rfl (N := 4) rfl 53 _ _ rfl 10 rfl rfl Tryz.underlying53 (.int .i64 0) 8 info3 rfl (by decide) (by omega) 0 (ok := fun _ => True) (okp := fun _ => True) rfl (fun _ hk => hk) trivial (by omega) (by omega) (Below.refl _ _) (Nat.le_refl _) ?_; intro v102 w6 ho7 hb hg_ hnew_; clear hg_ hnew_; (first | rw [← Ny101.out] at ho7 | (simp only [Int.reduceToNat] at ho7; rw [← Ny101.out] at ho7)); have n0_ := Aside0.mk (Kd.R_lower ho7 (below_size zbw)); have n1_ := Aside0.mk (below_step zbw hb); clear HB; have HO103 := n0_; have HB := n1_; clear n0_ n1_; clear hb ho7; have p5 : 0 ≤ (a0 : Int) := zdd; have q5 : (a0 : Int) < ((y101.length : Int) : Int) := zdd; obtain ⟨go5,co5,eo5,gb5,gl5,cl5,HG5⟩ := Kd.R_form HO103.out (by omega); (first | cases eo5 | (injection eo5 with ea_ en_ ec_; (first | subst ea_ | (injection ea_ with ea_; subst ea_)); subst ec_; clear en_)); have GB5 := Aside0.mk gb5; have GG5 := Aside0.mk HG5; clear gb5 gl5 HG5; obtain ⟨hx5_0,hf5_0⟩ := Kd.R_celln 0 HO103.out (a0 : Int) p5 q5; replace p5 := eq_true p5; replace q5 := eq_true q5; obtain ⟨hy8_,hz8_⟩ := Kd.R_celln 0 HO103.out (a0 : Int) (zdd) (zdd); have HP8 := Kd.R_putg HO103.out (a0 : Int) 1) | ((with_reducible refine gate_store (t := 3) (p := 7) rfl ?_); refine store_event (t := 3) (p := 7) (v := ?vo_w9) (w1 := (w6.setCell ⟨go5,(a0 : Int).toNat,none⟩ (.int .i64 1))) ?hg ?ho ?hn ?hr ?_; (case ho => rfl); (case hg => rfl); (case hn => rfl); (case hr => first | (go_simp; done) | (go_simp; rfl)); intro w9 hw; have hg : w6.grownBy w9 (some go5) := (by rw [hw]; exact HP8.2); have hp_ : Kd.R (Kd.int .i64) 3 w9 w.heap.size (fun _ => True) (.slice (some ⟨go5,0,none⟩) y101.length co5) y104 := (by rw [hw,Ny104.out]; exact HP8.1); clear HP8; have n0_ := Aside0.mk (hp_); have n1_ := Aside0.mk ((by rw [hw]; exact below_set (HB.out) GB5.out : Below w.heap.size w w9)); clear HO103; clear HB; have HO103 := n0_; have HB := n1_; clear n0_ n1_; clear hg hw hp_))
    go_ret
    exact ⟨_,by first | rfl | (simp [errW_none,errW_some] <;> rfl) | (simp [*,errW_none,errW_some] <;> rfl),by (with_reducible repeat (first | apply Kd.R_alloc | apply Kd.R_drewN | apply Kd.R_drew)); exact HO103.out,zbw⟩
   · rw [if_neg c4] at H; exact absurd H (by simp)
  · rw [if_neg c3] at H; exact absurd H (by simp)
 · rw [if_neg c2] at H; exact absurd H (by simp)

end Go.Proofs.YtffbfkfbeggdnaaGreatDoor.P
-- printed by xprint.py
namespace Go.Proofs.YtffbfkfbeggdnaaGreatDoor.P
open Go.RowKit Go.Proofs.YtffbfkfbeggdnaaGreatDoorW.PrintWords Go.Proofs.YtffbfkfbeggdnaaGreatDoorW.PrintLast Go.Proofs.YtffbfkfbeggdnaaGreatDoorW.PrintMore
attribute [local go_sem] max2_int min2_int max_two min_two max_three min_three max_four min_four
set_option linter.unusedVariables false
set_option linter.unusedSimpArgs false

mutual
def impl_CountBetween.j0 : Nat → ByteArray → ByteArray → ByteArray → Int → Bool → Option (Int × Bool)
 | 0,_,_,_,_,_ => none
 | k + 1,x0,x1,x2,x3,x29 => if x29 = true then (some (0,false)) else (if 0 < (x2.size : Int) then ((impl_digit.f (bt x2 0)).bind fun t105 => ((impl_only.f t105).bind fun t106 => ((impl_moves.f k x0).bind fun t109 => (impl_CountBetween.l0 k x1 t106 t109 x3 0)))) else (none))
def impl_CountBetween.l0 : Nat → ByteArray → List Int → List (List Int) → Int → Int → Option (Int × Bool)
 | 0,_,_,_,_,_ => none
 | k + 1,x1,x10,x11,x36,x37 => if x37 < x36 then ((impl_stepped.f k x11 x10).bind fun t112 => (impl_CountBetween.l0 k x1 t112 x11 x36 (wrap64 (x37 + 1)))) else (if 0 < (x1.size : Int) then ((impl_digit.f (bt x1 0)).bind fun t115 => (if 0 ≤ t115 then (if t115 < (x10.length : Int) then ((impl_few.f (rd x10 t115)).bind fun bt117 => (some (bt117.1,bt117.2))) else (none)) else (none))) else (none))
end
def impl_CountBetween.f (k : Nat) (a0 : ByteArray) (a1 : ByteArray) (a2 : ByteArray) (a3 : Int) : Option (Int × Bool) := (impl_isPiece.f a0).bind fun t101 => (if t101 = true then ((impl_isDigit.f a1).bind fun t102 => (if t102 = true then ((impl_isDigit.f a2).bind fun t103 => (if t103 = true then ((impl_in.f a3 0 39).bind fun t104 => (impl_CountBetween.j0 k a0 a1 a2 a3 (!t104))) else (impl_CountBetween.j0 k a0 a1 a2 a3 true))) else (impl_CountBetween.j0 k a0 a1 a2 a3 true))) else (impl_CountBetween.j0 k a0 a1 a2 a3 true))
set_option maxHeartbeats 8000000 in
set_option maxRecDepth 100000 in
theorem impl_CountBetween.calls (k : Nat) (a0 : ByteArray) (a1 : ByteArray) (a2 : ByteArray) (a3 : Int) (r1 : Int) (r2 : Bool) (w : World) (hml : ∃ m_ : Int,w.cell? ⟨0,0,none⟩ = some (.int .i64 m_)) (h : impl_CountBetween.f k a0 a1 a2 a3 = some (r1,r2)) :
  Calls Tryz.prog 23 #[.string a0,.string a1,.string a2,.int .i64 a3] w fun e w' => e = .returned (.tuple #[.int .i64 r1,.bool r2]) ∧ Below w.heap.size w w' := by
 obtain ⟨ml_,hml⟩ := hml; have HML := Aside0.mk hml; clear hml; have HB := Aside0.mk (Below.refl w.heap.size w); have H : ((impl_isPiece.f a0).bind fun t101 => (if t101 = true then ((impl_isDigit.f a1).bind fun t102 => (if t102 = true then ((impl_isDigit.f a2).bind fun t103 => (if t103 = true then ((impl_in.f a3 0 39).bind fun t104 => (impl_CountBetween.j0 k a0 a1 a2 a3 (!t104))) else (impl_CountBetween.j0 k a0 a1 a2 a3 true))) else (impl_CountBetween.j0 k a0 a1 a2 a3 true))) else (impl_CountBetween.j0 k a0 a1 a2 a3 true))) = some (r1,r2) := h; clear h; have HC5 := Aside0.mk H; clear H
 go_enter Tryz.func23,Tryz.ntmps23
 go_upto_region 1 with (fail)
 go_cut [29] (fun v29 wc => ∃ (kq : Nat) (x29_4 : Bool),v29 = .bool x29_4 ∧ Aside0 (impl_CountBetween.j0 kq a0 a1 a2 a3 x29_4 = some (r1,r2)) ∧ Aside0 (kq ≤ k) ∧ Aside0 (Below w.heap.size w wc))
 case first =>
  have H := HC5.out; clear HC5; replace H := Option.bind_eq_some_iff.mp H; obtain ⟨t101,A60,H⟩ := H; replace H : (if t101 = true then ((impl_isDigit.f a1).bind fun t102 => (if t102 = true then ((impl_isDigit.f a2).bind fun t103 => (if t103 = true then ((impl_in.f a3 0 39).bind fun t104 => (impl_CountBetween.j0 k a0 a1 a2 a3 (!t104))) else (impl_CountBetween.j0 k a0 a1 a2 a3 true))) else (impl_CountBetween.j0 k a0 a1 a2 a3 true))) else (impl_CountBetween.j0 k a0 a1 a2 a3 true)) = some (r1,r2) := H; have A6 := Aside0.mk A60; clear A60
  by_cases c7 : t101 = true
  ·
   subst c7; have H1 : ((impl_isDigit.f a1).bind fun t102 => (if t102 = true then ((impl_isDigit.f a2).bind fun t103 => (if t103 = true then ((impl_in.f a3 0 39).bind fun t104 => (impl_CountBetween.j0 k a0 a1 a2 a3 (!t104))) else (impl_CountBetween.j0 k a0 a1 a2 a3 true))) else (impl_CountBetween.j0 k a0 a1 a2 a3 true))) = some (r1,r2) := by rw [if_pos rfl] at H; exact H
   clear H; have H := H1; clear H1; replace H := Option.bind_eq_some_iff.mp H; obtain ⟨t102,A80,H⟩ := H; replace H : (if t102 = true then ((impl_isDigit.f a2).bind fun t103 => (if t103 = true then ((impl_in.f a3 0 39).bind fun t104 => (impl_CountBetween.j0 k a0 a1 a2 a3 (!t104))) else (impl_CountBetween.j0 k a0 a1 a2 a3 true))) else (impl_CountBetween.j0 k a0 a1 a2 a3 true)) = some (r1,r2) := H; have A8 := Aside0.mk A80; clear A80
   by_cases c9 : t102 = true
   ·
    subst c9; have H1 : ((impl_isDigit.f a2).bind fun t103 => (if t103 = true then ((impl_in.f a3 0 39).bind fun t104 => (impl_CountBetween.j0 k a0 a1 a2 a3 (!t104))) else (impl_CountBetween.j0 k a0 a1 a2 a3 true))) = some (r1,r2) := by rw [if_pos rfl] at H; exact H
    clear H; have H := H1; clear H1; replace H := Option.bind_eq_some_iff.mp H; obtain ⟨t103,A100,H⟩ := H; replace H : (if t103 = true then ((impl_in.f a3 0 39).bind fun t104 => (impl_CountBetween.j0 k a0 a1 a2 a3 (!t104))) else (impl_CountBetween.j0 k a0 a1 a2 a3 true)) = some (r1,r2) := H; have A10 := Aside0.mk A100; clear A100
    by_cases c11 : t103 = true
    ·
     subst c11; have H1 : ((impl_in.f a3 0 39).bind fun t104 => (impl_CountBetween.j0 k a0 a1 a2 a3 (!t104))) = some (r1,r2) := by rw [if_pos rfl] at H; exact H
     clear H; have H := H1; clear H1; replace H := Option.bind_eq_some_iff.mp H; obtain ⟨t104,A120,H⟩ := H; replace H : (impl_CountBetween.j0 k a0 a1 a2 a3 (!t104)) = some (r1,r2) := H; have A12 := Aside0.mk A120; clear A120; have H' := Aside0.mk H; clear H; go_wp2_with (first | ((with_reducible refine gate_callee (f := 33) rfl ?_); refine goesL_ (some 13) rfl rfl Tryz.func33 (by kernel_rfl) rfl #[.string a0] rfl zrr ?_; (with_reducible refine (impl_isPiece.calls a0 true _ zhm A6.out).mono ?_); rintro e w' ⟨rfl,⟨nd,rfl⟩⟩; refine ⟨_,rfl,?_⟩) | (go_at_call 34; (with_reducible refine (impl_isDigit.calls a1 true _ A8.out).mono ?_); rintro e w13 ⟨rfl,hb⟩; have n0_ := Aside0.mk (below_step zbw hb); clear HB; have HB := n0_; clear n0_; (try clear hb); (try clear hb2); (try clear hk); (try clear hi)) | (go_at_call 34; (with_reducible refine (impl_isDigit.calls a2 true _ A10.out).mono ?_); rintro e w14 ⟨rfl,hb⟩; have n0_ := Aside0.mk (below_step zbw hb); clear HB; have HB := n0_; clear n0_; (try clear hb); (try clear hb2); (try clear hk); (try clear hi)) | (go_at_call 48; (with_reducible refine (impl_in.calls a3 0 39 t104 _ A12.out).mono ?_); rintro e w' ⟨rfl,⟨nd,rfl⟩⟩))
     go_meet
     case rel => exact ⟨_,(!t104),zrs,H',⟨by first | omega | exact Nat.le_refl _⟩,⟨zbw⟩⟩
    ·
     replace c11 := Bool.eq_false_iff.mpr c11; subst c11; have H1 : (impl_CountBetween.j0 k a0 a1 a2 a3 true) = some (r1,r2) := by rw [if_neg (show ¬ (false = true) by decide)] at H; exact H
     clear H; have H := H1; clear H1; have H' := Aside0.mk H; clear H; go_wp2_with (first | ((with_reducible refine gate_callee (f := 33) rfl ?_); refine goesL_ (some 13) rfl rfl Tryz.func33 (by kernel_rfl) rfl #[.string a0] rfl zrr ?_; (with_reducible refine (impl_isPiece.calls a0 true _ zhm A6.out).mono ?_); rintro e w' ⟨rfl,⟨nd,rfl⟩⟩; refine ⟨_,rfl,?_⟩) | (go_at_call 34; (with_reducible refine (impl_isDigit.calls a1 true _ A8.out).mono ?_); rintro e w15 ⟨rfl,hb⟩; have n0_ := Aside0.mk (below_step zbw hb); clear HB; have HB := n0_; clear n0_; (try clear hb); (try clear hb2); (try clear hk); (try clear hi)) | (go_at_call 34; (with_reducible refine (impl_isDigit.calls a2 false _ A10.out).mono ?_); rintro e w16 ⟨rfl,hb⟩; have n0_ := Aside0.mk (below_step zbw hb); clear HB; have HB := n0_; clear n0_; (try clear hb); (try clear hb2); (try clear hk); (try clear hi)))
     go_meet
     case rel => exact ⟨_,(true),zrs,H',⟨by first | omega | exact Nat.le_refl _⟩,⟨zbw⟩⟩
   ·
    replace c9 := Bool.eq_false_iff.mpr c9; subst c9; have H1 : (impl_CountBetween.j0 k a0 a1 a2 a3 true) = some (r1,r2) := by rw [if_neg (show ¬ (false = true) by decide)] at H; exact H
    clear H; have H := H1; clear H1; have H' := Aside0.mk H; clear H; go_wp2_with (first | ((with_reducible refine gate_callee (f := 33) rfl ?_); refine goesL_ (some 13) rfl rfl Tryz.func33 (by kernel_rfl) rfl #[.string a0] rfl zrr ?_; (with_reducible refine (impl_isPiece.calls a0 true _ zhm A6.out).mono ?_); rintro e w' ⟨rfl,⟨nd,rfl⟩⟩; refine ⟨_,rfl,?_⟩) | (go_at_call 34; (with_reducible refine (impl_isDigit.calls a1 false _ A8.out).mono ?_); rintro e w17 ⟨rfl,hb⟩; have n0_ := Aside0.mk (below_step zbw hb); clear HB; have HB := n0_; clear n0_; (try clear hb); (try clear hb2); (try clear hk); (try clear hi)))
    go_meet
    case rel => exact ⟨_,(true),zrs,H',⟨by first | omega | exact Nat.le_refl _⟩,⟨zbw⟩⟩
  ·
   replace c7 := Bool.eq_false_iff.mpr c7; subst c7; have H1 : (impl_CountBetween.j0 k a0 a1 a2 a3 true) = some (r1,r2) := by rw [if_neg (show ¬ (false = true) by decide)] at H; exact H
   clear H; have H := H1; clear H1; have H' := Aside0.mk H; clear H; go_wp2_with (first | ((with_reducible refine gate_callee (f := 33) rfl ?_); refine goesL_ (some 13) rfl rfl Tryz.func33 (by kernel_rfl) rfl #[.string a0] rfl zrr ?_; (with_reducible refine (impl_isPiece.calls a0 false _ zhm A6.out).mono ?_); rintro e w' ⟨rfl,⟨nd,rfl⟩⟩; refine ⟨_,rfl,?_⟩))
   go_meet
   case rel => exact ⟨_,(true),zrs,H',⟨by first | omega | exact Nat.le_refl _⟩,⟨zbw⟩⟩
 case rest =>
  clear HC5; try clear c1
  try clear c2
  try clear p2
  try clear c3
  try clear c7
  try clear c9
  try clear c11
  obtain ⟨kq,x29_4,rfl,HA,HJ4,HB⟩ := hcut
  cases kq with
  | zero => exact absurd HA.out (by simp [impl_CountBetween.j0])
  | succ kj4 =>
   have H := HA.out; clear HA; simp only [impl_CountBetween.j0] at H
   by_cases c18 : x29_4 = true
   ·
    subst c18; have H1 : (some (0,false)) = some (r1,r2) := by rw [if_pos rfl] at H; exact H
    clear H; have H := H1; clear H1; simp only [Option.some.injEq,Prod.mk.injEq] at H; obtain ⟨rfl,rfl⟩ := H; go_wp2
    go_ret2
    exact ⟨zer,zbw⟩
   ·
    replace c18 := Bool.eq_false_iff.mpr c18; subst c18; have H1 : (if 0 < (a2.size : Int) then ((impl_digit.f (bt a2 0)).bind fun t105 => ((impl_only.f t105).bind fun t106 => ((impl_moves.f kj4 a0).bind fun t109 => (impl_CountBetween.l0 kj4 a1 t106 t109 a3 0)))) else (none)) = some (r1,r2) := by rw [if_neg (show ¬ (false = true) by decide)] at H; exact H
    clear H; have H := H1; clear H1
    by_cases c19 : 0 < (a2.size : Int)
    ·
     rw [if_pos c19] at H; have c19b0 : decide (0 < (a2.size : Int)) = true := decide_eq_true c19; have c19b1 : decide (0 < a2.size) = true := decide_eq_true (by omega); clear c19; replace H := Option.bind_eq_some_iff.mp H; obtain ⟨t105,A210,H⟩ := H; replace H : ((impl_only.f t105).bind fun t106 => ((impl_moves.f kj4 a0).bind fun t109 => (impl_CountBetween.l0 kj4 a1 t106 t109 a3 0))) = some (r1,r2) := H; have A21 := Aside0.mk A210; clear A210; replace H := Option.bind_eq_some_iff.mp H; obtain ⟨t106,A220,H⟩ := H; replace H : ((impl_moves.f kj4 a0).bind fun t109 => (impl_CountBetween.l0 kj4 a1 t106 t109 a3 0)) = some (r1,r2) := H; have A22 := Aside0.mk A220; clear A220; replace H := Option.bind_eq_some_iff.mp H; obtain ⟨t109,A230,H⟩ := H; replace H : (impl_CountBetween.l0 kj4 a1 t106 t109 a3 0) = some (r1,r2) := H; have A23 := Aside0.mk A230; clear A230; have H' := Aside0.mk H; clear H; have p20 : 0 ≤ (0 : Int) := (by omega); have q20 : 0 < a2.size := (by have : (0 : Int) < (a2.size : Int) := zdd; omega); have hx20 : ∀ h : 0 < a2.size,((a2[0]'h).toNat : Int) = bt a2 0 := bt_at a2 0; clear p20; have qi20 : (0 < (a2.size : Int)) = True := eq_true (zdd); replace q20 := eq_true q20; go_wp2_with (first | ((with_reducible refine gate_callee (f := 38) rfl ?_); refine goesL_ (some 32) rfl rfl Tryz.func38 (by kernel_rfl) rfl #[.int .u8 (bt a2 0)] rfl zrr ?_; (with_reducible refine (impl_digit.calls (bt a2 0) t105 _ A21.out).mono ?_); rintro e w' ⟨rfl,⟨nd,rfl⟩⟩; refine ⟨_,rfl,?_⟩) | ((with_reducible refine gate_callee (f := 54) rfl ?_); refine goesL_ (some 33) rfl rfl Tryz.func54 (by kernel_rfl) rfl #[.int .i64 t105] rfl zrr ?_; (with_reducible refine (impl_only.calls t105 t106 _ A22.out).mono ?_); rintro e w24 ⟨v107,rfl,ho0,hb⟩; refine ⟨_,rfl,?_⟩; have n0_ := Aside0.mk (Kd.R_lower ho0 (below_size zbw)); have n1_ := Aside0.mk (below_step zbw hb); clear HB; have HO108 := n0_; have HB := n1_; clear n0_ n1_; (try clear hb); (try clear hb2); (try clear hk); (try clear hi); (try clear ho0)) | ((with_reducible refine gate_callee (f := 55) rfl ?_); refine goesL_ (some 35) rfl rfl Tryz.func55 (by kernel_rfl) rfl #[.string a0] rfl zrr ?_; (with_reducible refine (impl_moves.calls kj4 a0 t109 _ A23.out).mono ?_); rintro e w25 ⟨v110,rfl,ho0,hb⟩; refine ⟨_,rfl,?_⟩; have n0_ := Aside0.mk (Kd.R_below (by (with_reducible repeat (first | apply Kd.R_alloc | apply Kd.R_drewN | apply Kd.R_drew)); exact HO108.out) hb); have n1_ := Aside0.mk (Kd.S_lower (Kd.S_new' ho0 (Kd.R_lt (by (with_reducible repeat (first | apply Kd.R_alloc | apply Kd.R_drewN | apply Kd.R_drew)); exact HO108.out))) (below_size zbw)); have n2_ := Aside0.mk (below_step zbw hb); clear HO108; clear HB; have HO108 := n0_; have HO111 := n1_; have HB := n2_; clear n0_ n1_ n2_; (try clear hb); (try clear hb2); (try clear hk); (try clear hi); (try clear ho0)))
     go_loopg [10,37] kj4 (fun kq v10 v37 w' => ∃ (x10_2 : List Int) (x37_2 : Int),v37 = .int .i64 x37_2 ∧ Aside0 (impl_CountBetween.l0 kq a1 x10_2 t109 a3 x37_2 = some (r1,r2)) ∧ Aside0 (kq ≤ kj4) ∧ Aside0 (Kd.R (Kd.int .i64) 3 w' w.heap.size (fun _ => True) v10 x10_2) ∧ Aside0 (Kd.S (Kd.slice 3 (Kd.int .i64)) 53 w' w.heap.size (fun k_ => some k_ ≠ (v10 : Value).ownBlock) v110 t109) ∧ Aside0 (Below w.heap.size w w'))
     case atStart => exact ⟨(t106),(0),zrs,H',⟨Nat.le_refl _⟩,⟨by (with_reducible repeat (first | apply Kd.R_alloc | apply Kd.R_drewN | apply Kd.R_drew)); exact HO108.out⟩,⟨by (with_reducible repeat (first | apply Kd.S_alloc | apply Kd.S_drewN | apply Kd.S_drew)); exact Kd.S_mono HO111.out (fun _ hk => hk.2)⟩,⟨zbw⟩⟩
     case round =>
      clear H'; try clear c1
      try clear c2
      try clear p2
      try clear q2
      try clear hx2
      try clear qi2
      try clear c3
      try clear c5
      try clear c7
      try clear c9
      try clear c11
      try clear c18
      try clear c19
      try clear c19b0
      try clear c19b1
      try clear p20
      try clear q20
      try clear hx20
      try clear qi20
      try clear c23
      try clear p2
      try clear p20
      try clear q20
      obtain ⟨x10_2,x37_2,rfl,HA,HK2,HO_10,HO_11,HB⟩ := hrel
      cases gk with
      | zero => exact absurd HA.out (by simp [impl_CountBetween.l0])
      | succ k2 =>
       have H := HA.out; clear HA; simp only [impl_CountBetween.l0] at H
       by_cases c26 : x37_2 < a3
       ·
        rw [if_pos c26] at H; have c26b0 : decide (x37_2 < a3) = true := decide_eq_true c26; clear c26; replace H := Option.bind_eq_some_iff.mp H; obtain ⟨t112,A270,H⟩ := H; replace H : (impl_CountBetween.l0 k2 a1 t112 t109 a3 (wrap64 (x37_2 + 1))) = some (r1,r2) := H; have A27 := Aside0.mk A270; clear A270; have H' := Aside0.mk H; clear H; obtain ⟨Ao28,co28,eo28⟩ := Kd.S_slice HO_11.out; subst eo28; obtain ⟨Ao29,co29,eo29⟩ := Kd.R_slice HO_10.out; subst eo29; go_wp2_with (first | ((with_reducible refine gate_callee (f := 56) rfl ?_); refine goesL_ (some 41) rfl rfl Tryz.func56 (by kernel_rfl) rfl #[.slice Ao28 t109.length co28,.slice Ao29 x10_2.length co29] rfl zrr ?_; (with_reducible refine (impl_stepped.calls k2 _ _ t109 _ _ x10_2 t112 _ ?side1 ?side2 ?side3 ?side4 A27.out).mono ?_); (case side1 => repeat (first | exact (Kd.S_reads' HO_11.out).2.2 | (with_reducible refine Kd.C_alloc ?_ _) | (with_reducible refine Kd.C_drewN ?_ _) | (with_reducible refine Kd.C_drew ?_))); (case side2 => exact (Kd.S_reads' HO_11.out).2.1); (case side3 => repeat (first | exact (Kd.R_reads' HO_10.out).2.2 | (with_reducible refine Kd.C_alloc ?_ _) | (with_reducible refine Kd.C_drewN ?_ _) | (with_reducible refine Kd.C_drew ?_))); (case side4 => exact (Kd.R_reads' HO_10.out).2.1); rintro e w30 ⟨v113,rfl,ho0,hb⟩; refine ⟨_,rfl,?_⟩; have n0_ := Aside0.mk (Kd.R_elder' (by (with_reducible repeat (first | apply Kd.R_alloc | apply Kd.R_drewN | apply Kd.R_drew)); exact HO_10.out) (Kd.R_base ho0) hb); have n1_ := Aside0.mk (Kd.S_elder' (by (with_reducible repeat (first | apply Kd.S_alloc | apply Kd.S_drewN | apply Kd.S_drew)); exact HO_11.out) (Kd.R_base ho0) hb); have n2_ := Aside0.mk (Kd.R_lower (Kd.R_new' ho0 (Kd.R_lt (by (with_reducible repeat (first | apply Kd.R_alloc | apply Kd.R_drewN | apply Kd.R_drew)); exact HO_10.out))) (below_size zbw)); have n3_ := Aside0.mk (below_step zbw hb); clear HO_10; clear HO_11; clear HB; have HO_10 := n0_; have HO_11 := n1_; have HO114 := n2_; have HB := n3_; clear n0_ n1_ n2_ n3_; (try clear hb); (try clear hb2); (try clear hk); (try clear hi); (try clear ho0)))
        go_roundg k2
        case measure => have := HJ4.out; have := HK2.out; omega
        case rel => exact ⟨(t112),(wrap64 (x37_2 + 1)),zrs,H',⟨by have := HJ4.out; have := HK2.out; omega⟩,⟨by (with_reducible repeat (first | apply Kd.R_alloc | apply Kd.R_drewN | apply Kd.R_drew)); exact Kd.R_mono HO114.out (fun _ hk => trivial)⟩,⟨by (with_reducible repeat (first | apply Kd.S_alloc | apply Kd.S_drewN | apply Kd.S_drew)); exact Kd.S_mono HO_11.out (fun _ hk => hk.2)⟩,⟨zbw⟩⟩
       ·
        rw [if_neg c26] at H; have c26b0 : decide (x37_2 < a3) = false := decide_eq_false c26; clear c26
        by_cases c31 : 0 < (a1.size : Int)
        ·
         rw [if_pos c31] at H; have c31b0 : decide (0 < (a1.size : Int)) = true := decide_eq_true c31; have c31b1 : decide (0 < a1.size) = true := decide_eq_true (by omega); clear c31; replace H := Option.bind_eq_some_iff.mp H; obtain ⟨t115,A330,H⟩ := H; replace H : (if 0 ≤ t115 then (if t115 < (x10_2.length : Int) then ((impl_few.f (rd x10_2 t115)).bind fun bt117 => (some (bt117.1,bt117.2))) else (none)) else (none)) = some (r1,r2) := H; have A33 := Aside0.mk A330; clear A330
         by_cases c34 : 0 ≤ t115
         ·
          rw [if_pos c34] at H; have c34b0 : decide (0 ≤ t115) = true := decide_eq_true c34; clear c34
          by_cases c35 : t115 < (x10_2.length : Int)
          ·
           rw [if_pos c35] at H; have c35b0 : decide (t115 < (x10_2.length : Int)) = true := decide_eq_true c35; clear c35; replace H := Option.bind_eq_some_iff.mp H; obtain ⟨⟨t117,t118⟩,A360,H⟩ := H; replace H : (some (t117,t118)) = some (r1,r2) := H; have A36 := Aside0.mk A360; clear A360; simp only [Option.some.injEq,Prod.mk.injEq] at H; obtain ⟨rfl,rfl⟩ := H; have p32 : 0 ≤ (0 : Int) := (by omega); have q32 : 0 < a1.size := (by have : (0 : Int) < (a1.size : Int) := zdd; omega); have hx32 : ∀ h : 0 < a1.size,((a1[0]'h).toNat : Int) = bt a1 0 := bt_at a1 0; clear p32; have qi32 : (0 < (a1.size : Int)) = True := eq_true (zdd); replace q32 := eq_true q32; go_wp2_with (first | ((with_reducible refine gate_callee (f := 38) rfl ?_); refine goesL_ (some 46) rfl rfl Tryz.func38 (by kernel_rfl) rfl #[.int .u8 (bt a1 0)] rfl zrr ?_; (with_reducible refine (impl_digit.calls (bt a1 0) t115 _ A33.out).mono ?_); rintro e w' ⟨rfl,⟨nd,rfl⟩⟩; refine ⟨_,rfl,?_⟩; obtain ⟨Ao37,co37,eo37⟩ := Kd.R_slice HO_10.out; subst eo37; have p116 : 0 ≤ (t115 : Int) := zdd; have q116 : t115 < (x10_2.length : Int) := zdd; obtain ⟨ad116,e116,hx116_0⟩ := Kd.at_int (Kd.R_reads' HO_10.out).2.2 t115 p116 q116; cases e116; replace p116 := eq_true p116; replace q116 := eq_true q116) | ((with_reducible refine gate_callee (f := 36) rfl ?_); refine goesL_ (some 49) rfl rfl Tryz.func36 (by kernel_rfl) rfl #[.int .i64 (rd x10_2 t115)] rfl zrr ?_; (with_reducible refine (impl_few.calls (rd x10_2 t115) t117 t118 _ A36.out).mono ?_); rintro e w' ⟨rfl,⟨nd,rfl⟩⟩; refine ⟨_,rfl,?_⟩))
           go_ret2
           exact ⟨zer,zbw⟩
          · rw [if_neg c35] at H; exact absurd H (by simp)
         · rw [if_neg c34] at H; exact absurd H (by simp)
        · rw [if_neg c31] at H; exact absurd H (by simp)
    · rw [if_neg c19] at H; exact absurd H (by simp)

end Go.Proofs.YtffbfkfbeggdnaaGreatDoor.P
-- printed by xprint.py
namespace Go.Proofs.YtffbfkfbeggdnaaGreatDoor.P
open Go.RowKit Go.Proofs.YtffbfkfbeggdnaaGreatDoorW.PrintWords Go.Proofs.YtffbfkfbeggdnaaGreatDoorW.PrintLast Go.Proofs.YtffbfkfbeggdnaaGreatDoorW.PrintMore
attribute [local go_sem] max2_int min2_int max_two min_two max_three min_three max_four min_four
set_option linter.unusedVariables false
set_option linter.unusedSimpArgs false

def impl_CountNumbers.j0 : Nat → ByteArray → ByteArray → Int → Bool → Option (Int × Bool)
 | 0,_,_,_,_ => none
 | k + 1,x0,x1,x2,x20 => if x20 = true then (some (0,false)) else ((impl_numbers.f k x0 x2).bind fun t104 => (if 0 < (x1.size : Int) then ((impl_digit.f (bt x1 0)).bind fun t107 => (if 0 ≤ t107 then (if t107 < (t104.length : Int) then ((impl_few.f (rd t104 t107)).bind fun bt109 => (some (bt109.1,bt109.2))) else (none)) else (none))) else (none)))
def impl_CountNumbers.f (k : Nat) (a0 : ByteArray) (a1 : ByteArray) (a2 : Int) : Option (Int × Bool) := (impl_isPiece.f a0).bind fun t101 => (if t101 = true then ((impl_isDigit.f a1).bind fun t102 => (if t102 = true then ((impl_longOk.f a2).bind fun t103 => (impl_CountNumbers.j0 k a0 a1 a2 (!t103))) else (impl_CountNumbers.j0 k a0 a1 a2 true))) else (impl_CountNumbers.j0 k a0 a1 a2 true))
def impl_CountNumbers.T3 : Bool × List (List Nat × List Nat) := (true,[([],[]),([],[]),([0,1],[0,1]),([],[]),([3],[3]),([4,2],[4]),([2,5],[2,5]),([6],[6]),([7,5],[7]),([8],[8]),([8],[8]),([9,8,0,1,2,3,4,5,6,7,8,9,10],[9]),([10,11,0,1,2,3,4,5,6,7,8,9,10,11],[10])])
def impl_CountNumbers.B3 : List Nat := [0,0,3,0,8,31,63,127,255,511,511,2047,4095]
theorem impl_CountNumbers.tab3 : rtab .any (opsOf Tryz.f6 3) = impl_CountNumbers.T3 := by kernel_rfl
theorem impl_CountNumbers.bits3 : waitsOk impl_CountNumbers.T3.2 impl_CountNumbers.B3 = true := by kernel_rfl
set_option maxHeartbeats 8000000 in
set_option maxRecDepth 100000 in
theorem impl_CountNumbers.calls (k : Nat) (a0 : ByteArray) (a1 : ByteArray) (a2 : Int) (r1 : Int) (r2 : Bool) (w : World) (hml : ∃ m_ : Int,w.cell? ⟨0,0,none⟩ = some (.int .i64 m_)) (h : impl_CountNumbers.f k a0 a1 a2 = some (r1,r2)) :
  Calls Tryz.prog 6 #[.string a0,.string a1,.int .i64 a2] w fun e w' => e = .returned (.tuple #[.int .i64 r1,.bool r2]) ∧ Below w.heap.size w w' := by
 obtain ⟨ml_,hml⟩ := hml; have HML := Aside0.mk hml; clear hml; have HB := Aside0.mk (Below.refl w.heap.size w); have H : ((impl_isPiece.f a0).bind fun t101 => (if t101 = true then ((impl_isDigit.f a1).bind fun t102 => (if t102 = true then ((impl_longOk.f a2).bind fun t103 => (impl_CountNumbers.j0 k a0 a1 a2 (!t103))) else (impl_CountNumbers.j0 k a0 a1 a2 true))) else (impl_CountNumbers.j0 k a0 a1 a2 true))) = some (r1,r2) := h; clear h; have HC4 := Aside0.mk H; clear H
 go_enter Tryz.func6,Tryz.ntmps6
 go_upto_region 1 with (fail)
 go_cut [20] (fun v20 wc => ∃ (kq : Nat) (x20_3 : Bool),v20 = .bool x20_3 ∧ Aside0 (impl_CountNumbers.j0 kq a0 a1 a2 x20_3 = some (r1,r2)) ∧ Aside0 (kq ≤ k) ∧ Aside0 (Below w.heap.size w wc))
 case first =>
  have H := HC4.out; clear HC4; replace H := Option.bind_eq_some_iff.mp H; obtain ⟨t101,A50,H⟩ := H; replace H : (if t101 = true then ((impl_isDigit.f a1).bind fun t102 => (if t102 = true then ((impl_longOk.f a2).bind fun t103 => (impl_CountNumbers.j0 k a0 a1 a2 (!t103))) else (impl_CountNumbers.j0 k a0 a1 a2 true))) else (impl_CountNumbers.j0 k a0 a1 a2 true)) = some (r1,r2) := H; have A5 := Aside0.mk A50; clear A50
  by_cases c6 : t101 = true
  ·
   subst c6; have H1 : ((impl_isDigit.f a1).bind fun t102 => (if t102 = true then ((impl_longOk.f a2).bind fun t103 => (impl_CountNumbers.j0 k a0 a1 a2 (!t103))) else (impl_CountNumbers.j0 k a0 a1 a2 true))) = some (r1,r2) := by rw [if_pos rfl] at H; exact H
   clear H; have H := H1; clear H1; replace H := Option.bind_eq_some_iff.mp H; obtain ⟨t102,A70,H⟩ := H; replace H : (if t102 = true then ((impl_longOk.f a2).bind fun t103 => (impl_CountNumbers.j0 k a0 a1 a2 (!t103))) else (impl_CountNumbers.j0 k a0 a1 a2 true)) = some (r1,r2) := H; have A7 := Aside0.mk A70; clear A70
   by_cases c8 : t102 = true
   ·
    subst c8; have H1 : ((impl_longOk.f a2).bind fun t103 => (impl_CountNumbers.j0 k a0 a1 a2 (!t103))) = some (r1,r2) := by rw [if_pos rfl] at H; exact H
    clear H; have H := H1; clear H1; replace H := Option.bind_eq_some_iff.mp H; obtain ⟨t103,A90,H⟩ := H; replace H : (impl_CountNumbers.j0 k a0 a1 a2 (!t103)) = some (r1,r2) := H; have A9 := Aside0.mk A90; clear A90; have H' := Aside0.mk H; clear H; go_wp2_with (first | ((with_reducible refine gate_callee (f := 33) rfl ?_); refine goesL_ (some 9) rfl rfl Tryz.func33 (by kernel_rfl) rfl #[.string a0] rfl zrr ?_; (with_reducible refine (impl_isPiece.calls a0 true _ zhm A5.out).mono ?_); rintro e w' ⟨rfl,⟨nd,rfl⟩⟩; refine ⟨_,rfl,?_⟩) | (go_at_call 34; (with_reducible refine (impl_isDigit.calls a1 true _ A7.out).mono ?_); rintro e w10 ⟨rfl,hb⟩; have n0_ := Aside0.mk (below_step zbw hb); clear HB; have HB := n0_; clear n0_; (try clear hb); (try clear hb2); (try clear hk); (try clear hi)) | (go_at_call 35; (with_reducible refine (impl_longOk.calls a2 t103 _ A9.out).mono ?_); rintro e w' ⟨rfl,⟨nd,rfl⟩⟩))
    go_meet
    case rel => exact ⟨_,(!t103),zrs,H',⟨by first | omega | exact Nat.le_refl _⟩,⟨zbw⟩⟩
   ·
    replace c8 := Bool.eq_false_iff.mpr c8; subst c8; have H1 : (impl_CountNumbers.j0 k a0 a1 a2 true) = some (r1,r2) := by rw [if_neg (show ¬ (false = true) by decide)] at H; exact H
    clear H; have H := H1; clear H1; have H' := Aside0.mk H; clear H; go_wp2_with (first | ((with_reducible refine gate_callee (f := 33) rfl ?_); refine goesL_ (some 9) rfl rfl Tryz.func33 (by kernel_rfl) rfl #[.string a0] rfl zrr ?_; (with_reducible refine (impl_isPiece.calls a0 true _ zhm A5.out).mono ?_); rintro e w' ⟨rfl,⟨nd,rfl⟩⟩; refine ⟨_,rfl,?_⟩) | (go_at_call 34; (with_reducible refine (impl_isDigit.calls a1 false _ A7.out).mono ?_); rintro e w11 ⟨rfl,hb⟩; have n0_ := Aside0.mk (below_step zbw hb); clear HB; have HB := n0_; clear n0_; (try clear hb); (try clear hb2); (try clear hk); (try clear hi)))
    go_meet
    case rel => exact ⟨_,(true),zrs,H',⟨by first | omega | exact Nat.le_refl _⟩,⟨zbw⟩⟩
  ·
   replace c6 := Bool.eq_false_iff.mpr c6; subst c6; have H1 : (impl_CountNumbers.j0 k a0 a1 a2 true) = some (r1,r2) := by rw [if_neg (show ¬ (false = true) by decide)] at H; exact H
   clear H; have H := H1; clear H1; have H' := Aside0.mk H; clear H; go_wp2_with (first | ((with_reducible refine gate_callee (f := 33) rfl ?_); refine goesL_ (some 9) rfl rfl Tryz.func33 (by kernel_rfl) rfl #[.string a0] rfl zrr ?_; (with_reducible refine (impl_isPiece.calls a0 false _ zhm A5.out).mono ?_); rintro e w' ⟨rfl,⟨nd,rfl⟩⟩; refine ⟨_,rfl,?_⟩))
   go_meet
   case rel => exact ⟨_,(true),zrs,H',⟨by first | omega | exact Nat.le_refl _⟩,⟨zbw⟩⟩
 case rest =>
  clear HC4; try clear p2
  try clear c3
  try clear c6
  try clear c8
  obtain ⟨kq,x20_3,rfl,HA,HJ3,HB⟩ := hcut
  cases kq with
  | zero => exact absurd HA.out (by simp [impl_CountNumbers.j0])
  | succ kj3 =>
   have H := HA.out; clear HA; simp only [impl_CountNumbers.j0] at H
   by_cases c12 : x20_3 = true
   ·
    subst c12; have H1 : (some (0,false)) = some (r1,r2) := by rw [if_pos rfl] at H; exact H
    clear H; have H := H1; clear H1; simp only [Option.some.injEq,Prod.mk.injEq] at H; obtain ⟨rfl,rfl⟩ := H; go_wp2
    go_ret2
    exact ⟨zer,zbw⟩
   ·
    replace c12 := Bool.eq_false_iff.mpr c12; subst c12; have H1 : ((impl_numbers.f kj3 a0 a2).bind fun t104 => (if 0 < (a1.size : Int) then ((impl_digit.f (bt a1 0)).bind fun t107 => (if 0 ≤ t107 then (if t107 < (t104.length : Int) then ((impl_few.f (rd t104 t107)).bind fun bt109 => (some (bt109.1,bt109.2))) else (none)) else (none))) else (none))) = some (r1,r2) := by rw [if_neg (show ¬ (false = true) by decide)] at H; exact H
    clear H; have H := H1; clear H1; replace H := Option.bind_eq_some_iff.mp H; obtain ⟨t104,A130,H⟩ := H; replace H : (if 0 < (a1.size : Int) then ((impl_digit.f (bt a1 0)).bind fun t107 => (if 0 ≤ t107 then (if t107 < (t104.length : Int) then ((impl_few.f (rd t104 t107)).bind fun bt109 => (some (bt109.1,bt109.2))) else (none)) else (none))) else (none)) = some (r1,r2) := H; have A13 := Aside0.mk A130; clear A130
    by_cases c14 : 0 < (a1.size : Int)
    ·
     rw [if_pos c14] at H; have c14b0 : decide (0 < (a1.size : Int)) = true := decide_eq_true c14; have c14b1 : decide (0 < a1.size) = true := decide_eq_true (by omega); clear c14; replace H := Option.bind_eq_some_iff.mp H; obtain ⟨t107,A160,H⟩ := H; replace H : (if 0 ≤ t107 then (if t107 < (t104.length : Int) then ((impl_few.f (rd t104 t107)).bind fun bt109 => (some (bt109.1,bt109.2))) else (none)) else (none)) = some (r1,r2) := H; have A16 := Aside0.mk A160; clear A160
     by_cases c17 : 0 ≤ t107
     ·
      rw [if_pos c17] at H; have c17b0 : decide (0 ≤ t107) = true := decide_eq_true c17; clear c17
      by_cases c18 : t107 < (t104.length : Int)
      ·
       rw [if_pos c18] at H; have c18b0 : decide (t107 < (t104.length : Int)) = true := decide_eq_true c18; clear c18; replace H := Option.bind_eq_some_iff.mp H; obtain ⟨⟨t109,t110⟩,A190,H⟩ := H; replace H : (some (t109,t110)) = some (r1,r2) := H; have A19 := Aside0.mk A190; clear A190; simp only [Option.some.injEq,Prod.mk.injEq] at H; obtain ⟨rfl,rfl⟩ := H; try go_wp2
       have n0_ := Aside0.mk (below_drew1 HB.out); clear HB; have HB := n0_; clear n0_; have p15 : 0 ≤ (0 : Int) := (by omega); have q15 : 0 < a1.size := (by have : (0 : Int) < (a1.size : Int) := zdd; omega); have hx15 : ∀ h : 0 < a1.size,((a1[0]'h).toNat : Int) = bt a1 0 := bt_at a1 0; clear p15; have qi15 : (0 < (a1.size : Int)) = True := eq_true (zdd); replace q15 := eq_true q15; refine start_ (n := 13) (S := fun _ => True) (ds := []) #[false,false,false,false,false,false,false,false,false,false,false,false,false] (by kernel_rfl) rfl rfl trivial (fun hHeld => ?_); refine with_tabW impl_CountNumbers.tab3 impl_CountNumbers.bits3 (fun HT_ HW_ => ?_)
       generalize wc.drew = w20 at HB hHeld ⊢; refine pure_ (i := 0) (N := some 21) (v := ?_) (a' := ?_) #[true,false,false,false,false,false,false,false,false,false,false,false,false] rfl rfl (any_of HT_.out (by kernel_rfl)) (fun _ _ _ h => h) (Or.inl ⟨by rfl,?_⟩) ?_ ?_; rotate_left
       · intro w'; go_simp; with_reducible rfl
       rotate_left
       · simp only [Act.put,List.setIfInBounds_toArray,List.set_cons_zero,List.set_cons_succ,i64_w,i32_w]; rfl
       refine pure_ (i := 1) (N := some 22) (v := ?_) (a' := ?_) #[true,true,false,false,false,false,false,false,false,false,false,false,false] rfl rfl (any_of HT_.out (by kernel_rfl)) (fun _ _ _ h => h) (Or.inl ⟨by rfl,?_⟩) ?_ ?_; rotate_left
       · intro w'; go_simp; with_reducible rfl
       rotate_left
       · simp only [Act.put,List.setIfInBounds_toArray,List.set_cons_zero,List.set_cons_succ,i64_w,i32_w]; rfl
       refine pure_ (i := 3) (N := some 24) (v := ?_) (a' := ?_) #[true,true,false,true,false,false,false,false,false,false,false,false,false] rfl rfl (any_of HT_.out (by kernel_rfl)) (fun _ _ _ h => h) (Or.inl ⟨by rfl,?_⟩) ?_ ?_; rotate_left
       · intro w'; go_simp; with_reducible rfl
       rotate_left
       · simp only [Act.put,List.setIfInBounds_toArray,List.set_cons_zero,List.set_cons_succ,i64_w,i32_w]; rfl
       refine take_ (i := 4) (N := some 25) (v := ?_) (a' := ?_) #[true,true,false,true,true,false,false,false,false,false,false,false,false] rfl rfl (take_ofW HT_.out HW_.out (by kernel_rfl)) (fun _ _ _ h => h) (Or.inl ⟨by rfl,?_⟩) hHeld ?_ ?_; rotate_left
       · intro w' s0; go_simp; with_reducible rfl
       rotate_left
       · simp only [Act.put,List.setIfInBounds_toArray,List.set_cons_zero,List.set_cons_succ,i64_w,i32_w]; rfl
       refine one_ (i := 2) (N := some 23) #[true,true,true,true,true,false,false,false,false,false,false,false,false] rfl rfl (one_of HT_.out (by kernel_rfl)) (by decide) (fun K hK => ?_); refine goes_ Tryz.func37 (by kernel_rfl) rfl #[.string a0,.int .i64 a2] (by rfl) rfl rfl zrr ?_; with_reducible refine (impl_numbers.calls kj3 a0 a2 t104 _ A13.out).mono ?_
       rintro e w21 ⟨v105,rfl,ho0,hb⟩; refine ⟨_,rfl,?_⟩; have n0_ := Aside0.mk (Kd.R_lower ho0 (below_size zbw)); have n1_ := Aside0.mk (below_step zbw hb); clear HB; have HO106 := n0_; have HB := n1_; clear n0_ n1_
       (try clear hb)
       (try clear hb2)
       (try clear hk)
       (try clear hi)
       (try clear ho0)
       refine hK.out _ _ trivial (fun hHeld => ?_); clear hK K; refine norm_ (a' := ?_) ?_ ?_; rotate_left
       ·
        show Act.put _ (some 23) _ = _
        simp only [Act.put,List.setIfInBounds_toArray,List.set_cons_zero,List.set_cons_succ,i64_w,i32_w]; rfl
       refine one_ (i := 5) (N := some 26) #[true,true,true,true,true,true,false,false,false,false,false,false,false] rfl rfl (one_of HT_.out (by kernel_rfl)) (by decide) (fun K hK => ?_); refine goes_ Tryz.func38 (by kernel_rfl) rfl #[.int .u8 (bt a1 0)] (by rfl) rfl rfl zrr ?_; with_reducible refine (impl_digit.calls (bt a1 0) t107 _ A16.out).mono ?_
       rintro e w' ⟨rfl,⟨nd,rfl⟩⟩; refine ⟨_,rfl,?_⟩; obtain ⟨Ao22,co22,eo22⟩ := Kd.R_slice HO106.out
       (first | subst eo22 | (injection eo22 with f1_ f2_ f3_; have f4_ := f1_.symm; have f5_ := f3_.symm; clear f1_ f2_ f3_; subst f4_; subst f5_))
       have p108 : 0 ≤ (t107 : Int) := zdd; have q108 : t107 < (t104.length : Int) := zdd; obtain ⟨ad108,e108,hx108_0⟩ := Kd.at_int (Kd.R_reads' HO106.out).2.2 t107 p108 q108
       cases e108
       replace p108 := eq_true p108; replace q108 := eq_true q108; refine hK.out _ _ (hHeld) (fun hHeld => ?_); clear hK K; refine norm_ (a' := ?_) ?_ ?_; rotate_left
       ·
        show Act.put _ (some 26) _ = _
        simp only [Act.put,List.setIfInBounds_toArray,List.set_cons_zero,List.set_cons_succ,i64_w,i32_w]; rfl
       refine pure_ (i := 6) (N := some 27) (v := ?_) (a' := ?_) #[true,true,true,true,true,true,true,false,false,false,false,false,false] rfl rfl (any_of HT_.out (by kernel_rfl)) (fun _ _ _ h => h) (Or.inl ⟨by rfl,?_⟩) ?_ ?_; rotate_left
       · intro w'; go_simp; with_reducible rfl
       rotate_left
       · simp only [Act.put,List.setIfInBounds_toArray,List.set_cons_zero,List.set_cons_succ,i64_w,i32_w]; rfl
       refine one_ (i := 7) (N := some 28) #[true,true,true,true,true,true,true,true,false,false,false,false,false] rfl rfl (one_of HT_.out (by kernel_rfl)) (by decide) (fun K hK => ?_); refine value_ (v := .int .i64 (rd t104 t107)) (w1 := ?_) (by rfl) rfl ?_ ?_; rotate_left
       · go_simp; rfl
       refine hK.out _ _ trivial (fun hHeld => ?_); clear hK K; refine norm_ (a' := ?_) ?_ ?_; rotate_left
       ·
        show Act.put _ (some 28) _ = _
        simp only [Act.put,List.setIfInBounds_toArray,List.set_cons_zero,List.set_cons_succ,i64_w,i32_w]; rfl
       refine one_ (i := 8) (N := some 29) #[true,true,true,true,true,true,true,true,true,false,false,false,false] rfl rfl (one_of HT_.out (by kernel_rfl)) (by decide) (fun K hK => ?_); refine goes_ Tryz.func36 (by kernel_rfl) rfl #[.int .i64 (rd t104 t107)] (by rfl) rfl rfl zrr ?_; with_reducible refine (impl_few.calls (rd t104 t107) t109 t110 _ A19.out).mono ?_
       rintro e w' ⟨rfl,⟨nd,rfl⟩⟩; refine ⟨_,rfl,?_⟩; refine hK.out _ _ (hHeld) (fun hHeld => ?_); clear hK K; refine norm_ (a' := ?_) ?_ ?_; rotate_left
       ·
        show Act.put _ (some 29) _ = _
        simp only [Act.put,List.setIfInBounds_toArray,List.set_cons_zero,List.set_cons_succ,i64_w,i32_w]; rfl
       refine pure_ (i := 9) (N := some 30) (v := ?_) (a' := ?_) #[true,true,true,true,true,true,true,true,true,true,false,false,false] rfl rfl (any_of HT_.out (by kernel_rfl)) (fun _ _ _ h => h) (Or.inl ⟨by rfl,?_⟩) ?_ ?_; rotate_left
       · intro w'; go_simp; with_reducible rfl
       rotate_left
       · simp only [Act.put,List.setIfInBounds_toArray,List.set_cons_zero,List.set_cons_succ,i64_w,i32_w]; rfl
       refine pure_ (i := 10) (N := some 31) (v := ?_) (a' := ?_) #[true,true,true,true,true,true,true,true,true,true,true,false,false] rfl rfl (any_of HT_.out (by kernel_rfl)) (fun _ _ _ h => h) (Or.inl ⟨by rfl,?_⟩) ?_ ?_; rotate_left
       · intro w'; go_simp; with_reducible rfl
       rotate_left
       · simp only [Act.put,List.setIfInBounds_toArray,List.set_cons_zero,List.set_cons_succ,i64_w,i32_w]; rfl
       refine pure_ (i := 11) (N := some 6) (v := ?_) (a' := ?_) #[true,true,true,true,true,true,true,true,true,true,true,true,false] rfl rfl (any_of HT_.out (by kernel_rfl)) (fun _ _ _ h => h) (Or.inl ⟨by rfl,?_⟩) ?_ ?_; rotate_left
       · intro w'; go_simp; with_reducible rfl
       rotate_left
       · simp only [Act.put,List.setIfInBounds_toArray,List.set_cons_zero,List.set_cons_succ,i64_w,i32_w]; rfl
       refine pure_ (i := 12) (N := some 7) (v := ?_) (a' := ?_) #[true,true,true,true,true,true,true,true,true,true,true,true,true] rfl rfl (any_of HT_.out (by kernel_rfl)) (fun _ _ _ h => h) (Or.inl ⟨by rfl,?_⟩) ?_ ?_; rotate_left
       · intro w'; go_simp; with_reducible rfl
       rotate_left
       · simp only [Act.put,List.setIfInBounds_toArray,List.set_cons_zero,List.set_cons_succ,i64_w,i32_w]; rfl
       refine done_ (done_of HT_.out (by kernel_rfl)) ?_; try go_wp2
       go_ret2
       exact ⟨zer,zbw⟩
      · rw [if_neg c18] at H; exact absurd H (by simp)
     · rw [if_neg c17] at H; exact absurd H (by simp)
    · rw [if_neg c14] at H; exact absurd H (by simp)

end Go.Proofs.YtffbfkfbeggdnaaGreatDoor.P
-- printed by xprint.py
namespace Go.Proofs.YtffbfkfbeggdnaaGreatDoor.P
open Go.RowKit Go.Proofs.YtffbfkfbeggdnaaGreatDoorW.PrintWords Go.Proofs.YtffbfkfbeggdnaaGreatDoorW.PrintLast Go.Proofs.YtffbfkfbeggdnaaGreatDoorW.PrintMore
attribute [local go_sem] max2_int min2_int max_two min_two max_three min_three max_four min_four
set_option linter.unusedVariables false
set_option linter.unusedSimpArgs false

def impl_CountRounds.f (k : Nat) (a0 : ByteArray) (a1 : ByteArray) (a2 : Int) : Option (Int × Bool) := (impl_CountBetween.f k a0 a1 a1 a2).bind fun bt101 => (some (bt101.1,bt101.2))
set_option maxHeartbeats 8000000 in
set_option maxRecDepth 100000 in
theorem impl_CountRounds.calls (k : Nat) (a0 : ByteArray) (a1 : ByteArray) (a2 : Int) (r1 : Int) (r2 : Bool) (w : World) (hml : ∃ m_ : Int,w.cell? ⟨0,0,none⟩ = some (.int .i64 m_)) (h : impl_CountRounds.f k a0 a1 a2 = some (r1,r2)) :
  Calls Tryz.prog 28 #[.string a0,.string a1,.int .i64 a2] w fun e w' => e = .returned (.tuple #[.int .i64 r1,.bool r2]) ∧ Below w.heap.size w w' := by
 obtain ⟨ml_,hml⟩ := hml; have HML := Aside0.mk hml; clear hml; have HB := Aside0.mk (Below.refl w.heap.size w); have H : ((impl_CountBetween.f k a0 a1 a1 a2).bind fun bt101 => (some (bt101.1,bt101.2))) = some (r1,r2) := h; clear h; replace H := Option.bind_eq_some_iff.mp H; obtain ⟨⟨t101,t102⟩,A40,H⟩ := H; replace H : (some (t101,t102)) = some (r1,r2) := H; have A4 := Aside0.mk A40; clear A40; simp only [Option.some.injEq,Prod.mk.injEq] at H; obtain ⟨rfl,rfl⟩ := H
 go_enter Tryz.func28,Tryz.ntmps28
 go_wp2_with (first | ((with_reducible refine gate_callee (f := 23) rfl ?_); refine goesL_ (some 12) rfl rfl Tryz.func23 (by kernel_rfl) rfl #[.string a0,.string a1,.string a1,.int .i64 a2] rfl zrr ?_; (with_reducible refine (impl_CountBetween.calls k a0 a1 a1 a2 t101 t102 _ zhm A4.out).mono ?_); rintro e w5 ⟨rfl,hb⟩; refine ⟨_,rfl,?_⟩; have n0_ := Aside0.mk (below_step zbw hb); clear HB; have HB := n0_; clear n0_; (try clear hb); (try clear hb2); (try clear hk); (try clear hi)))
 go_ret2
 exact ⟨zer,zbw⟩

end Go.Proofs.YtffbfkfbeggdnaaGreatDoor.P
-- printed by xprint.py
namespace Go.Proofs.YtffbfkfbeggdnaaGreatDoor.P
open Go.RowKit Go.Proofs.YtffbfkfbeggdnaaGreatDoorW.PrintWords Go.Proofs.YtffbfkfbeggdnaaGreatDoorW.PrintLast Go.Proofs.YtffbfkfbeggdnaaGreatDoorW.PrintMore
attribute [local go_sem] max2_int min2_int max_two min_two max_three min_three max_four min_four
set_option linter.unusedVariables false
set_option linter.unusedSimpArgs false

def slices_Contains_int_int.f (k : Nat) (l0 : List Int) (a1 : Int) : Option (Bool) := (slices_Index_int_int.f k l0 a1).bind fun t101 => (some (decide (t101 ≥ 0)))
set_option maxHeartbeats 8000000 in
set_option maxRecDepth 100000 in
theorem slices_Contains_int_int.calls (k : Nat) (A0 : Option Addr) (c0 : Nat) (l0 : List Int) (a1 : Int) (r : Bool) (w : World) (hr0 : Kd.C (Kd.int .i64) w A0 l0.length l0) (hc0 : l0.length ≤ c0) (h : slices_Contains_int_int.f k l0 a1 = some r) :
  Calls Tryz.prog 72 #[.slice A0 l0.length c0,.int .i64 a1] w fun e w' => e = .returned (.bool r) ∧ Drawn0 w w' := by
 have HR0 := Aside0.mk hr0; have HC0 := Aside0.mk hc0; clear hr0 hc0; have H : ((slices_Index_int_int.f k l0 a1).bind fun t101 => (some (decide (t101 ≥ 0)))) = some r := h; clear h; replace H := Option.bind_eq_some_iff.mp H; obtain ⟨t101,A30,H⟩ := H; replace H : (some (decide (t101 ≥ 0))) = some r := H; have A3 := Aside0.mk A30; clear A30; obtain rfl := Option.some.inj H
 go_enter Tryz.func72,Tryz.ntmps72
 go_wp2_with (first | ((with_reducible refine gate_callee (f := 50) rfl ?_); refine goesL_ (some 7) rfl rfl Tryz.func50 (by kernel_rfl) rfl #[.slice A0 l0.length c0,.int .i64 a1] rfl zrr ?_; (with_reducible refine (slices_Index_int_int.calls k _ _ l0 a1 t101 _ ?side1 ?side2 A3.out).mono ?_); (case side1 => repeat (first | exact HR0.out | (with_reducible refine Kd.C_alloc ?_ _) | (with_reducible refine Kd.C_drewN ?_ _) | (with_reducible refine Kd.C_drew ?_))); (case side2 => exact HC0.out); rintro e w' ⟨rfl,⟨nd,rfl⟩⟩; refine ⟨_,rfl,?_⟩))
 go_ret
 exact ⟨by first | rfl | (simp; done) | (simp [*]; done),by repeat (first | exact Drawn0.refl _ | apply Drawn0.step)⟩

end Go.Proofs.YtffbfkfbeggdnaaGreatDoor.P
-- printed by xprint.py
namespace Go.Proofs.YtffbfkfbeggdnaaGreatDoor.P
open Go.RowKit Go.Proofs.YtffbfkfbeggdnaaGreatDoorW.PrintWords Go.Proofs.YtffbfkfbeggdnaaGreatDoorW.PrintLast Go.Proofs.YtffbfkfbeggdnaaGreatDoorW.PrintMore
attribute [local go_sem] max2_int min2_int max_two min_two max_three min_three max_four min_four
set_option linter.unusedVariables false
set_option linter.unusedSimpArgs false

def impl_isWalk.l0 : Nat → ByteArray → List (List Int) → Int → Option (Bool)
 | 0,_,_,_ => none
 | k + 1,x1,x5,x6 => if x6 < (x1.size : Int) then (if 0 ≤ (wrap64 (x6 - 1)) then (if (wrap64 (x6 - 1)) < (x1.size : Int) then ((impl_digit.f (bt x1 (wrap64 (x6 - 1)))).bind fun t105 => (if 0 ≤ t105 then (if t105 < (x5.length : Int) then (if 0 ≤ x6 then ((impl_digit.f (bt x1 x6)).bind fun t107 => ((slices_Contains_int_int.f k (rd_L5 x5 t105) t107).bind fun t108 => (if t108 = true then (impl_isWalk.l0 k x1 x5 (wrap64 (x6 + 1))) else (some false)))) else (none)) else (none)) else (none))) else (none)) else (none)) else (some true)
def impl_isWalk.f (k : Nat) (a0 : ByteArray) (a1 : ByteArray) : Option (Bool) := (impl_isDigits.f a1 1 40).bind fun t101 => (if t101 = true then ((impl_moves.f k a0).bind fun t102 => (impl_isWalk.l0 k a1 t102 1)) else (some false))
set_option maxHeartbeats 8000000 in
set_option maxRecDepth 100000 in
theorem impl_isWalk.calls (k : Nat) (a0 : ByteArray) (a1 : ByteArray) (r : Bool) (w : World) (h : impl_isWalk.f k a0 a1 = some r) :
  Calls Tryz.prog 52 #[.string a0,.string a1] w fun e w' => e = .returned (.bool r) ∧ Below w.heap.size w w' := by
 have HB := Aside0.mk (Below.refl w.heap.size w); have H : ((impl_isDigits.f a1 1 40).bind fun t101 => (if t101 = true then ((impl_moves.f k a0).bind fun t102 => (impl_isWalk.l0 k a1 t102 1)) else (some false))) = some r := h; clear h; replace H := Option.bind_eq_some_iff.mp H; obtain ⟨t101,A30,H⟩ := H; replace H : (if t101 = true then ((impl_moves.f k a0).bind fun t102 => (impl_isWalk.l0 k a1 t102 1)) else (some false)) = some r := H; have A3 := Aside0.mk A30; clear A30
 by_cases c4 : t101 = true
 ·
  subst c4; have H1 : ((impl_moves.f k a0).bind fun t102 => (impl_isWalk.l0 k a1 t102 1)) = some r := by rw [if_pos rfl] at H; exact H
  clear H; have H := H1; clear H1; replace H := Option.bind_eq_some_iff.mp H; obtain ⟨t102,A50,H⟩ := H; replace H : (impl_isWalk.l0 k a1 t102 1) = some r := H; have A5 := Aside0.mk A50; clear A50; have H' := Aside0.mk H; clear H
  go_enter Tryz.func52,Tryz.ntmps52
  go_wp2_with (first | (go_at_call 63; (with_reducible refine (impl_isDigits.calls a1 1 40 true _ A3.out).mono ?_); rintro e w6 ⟨rfl,hb⟩; have n0_ := Aside0.mk (below_step zbw hb); clear HB; have HB := n0_; clear n0_; (try clear hb); (try clear hb2); (try clear hk); (try clear hi)) | (go_at_call 55; (with_reducible refine (impl_moves.calls k a0 t102 _ A5.out).mono ?_); rintro e w7 ⟨v103,rfl,ho0,hb⟩; have n0_ := Aside0.mk (Kd.S_lower ho0 (below_size zbw)); have n1_ := Aside0.mk (below_step zbw hb); clear HB; have HO104 := n0_; have HB := n1_; clear n0_ n1_; (try clear hb); (try clear hb2); (try clear hk); (try clear hi); (try clear ho0)))
  repeat (go_quiet (first | (go_at_call 63; (with_reducible refine (impl_isDigits.calls a1 1 40 true _ A3.out).mono ?_); rintro e w6 ⟨rfl,hb⟩; have n0_ := Aside0.mk (below_step zbw hb); clear HB; have HB := n0_; clear n0_; (try clear hb); (try clear hb2); (try clear hk); (try clear hi)) | (go_at_call 55; (with_reducible refine (impl_moves.calls k a0 t102 _ A5.out).mono ?_); rintro e w7 ⟨v103,rfl,ho0,hb⟩; have n0_ := Aside0.mk (Kd.S_lower ho0 (below_size zbw)); have n1_ := Aside0.mk (below_step zbw hb); clear HB; have HO104 := n0_; have HB := n1_; clear n0_ n1_; (try clear hb); (try clear hb2); (try clear hk); (try clear hi); (try clear ho0))); try go_wp2_with (first | (go_at_call 63; (with_reducible refine (impl_isDigits.calls a1 1 40 true _ A3.out).mono ?_); rintro e w6 ⟨rfl,hb⟩; have n0_ := Aside0.mk (below_step zbw hb); clear HB; have HB := n0_; clear n0_; (try clear hb); (try clear hb2); (try clear hk); (try clear hi)) | (go_at_call 55; (with_reducible refine (impl_moves.calls k a0 t102 _ A5.out).mono ?_); rintro e w7 ⟨v103,rfl,ho0,hb⟩; have n0_ := Aside0.mk (Kd.S_lower ho0 (below_size zbw)); have n1_ := Aside0.mk (below_step zbw hb); clear HB; have HO104 := n0_; have HB := n1_; clear n0_ n1_; (try clear hb); (try clear hb2); (try clear hk); (try clear hi); (try clear ho0))))
  go_loopg [6] k (fun kq v6 w' => ∃ (x6_1 : Int),v6 = .int .i64 x6_1 ∧ Aside0 (impl_isWalk.l0 kq a1 t102 x6_1 = some r) ∧ Aside0 (kq ≤ k) ∧ Aside0 (Kd.S (Kd.slice 3 (Kd.int .i64)) 53 w' w.heap.size (fun _ => True) v103 t102) ∧ Aside0 (Below w.heap.size w w'))
  case atStart => exact ⟨(1),zrs,H',⟨Nat.le_refl _⟩,⟨by (with_reducible repeat (first | apply Kd.S_alloc | apply Kd.S_drewN | apply Kd.S_drew)); exact HO104.out⟩,⟨zbw⟩⟩
  case round =>
   clear H'; try clear p2
   try clear c4
   try clear c5
   obtain ⟨x6_1,rfl,HA,HK1,HO_5,HB⟩ := hrel
   cases gk with
   | zero => exact absurd HA.out (by simp [impl_isWalk.l0])
   | succ k1 =>
    have H := HA.out; clear HA; simp only [impl_isWalk.l0] at H
    by_cases c8 : x6_1 < (a1.size : Int)
    ·
     rw [if_pos c8] at H; have c8b0 : decide (x6_1 < (a1.size : Int)) = true := decide_eq_true c8; clear c8; obtain ⟨ji9,hji9⟩ : ∃ j_ : Int,(wrap64 (x6_1 - 1)) = j_ := ⟨_,rfl⟩; replace H : (if 0 ≤ (ji9) then (if (ji9) < (a1.size : Int) then ((impl_digit.f (bt a1 (ji9))).bind fun t105 => (if 0 ≤ t105 then (if t105 < (t102.length : Int) then (if 0 ≤ x6_1 then ((impl_digit.f (bt a1 x6_1)).bind fun t107 => ((slices_Contains_int_int.f k1 (rd_L5 t102 t105) t107).bind fun t108 => (if t108 = true then (impl_isWalk.l0 k1 a1 t102 (wrap64 (x6_1 + 1))) else (some false)))) else (none)) else (none)) else (none))) else (none)) else (none)) = some r := by first | (rw [hji9] at H; exact H) | (simp only [hji9] at H ⊢; exact H)
     have hji9w : (IntKind.i64.wrap (x6_1 - 1)) = ji9 := (i64_w _).trans hji9
     by_cases c10 : 0 ≤ (ji9)
     ·
      rw [if_pos c10] at H; have c10b0 : decide (0 ≤ (ji9)) = true := decide_eq_true c10; clear c10
      by_cases c11 : (ji9) < (a1.size : Int)
      ·
       rw [if_pos c11] at H; have c11b0 : decide ((ji9) < (a1.size : Int)) = true := decide_eq_true c11; clear c11; replace H := Option.bind_eq_some_iff.mp H; obtain ⟨t105,A130,H⟩ := H; replace H : (if 0 ≤ t105 then (if t105 < (t102.length : Int) then (if 0 ≤ x6_1 then ((impl_digit.f (bt a1 x6_1)).bind fun t107 => ((slices_Contains_int_int.f k1 (rd_L5 t102 t105) t107).bind fun t108 => (if t108 = true then (impl_isWalk.l0 k1 a1 t102 (wrap64 (x6_1 + 1))) else (some false)))) else (none)) else (none)) else (none)) = some r := H; have A13 := Aside0.mk A130; clear A130
       by_cases c14 : 0 ≤ t105
       ·
        rw [if_pos c14] at H; have c14b0 : decide (0 ≤ t105) = true := decide_eq_true c14; clear c14
        by_cases c15 : t105 < (t102.length : Int)
        ·
         rw [if_pos c15] at H; have c15b0 : decide (t105 < (t102.length : Int)) = true := decide_eq_true c15; clear c15
         by_cases c16 : 0 ≤ x6_1
         ·
          rw [if_pos c16] at H; have c16b0 : decide (0 ≤ x6_1) = true := decide_eq_true c16; clear c16; replace H := Option.bind_eq_some_iff.mp H; obtain ⟨t107,A180,H⟩ := H; replace H : ((slices_Contains_int_int.f k1 (rd_L5 t102 t105) t107).bind fun t108 => (if t108 = true then (impl_isWalk.l0 k1 a1 t102 (wrap64 (x6_1 + 1))) else (some false))) = some r := H; have A18 := Aside0.mk A180; clear A180; replace H := Option.bind_eq_some_iff.mp H; obtain ⟨t108,A190,H⟩ := H; replace H : (if t108 = true then (impl_isWalk.l0 k1 a1 t102 (wrap64 (x6_1 + 1))) else (some false)) = some r := H; have A19 := Aside0.mk A190; clear A190
          by_cases c20 : t108 = true
          ·
           subst c20; have H1 : (impl_isWalk.l0 k1 a1 t102 (wrap64 (x6_1 + 1))) = some r := by rw [if_pos rfl] at H; exact H
           clear H; have H := H1; clear H1; have H' := Aside0.mk H; clear H; have p12 : 0 ≤ ((ji9) : Int) := zdd; have q12 : (ji9) < (a1.size : Int) := zdd; have hx12 := bt_at a1 (ji9); replace p12 := eq_true p12; replace q12 := eq_true q12; go_wp2_with (first | (go_at_call 38; (with_reducible refine (impl_digit.calls (bt a1 (ji9)) t105 _ A13.out).mono ?_); rintro e w' ⟨rfl,⟨nd,rfl⟩⟩; (try first | exact ⟨rfl,_,World.drewN_drewN _ _ _⟩ | exact ⟨rfl,_,Eq.trans (World.drewN_drewN _ _ _) (congrArg (World.drewN _) (Nat.add_assoc _ _ _))⟩); obtain ⟨Ao21,co21,eo21⟩ := Kd.S_slice HO_5.out; subst eo21; have p106 : 0 ≤ (t105 : Int) := zdd; have q106 : t105 < (t102.length : Int) := zdd; obtain ⟨ad106,A106_0,c106_0,e106,hx106_0,hl106_0,hi106_0⟩ := at_L5 (Kd.S_reads' HO_5.out).2.2 t105 p106 q106; cases e106; obtain ⟨ce106,hce106,hMe106,hcc106⟩ := Kd.S_get HO_5.out [] t105 p106 (by first | exact q106 | exact zdd | (have e_ := (Kd.S_reads' HO_5.out).1; omega)); obtain ⟨ve106_0,rfl,ge106_0⟩ := hMe106; have hv106_0 := hcc106 0 _ rfl; rw [Nat.add_zero,show ((Kd.slice 3 (Kd.int .i64))).sz = 1 from rfl,Nat.mul_one] at hv106_0; replace hv106_0 := Option.some.inj (hv106_0.symm.trans hx106_0); rw [hv106_0] at ge106_0; have HL106_0 := Aside0.mk (show Kd.R (Kd.int .i64) 3 _ _ _ _ (rd_L5 t102 t105) from ge106_0); clear hv106_0 ge106_0; clear hcc106 hce106; have HR106_0 := Aside0.mk hi106_0; have HC106_0 := Aside0.mk hl106_0; clear hi106_0 hl106_0; replace p106 := eq_true p106; replace q106 := eq_true q106; have p17 : 0 ≤ (x6_1 : Int) := zdd; have q17 : x6_1 < (a1.size : Int) := zdd; have hx17 := bt_at a1 x6_1; replace p17 := eq_true p17; replace q17 := eq_true q17) | (go_at_call 38; (with_reducible refine (impl_digit.calls (bt a1 x6_1) t107 _ A18.out).mono ?_); rintro e w' ⟨rfl,⟨nd,rfl⟩⟩; (try first | exact ⟨rfl,_,World.drewN_drewN _ _ _⟩ | exact ⟨rfl,_,Eq.trans (World.drewN_drewN _ _ _) (congrArg (World.drewN _) (Nat.add_assoc _ _ _))⟩)) | (go_at_call 72; (with_reducible refine (slices_Contains_int_int.calls k1 _ _ (rd_L5 t102 t105) t107 true _ ?side1 ?side2 A19.out).mono ?_); (case side1 => repeat (first | exact (by repeat (first | (with_reducible exact HR106_0.out) | (with_reducible refine Kd.C_alloc ?_ _) | (with_reducible refine Kd.C_drewN ?_ _) | (with_reducible refine Kd.C_drew ?_) | exact HR106_0.out)) | (with_reducible refine Kd.C_alloc ?_ _) | (with_reducible refine Kd.C_drewN ?_ _) | (with_reducible refine Kd.C_drew ?_))); (case side2 => exact HC106_0.out); rintro e w' ⟨rfl,⟨nd,rfl⟩⟩; (try first | exact ⟨rfl,_,World.drewN_drewN _ _ _⟩ | exact ⟨rfl,_,Eq.trans (World.drewN_drewN _ _ _) (congrArg (World.drewN _) (Nat.add_assoc _ _ _))⟩)))
           repeat (go_quiet (first | (go_at_call 38; (with_reducible refine (impl_digit.calls (bt a1 (ji9)) t105 _ A13.out).mono ?_); rintro e w' ⟨rfl,⟨nd,rfl⟩⟩; (try first | exact ⟨rfl,_,World.drewN_drewN _ _ _⟩ | exact ⟨rfl,_,Eq.trans (World.drewN_drewN _ _ _) (congrArg (World.drewN _) (Nat.add_assoc _ _ _))⟩); obtain ⟨Ao21,co21,eo21⟩ := Kd.S_slice HO_5.out; subst eo21; have p106 : 0 ≤ (t105 : Int) := zdd; have q106 : t105 < (t102.length : Int) := zdd; obtain ⟨ad106,A106_0,c106_0,e106,hx106_0,hl106_0,hi106_0⟩ := at_L5 (Kd.S_reads' HO_5.out).2.2 t105 p106 q106; cases e106; obtain ⟨ce106,hce106,hMe106,hcc106⟩ := Kd.S_get HO_5.out [] t105 p106 (by first | exact q106 | exact zdd | (have e_ := (Kd.S_reads' HO_5.out).1; omega)); obtain ⟨ve106_0,rfl,ge106_0⟩ := hMe106; have hv106_0 := hcc106 0 _ rfl; rw [Nat.add_zero,show ((Kd.slice 3 (Kd.int .i64))).sz = 1 from rfl,Nat.mul_one] at hv106_0; replace hv106_0 := Option.some.inj (hv106_0.symm.trans hx106_0); rw [hv106_0] at ge106_0; have HL106_0 := Aside0.mk (show Kd.R (Kd.int .i64) 3 _ _ _ _ (rd_L5 t102 t105) from ge106_0); clear hv106_0 ge106_0; clear hcc106 hce106; have HR106_0 := Aside0.mk hi106_0; have HC106_0 := Aside0.mk hl106_0; clear hi106_0 hl106_0; replace p106 := eq_true p106; replace q106 := eq_true q106; have p17 : 0 ≤ (x6_1 : Int) := zdd; have q17 : x6_1 < (a1.size : Int) := zdd; have hx17 := bt_at a1 x6_1; replace p17 := eq_true p17; replace q17 := eq_true q17) | (go_at_call 38; (with_reducible refine (impl_digit.calls (bt a1 x6_1) t107 _ A18.out).mono ?_); rintro e w' ⟨rfl,⟨nd,rfl⟩⟩; (try first | exact ⟨rfl,_,World.drewN_drewN _ _ _⟩ | exact ⟨rfl,_,Eq.trans (World.drewN_drewN _ _ _) (congrArg (World.drewN _) (Nat.add_assoc _ _ _))⟩)) | (go_at_call 72; (with_reducible refine (slices_Contains_int_int.calls k1 _ _ (rd_L5 t102 t105) t107 true _ ?side1 ?side2 A19.out).mono ?_); (case side1 => repeat (first | exact (by repeat (first | (with_reducible exact HR106_0.out) | (with_reducible refine Kd.C_alloc ?_ _) | (with_reducible refine Kd.C_drewN ?_ _) | (with_reducible refine Kd.C_drew ?_) | exact HR106_0.out)) | (with_reducible refine Kd.C_alloc ?_ _) | (with_reducible refine Kd.C_drewN ?_ _) | (with_reducible refine Kd.C_drew ?_))); (case side2 => exact HC106_0.out); rintro e w' ⟨rfl,⟨nd,rfl⟩⟩; (try first | exact ⟨rfl,_,World.drewN_drewN _ _ _⟩ | exact ⟨rfl,_,Eq.trans (World.drewN_drewN _ _ _) (congrArg (World.drewN _) (Nat.add_assoc _ _ _))⟩))); try go_wp2_with (first | (go_at_call 38; (with_reducible refine (impl_digit.calls (bt a1 (ji9)) t105 _ A13.out).mono ?_); rintro e w' ⟨rfl,⟨nd,rfl⟩⟩; (try first | exact ⟨rfl,_,World.drewN_drewN _ _ _⟩ | exact ⟨rfl,_,Eq.trans (World.drewN_drewN _ _ _) (congrArg (World.drewN _) (Nat.add_assoc _ _ _))⟩); obtain ⟨Ao21,co21,eo21⟩ := Kd.S_slice HO_5.out; subst eo21; have p106 : 0 ≤ (t105 : Int) := zdd; have q106 : t105 < (t102.length : Int) := zdd; obtain ⟨ad106,A106_0,c106_0,e106,hx106_0,hl106_0,hi106_0⟩ := at_L5 (Kd.S_reads' HO_5.out).2.2 t105 p106 q106; cases e106; obtain ⟨ce106,hce106,hMe106,hcc106⟩ := Kd.S_get HO_5.out [] t105 p106 (by first | exact q106 | exact zdd | (have e_ := (Kd.S_reads' HO_5.out).1; omega)); obtain ⟨ve106_0,rfl,ge106_0⟩ := hMe106; have hv106_0 := hcc106 0 _ rfl; rw [Nat.add_zero,show ((Kd.slice 3 (Kd.int .i64))).sz = 1 from rfl,Nat.mul_one] at hv106_0; replace hv106_0 := Option.some.inj (hv106_0.symm.trans hx106_0); rw [hv106_0] at ge106_0; have HL106_0 := Aside0.mk (show Kd.R (Kd.int .i64) 3 _ _ _ _ (rd_L5 t102 t105) from ge106_0); clear hv106_0 ge106_0; clear hcc106 hce106; have HR106_0 := Aside0.mk hi106_0; have HC106_0 := Aside0.mk hl106_0; clear hi106_0 hl106_0; replace p106 := eq_true p106; replace q106 := eq_true q106; have p17 : 0 ≤ (x6_1 : Int) := zdd; have q17 : x6_1 < (a1.size : Int) := zdd; have hx17 := bt_at a1 x6_1; replace p17 := eq_true p17; replace q17 := eq_true q17) | (go_at_call 38; (with_reducible refine (impl_digit.calls (bt a1 x6_1) t107 _ A18.out).mono ?_); rintro e w' ⟨rfl,⟨nd,rfl⟩⟩; (try first | exact ⟨rfl,_,World.drewN_drewN _ _ _⟩ | exact ⟨rfl,_,Eq.trans (World.drewN_drewN _ _ _) (congrArg (World.drewN _) (Nat.add_assoc _ _ _))⟩)) | (go_at_call 72; (with_reducible refine (slices_Contains_int_int.calls k1 _ _ (rd_L5 t102 t105) t107 true _ ?side1 ?side2 A19.out).mono ?_); (case side1 => repeat (first | exact (by repeat (first | (with_reducible exact HR106_0.out) | (with_reducible refine Kd.C_alloc ?_ _) | (with_reducible refine Kd.C_drewN ?_ _) | (with_reducible refine Kd.C_drew ?_) | exact HR106_0.out)) | (with_reducible refine Kd.C_alloc ?_ _) | (with_reducible refine Kd.C_drewN ?_ _) | (with_reducible refine Kd.C_drew ?_))); (case side2 => exact HC106_0.out); rintro e w' ⟨rfl,⟨nd,rfl⟩⟩; (try first | exact ⟨rfl,_,World.drewN_drewN _ _ _⟩ | exact ⟨rfl,_,Eq.trans (World.drewN_drewN _ _ _) (congrArg (World.drewN _) (Nat.add_assoc _ _ _))⟩))))
           go_roundg k1
           case measure => have := HK1.out; omega
           case rel => exact ⟨(wrap64 (x6_1 + 1)),zrs,H',⟨by have := HK1.out; omega⟩,⟨by (with_reducible repeat (first | apply Kd.S_alloc | apply Kd.S_drewN | apply Kd.S_drew)); exact HO_5.out⟩,⟨zbw⟩⟩
          ·
           replace c20 := Bool.eq_false_iff.mpr c20; subst c20; have H1 : (some false) = some r := by rw [if_neg (show ¬ (false = true) by decide)] at H; exact H
           clear H; have H := H1; clear H1; obtain rfl := Option.some.inj H; have p12 : 0 ≤ ((ji9) : Int) := zdd; have q12 : (ji9) < (a1.size : Int) := zdd; have hx12 := bt_at a1 (ji9); replace p12 := eq_true p12; replace q12 := eq_true q12; go_wp2_with (first | (go_at_call 38; (with_reducible refine (impl_digit.calls (bt a1 (ji9)) t105 _ A13.out).mono ?_); rintro e w' ⟨rfl,⟨nd,rfl⟩⟩; (try first | exact ⟨rfl,_,World.drewN_drewN _ _ _⟩ | exact ⟨rfl,_,Eq.trans (World.drewN_drewN _ _ _) (congrArg (World.drewN _) (Nat.add_assoc _ _ _))⟩); obtain ⟨Ao22,co22,eo22⟩ := Kd.S_slice HO_5.out; subst eo22; have p106 : 0 ≤ (t105 : Int) := zdd; have q106 : t105 < (t102.length : Int) := zdd; obtain ⟨ad106,A106_0,c106_0,e106,hx106_0,hl106_0,hi106_0⟩ := at_L5 (Kd.S_reads' HO_5.out).2.2 t105 p106 q106; cases e106; obtain ⟨ce106,hce106,hMe106,hcc106⟩ := Kd.S_get HO_5.out [] t105 p106 (by first | exact q106 | exact zdd | (have e_ := (Kd.S_reads' HO_5.out).1; omega)); obtain ⟨ve106_0,rfl,ge106_0⟩ := hMe106; have hv106_0 := hcc106 0 _ rfl; rw [Nat.add_zero,show ((Kd.slice 3 (Kd.int .i64))).sz = 1 from rfl,Nat.mul_one] at hv106_0; replace hv106_0 := Option.some.inj (hv106_0.symm.trans hx106_0); rw [hv106_0] at ge106_0; have HL106_0 := Aside0.mk (show Kd.R (Kd.int .i64) 3 _ _ _ _ (rd_L5 t102 t105) from ge106_0); clear hv106_0 ge106_0; clear hcc106 hce106; have HR106_0 := Aside0.mk hi106_0; have HC106_0 := Aside0.mk hl106_0; clear hi106_0 hl106_0; replace p106 := eq_true p106; replace q106 := eq_true q106; have p17 : 0 ≤ (x6_1 : Int) := zdd; have q17 : x6_1 < (a1.size : Int) := zdd; have hx17 := bt_at a1 x6_1; replace p17 := eq_true p17; replace q17 := eq_true q17) | (go_at_call 38; (with_reducible refine (impl_digit.calls (bt a1 x6_1) t107 _ A18.out).mono ?_); rintro e w' ⟨rfl,⟨nd,rfl⟩⟩; (try first | exact ⟨rfl,_,World.drewN_drewN _ _ _⟩ | exact ⟨rfl,_,Eq.trans (World.drewN_drewN _ _ _) (congrArg (World.drewN _) (Nat.add_assoc _ _ _))⟩)) | (go_at_call 72; (with_reducible refine (slices_Contains_int_int.calls k1 _ _ (rd_L5 t102 t105) t107 false _ ?side1 ?side2 A19.out).mono ?_); (case side1 => repeat (first | exact (by repeat (first | (with_reducible exact HR106_0.out) | (with_reducible refine Kd.C_alloc ?_ _) | (with_reducible refine Kd.C_drewN ?_ _) | (with_reducible refine Kd.C_drew ?_) | exact HR106_0.out)) | (with_reducible refine Kd.C_alloc ?_ _) | (with_reducible refine Kd.C_drewN ?_ _) | (with_reducible refine Kd.C_drew ?_))); (case side2 => exact HC106_0.out); rintro e w' ⟨rfl,⟨nd,rfl⟩⟩; (try first | exact ⟨rfl,_,World.drewN_drewN _ _ _⟩ | exact ⟨rfl,_,Eq.trans (World.drewN_drewN _ _ _) (congrArg (World.drewN _) (Nat.add_assoc _ _ _))⟩)))
           repeat (go_quiet (first | (go_at_call 38; (with_reducible refine (impl_digit.calls (bt a1 (ji9)) t105 _ A13.out).mono ?_); rintro e w' ⟨rfl,⟨nd,rfl⟩⟩; (try first | exact ⟨rfl,_,World.drewN_drewN _ _ _⟩ | exact ⟨rfl,_,Eq.trans (World.drewN_drewN _ _ _) (congrArg (World.drewN _) (Nat.add_assoc _ _ _))⟩); obtain ⟨Ao22,co22,eo22⟩ := Kd.S_slice HO_5.out; subst eo22; have p106 : 0 ≤ (t105 : Int) := zdd; have q106 : t105 < (t102.length : Int) := zdd; obtain ⟨ad106,A106_0,c106_0,e106,hx106_0,hl106_0,hi106_0⟩ := at_L5 (Kd.S_reads' HO_5.out).2.2 t105 p106 q106; cases e106; obtain ⟨ce106,hce106,hMe106,hcc106⟩ := Kd.S_get HO_5.out [] t105 p106 (by first | exact q106 | exact zdd | (have e_ := (Kd.S_reads' HO_5.out).1; omega)); obtain ⟨ve106_0,rfl,ge106_0⟩ := hMe106; have hv106_0 := hcc106 0 _ rfl; rw [Nat.add_zero,show ((Kd.slice 3 (Kd.int .i64))).sz = 1 from rfl,Nat.mul_one] at hv106_0; replace hv106_0 := Option.some.inj (hv106_0.symm.trans hx106_0); rw [hv106_0] at ge106_0; have HL106_0 := Aside0.mk (show Kd.R (Kd.int .i64) 3 _ _ _ _ (rd_L5 t102 t105) from ge106_0); clear hv106_0 ge106_0; clear hcc106 hce106; have HR106_0 := Aside0.mk hi106_0; have HC106_0 := Aside0.mk hl106_0; clear hi106_0 hl106_0; replace p106 := eq_true p106; replace q106 := eq_true q106; have p17 : 0 ≤ (x6_1 : Int) := zdd; have q17 : x6_1 < (a1.size : Int) := zdd; have hx17 := bt_at a1 x6_1; replace p17 := eq_true p17; replace q17 := eq_true q17) | (go_at_call 38; (with_reducible refine (impl_digit.calls (bt a1 x6_1) t107 _ A18.out).mono ?_); rintro e w' ⟨rfl,⟨nd,rfl⟩⟩; (try first | exact ⟨rfl,_,World.drewN_drewN _ _ _⟩ | exact ⟨rfl,_,Eq.trans (World.drewN_drewN _ _ _) (congrArg (World.drewN _) (Nat.add_assoc _ _ _))⟩)) | (go_at_call 72; (with_reducible refine (slices_Contains_int_int.calls k1 _ _ (rd_L5 t102 t105) t107 false _ ?side1 ?side2 A19.out).mono ?_); (case side1 => repeat (first | exact (by repeat (first | (with_reducible exact HR106_0.out) | (with_reducible refine Kd.C_alloc ?_ _) | (with_reducible refine Kd.C_drewN ?_ _) | (with_reducible refine Kd.C_drew ?_) | exact HR106_0.out)) | (with_reducible refine Kd.C_alloc ?_ _) | (with_reducible refine Kd.C_drewN ?_ _) | (with_reducible refine Kd.C_drew ?_))); (case side2 => exact HC106_0.out); rintro e w' ⟨rfl,⟨nd,rfl⟩⟩; (try first | exact ⟨rfl,_,World.drewN_drewN _ _ _⟩ | exact ⟨rfl,_,Eq.trans (World.drewN_drewN _ _ _) (congrArg (World.drewN _) (Nat.add_assoc _ _ _))⟩))); try go_wp2_with (first | (go_at_call 38; (with_reducible refine (impl_digit.calls (bt a1 (ji9)) t105 _ A13.out).mono ?_); rintro e w' ⟨rfl,⟨nd,rfl⟩⟩; (try first | exact ⟨rfl,_,World.drewN_drewN _ _ _⟩ | exact ⟨rfl,_,Eq.trans (World.drewN_drewN _ _ _) (congrArg (World.drewN _) (Nat.add_assoc _ _ _))⟩); obtain ⟨Ao22,co22,eo22⟩ := Kd.S_slice HO_5.out; subst eo22; have p106 : 0 ≤ (t105 : Int) := zdd; have q106 : t105 < (t102.length : Int) := zdd; obtain ⟨ad106,A106_0,c106_0,e106,hx106_0,hl106_0,hi106_0⟩ := at_L5 (Kd.S_reads' HO_5.out).2.2 t105 p106 q106; cases e106; obtain ⟨ce106,hce106,hMe106,hcc106⟩ := Kd.S_get HO_5.out [] t105 p106 (by first | exact q106 | exact zdd | (have e_ := (Kd.S_reads' HO_5.out).1; omega)); obtain ⟨ve106_0,rfl,ge106_0⟩ := hMe106; have hv106_0 := hcc106 0 _ rfl; rw [Nat.add_zero,show ((Kd.slice 3 (Kd.int .i64))).sz = 1 from rfl,Nat.mul_one] at hv106_0; replace hv106_0 := Option.some.inj (hv106_0.symm.trans hx106_0); rw [hv106_0] at ge106_0; have HL106_0 := Aside0.mk (show Kd.R (Kd.int .i64) 3 _ _ _ _ (rd_L5 t102 t105) from ge106_0); clear hv106_0 ge106_0; clear hcc106 hce106; have HR106_0 := Aside0.mk hi106_0; have HC106_0 := Aside0.mk hl106_0; clear hi106_0 hl106_0; replace p106 := eq_true p106; replace q106 := eq_true q106; have p17 : 0 ≤ (x6_1 : Int) := zdd; have q17 : x6_1 < (a1.size : Int) := zdd; have hx17 := bt_at a1 x6_1; replace p17 := eq_true p17; replace q17 := eq_true q17) | (go_at_call 38; (with_reducible refine (impl_digit.calls (bt a1 x6_1) t107 _ A18.out).mono ?_); rintro e w' ⟨rfl,⟨nd,rfl⟩⟩; (try first | exact ⟨rfl,_,World.drewN_drewN _ _ _⟩ | exact ⟨rfl,_,Eq.trans (World.drewN_drewN _ _ _) (congrArg (World.drewN _) (Nat.add_assoc _ _ _))⟩)) | (go_at_call 72; (with_reducible refine (slices_Contains_int_int.calls k1 _ _ (rd_L5 t102 t105) t107 false _ ?side1 ?side2 A19.out).mono ?_); (case side1 => repeat (first | exact (by repeat (first | (with_reducible exact HR106_0.out) | (with_reducible refine Kd.C_alloc ?_ _) | (with_reducible refine Kd.C_drewN ?_ _) | (with_reducible refine Kd.C_drew ?_) | exact HR106_0.out)) | (with_reducible refine Kd.C_alloc ?_ _) | (with_reducible refine Kd.C_drewN ?_ _) | (with_reducible refine Kd.C_drew ?_))); (case side2 => exact HC106_0.out); rintro e w' ⟨rfl,⟨nd,rfl⟩⟩; (try first | exact ⟨rfl,_,World.drewN_drewN _ _ _⟩ | exact ⟨rfl,_,Eq.trans (World.drewN_drewN _ _ _) (congrArg (World.drewN _) (Nat.add_assoc _ _ _))⟩))))
           go_ret
           exact ⟨by first | rfl | (simp [errW_none,errW_some] <;> rfl) | (simp only [← hji9]; first | rfl | (simp [errW_none,errW_some] <;> rfl)) | (simp [*,errW_none,errW_some] <;> rfl),zbw⟩
         · rw [if_neg c16] at H; exact absurd H (by simp)
        · rw [if_neg c15] at H; exact absurd H (by simp)
       · rw [if_neg c14] at H; exact absurd H (by simp)
      · rw [if_neg c11] at H; exact absurd H (by simp)
     · rw [if_neg c10] at H; exact absurd H (by simp)
    ·
     rw [if_neg c8] at H; have c8b0 : decide (x6_1 < (a1.size : Int)) = false := decide_eq_false c8; clear c8; obtain rfl := Option.some.inj H; go_wp2
     repeat (go_quiet (fail); try go_wp2)
     go_ret
     exact ⟨zer,zbw⟩
 ·
  replace c4 := Bool.eq_false_iff.mpr c4; subst c4; have H1 : (some false) = some r := by rw [if_neg (show ¬ (false = true) by decide)] at H; exact H
  clear H; have H := H1; clear H1; obtain rfl := Option.some.inj H
  go_enter Tryz.func52,Tryz.ntmps52
  go_wp2_with (first | (go_at_call 63; (with_reducible refine (impl_isDigits.calls a1 1 40 false _ A3.out).mono ?_); rintro e w23 ⟨rfl,hb⟩; have n0_ := Aside0.mk (below_step zbw hb); clear HB; have HB := n0_; clear n0_; (try clear hb); (try clear hb2); (try clear hk); (try clear hi)))
  repeat (go_quiet (first | (go_at_call 63; (with_reducible refine (impl_isDigits.calls a1 1 40 false _ A3.out).mono ?_); rintro e w23 ⟨rfl,hb⟩; have n0_ := Aside0.mk (below_step zbw hb); clear HB; have HB := n0_; clear n0_; (try clear hb); (try clear hb2); (try clear hk); (try clear hi))); try go_wp2_with (first | (go_at_call 63; (with_reducible refine (impl_isDigits.calls a1 1 40 false _ A3.out).mono ?_); rintro e w23 ⟨rfl,hb⟩; have n0_ := Aside0.mk (below_step zbw hb); clear HB; have HB := n0_; clear n0_; (try clear hb); (try clear hb2); (try clear hk); (try clear hi))))
  go_ret
  exact ⟨zer,zbw⟩

end Go.Proofs.YtffbfkfbeggdnaaGreatDoor.P
-- printed by xprint.py
namespace Go.Proofs.YtffbfkfbeggdnaaGreatDoor.P
open Go.RowKit Go.Proofs.YtffbfkfbeggdnaaGreatDoorW.PrintWords Go.Proofs.YtffbfkfbeggdnaaGreatDoorW.PrintLast Go.Proofs.YtffbfkfbeggdnaaGreatDoorW.PrintMore
attribute [local go_sem] max2_int min2_int max_two min_two max_three min_three max_four min_four
set_option linter.unusedVariables false
set_option linter.unusedSimpArgs false

def impl_IsWalk.f (k : Nat) (a0 : ByteArray) (a1 : ByteArray) : Option (Bool × Bool) := (impl_isPiece.f a0).bind fun t101 => (if t101 = true then ((impl_isWalk.f k a0 a1).bind fun t102 => (some (t102,true))) else (some (false,false)))
set_option maxHeartbeats 8000000 in
set_option maxRecDepth 100000 in
theorem impl_IsWalk.calls (k : Nat) (a0 : ByteArray) (a1 : ByteArray) (r1 : Bool) (r2 : Bool) (w : World) (hml : ∃ m_ : Int,w.cell? ⟨0,0,none⟩ = some (.int .i64 m_)) (h : impl_IsWalk.f k a0 a1 = some (r1,r2)) :
  Calls Tryz.prog 20 #[.string a0,.string a1] w fun e w' => e = .returned (.tuple #[.bool r1,.bool r2]) ∧ Below w.heap.size w w' := by
 obtain ⟨ml_,hml⟩ := hml; have HML := Aside0.mk hml; clear hml; have HB := Aside0.mk (Below.refl w.heap.size w); have H : ((impl_isPiece.f a0).bind fun t101 => (if t101 = true then ((impl_isWalk.f k a0 a1).bind fun t102 => (some (t102,true))) else (some (false,false)))) = some (r1,r2) := h; clear h; replace H := Option.bind_eq_some_iff.mp H; obtain ⟨t101,A30,H⟩ := H; replace H : (if t101 = true then ((impl_isWalk.f k a0 a1).bind fun t102 => (some (t102,true))) else (some (false,false))) = some (r1,r2) := H; have A3 := Aside0.mk A30; clear A30
 by_cases c4 : t101 = true
 ·
  subst c4; have H1 : ((impl_isWalk.f k a0 a1).bind fun t102 => (some (t102,true))) = some (r1,r2) := by rw [if_pos rfl] at H; exact H
  clear H; have H := H1; clear H1; replace H := Option.bind_eq_some_iff.mp H; obtain ⟨t102,A50,H⟩ := H; replace H : (some (t102,true)) = some (r1,r2) := H; have A5 := Aside0.mk A50; clear A50; simp only [Option.some.injEq,Prod.mk.injEq] at H; obtain ⟨rfl,rfl⟩ := H
  go_enter Tryz.func20,Tryz.ntmps20
  go_wp2_with (first | ((with_reducible refine gate_callee (f := 33) rfl ?_); refine goesL_ (some 7) rfl rfl Tryz.func33 (by kernel_rfl) rfl #[.string a0] rfl zrr ?_; (with_reducible refine (impl_isPiece.calls a0 true _ zhm A3.out).mono ?_); rintro e w' ⟨rfl,⟨nd,rfl⟩⟩; refine ⟨_,rfl,?_⟩) | ((with_reducible refine gate_callee (f := 52) rfl ?_); refine goesL_ (some 11) rfl rfl Tryz.func52 (by kernel_rfl) rfl #[.string a0,.string a1] rfl zrr ?_; (with_reducible refine (impl_isWalk.calls k a0 a1 t102 _ A5.out).mono ?_); rintro e w6 ⟨rfl,hb⟩; refine ⟨_,rfl,?_⟩; have n0_ := Aside0.mk (below_step zbw hb); clear HB; have HB := n0_; clear n0_; (try clear hb); (try clear hb2); (try clear hk); (try clear hi)))
  go_ret2
  exact ⟨zer,zbw⟩
 ·
  replace c4 := Bool.eq_false_iff.mpr c4; subst c4; have H1 : (some (false,false)) = some (r1,r2) := by rw [if_neg (show ¬ (false = true) by decide)] at H; exact H
  clear H; have H := H1; clear H1; simp only [Option.some.injEq,Prod.mk.injEq] at H; obtain ⟨rfl,rfl⟩ := H
  go_enter Tryz.func20,Tryz.ntmps20
  go_wp2_with (first | ((with_reducible refine gate_callee (f := 33) rfl ?_); refine goesL_ (some 7) rfl rfl Tryz.func33 (by kernel_rfl) rfl #[.string a0] rfl zrr ?_; (with_reducible refine (impl_isPiece.calls a0 false _ zhm A3.out).mono ?_); rintro e w' ⟨rfl,⟨nd,rfl⟩⟩; refine ⟨_,rfl,?_⟩))
  go_ret2
  exact ⟨zer,zbw⟩

end Go.Proofs.YtffbfkfbeggdnaaGreatDoor.P
-- printed by xprint.py
namespace Go.Proofs.YtffbfkfbeggdnaaGreatDoor.P
open Go.RowKit Go.Proofs.YtffbfkfbeggdnaaGreatDoorW.PrintWords Go.Proofs.YtffbfkfbeggdnaaGreatDoorW.PrintLast Go.Proofs.YtffbfkfbeggdnaaGreatDoorW.PrintMore
attribute [local go_sem] max2_int min2_int max_two min_two max_three min_three max_four min_four
set_option linter.unusedVariables false
set_option linter.unusedSimpArgs false

def impl_NextKeys.j0 : Nat → ByteArray → ByteArray → Bool → Option (ByteArray × Bool)
 | 0,_,_,_ => none
 | k + 1,x0,x1,x13 => if x13 = true then (some ((⟨#[]⟩ : ByteArray),false)) else (if 0 < (x1.size : Int) then ((impl_digit.f (bt x1 0)).bind fun t103 => ((impl_nexts.f k x0 t103).bind fun t104 => ((impl_digitText.f k t104).bind fun t107 => (some (t107,true))))) else (none))
def impl_NextKeys.f (k : Nat) (a0 : ByteArray) (a1 : ByteArray) : Option (ByteArray × Bool) := (impl_isPiece.f a0).bind fun t101 => (if t101 = true then ((impl_isDigit.f a1).bind fun t102 => (impl_NextKeys.j0 k a0 a1 (!t102))) else (impl_NextKeys.j0 k a0 a1 true))
theorem impl_NextKeys.mono_l : ∀ k,(∀ y0 y1 y2,LeO (impl_NextKeys.j0 k y0 y1 y2) (impl_NextKeys.j0 (k + 1) y0 y1 y2))
 | 0 => by intros; intro r h; simp [impl_NextKeys.j0] at h
 | k + 1 => by
  have ih0 := impl_NextKeys.mono_l k
  ·
   intro y0 y1 y2
   unfold impl_NextKeys.j0
   repeat' first
   | (with_reducible exact ih0 _ _ _)
   | (with_reducible exact impl_digitText.mono _ _)
   | (with_reducible exact impl_nexts.mono _ _ _)
   | (with_reducible exact LeO.refl _)
   | (with_reducible exact LeO.none _)
   | (with_reducible refine LeO.ite ?_ ?_)
   | (with_reducible refine LeO.bind ?_ (fun _ => ?_))
   | exact ih0 _ _ _
   | exact impl_digitText.mono _ _
   | exact impl_nexts.mono _ _ _
   | exact LeO.none _
   | refine LeO.ite ?_ ?_
   | refine LeO.bind ?_ (fun _ => ?_)
theorem impl_NextKeys.mono : ∀ y0 y1 k,LeO (impl_NextKeys.f k y0 y1) (impl_NextKeys.f (k + 1) y0 y1) := by
 intro y0 y1 k; have ih0 := impl_NextKeys.mono_l k
 unfold impl_NextKeys.f
 repeat' first
   | (with_reducible exact ih0 _ _ _)
   | (with_reducible exact impl_digitText.mono _ _)
   | (with_reducible exact impl_nexts.mono _ _ _)
   | (with_reducible exact LeO.refl _)
   | (with_reducible exact LeO.none _)
   | (with_reducible refine LeO.ite ?_ ?_)
   | (with_reducible refine LeO.bind ?_ (fun _ => ?_))
   | exact ih0 _ _ _
   | exact impl_digitText.mono _ _
   | exact impl_nexts.mono _ _ _
   | exact LeO.none _
   | refine LeO.ite ?_ ?_
   | refine LeO.bind ?_ (fun _ => ?_)
set_option maxHeartbeats 8000000 in
set_option maxRecDepth 100000 in
theorem impl_NextKeys.calls (k : Nat) (a0 : ByteArray) (a1 : ByteArray) (r1 : ByteArray) (r2 : Bool) (w : World) (hml : ∃ m_ : Int,w.cell? ⟨0,0,none⟩ = some (.int .i64 m_)) (h : impl_NextKeys.f k a0 a1 = some (r1,r2)) :
  Calls Tryz.prog 8 #[.string a0,.string a1] w fun e w' => e = .returned (.tuple #[.string r1,.bool r2]) ∧ Below w.heap.size w w' := by
 obtain ⟨ml_,hml⟩ := hml; have HML := Aside0.mk hml; clear hml; have HB := Aside0.mk (Below.refl w.heap.size w); have H : ((impl_isPiece.f a0).bind fun t101 => (if t101 = true then ((impl_isDigit.f a1).bind fun t102 => (impl_NextKeys.j0 k a0 a1 (!t102))) else (impl_NextKeys.j0 k a0 a1 true))) = some (r1,r2) := h; clear h; have HC3 := Aside0.mk H; clear H
 go_enter Tryz.func8,Tryz.ntmps8
 go_upto_region 1 with (fail)
 go_cut [13] (fun v13 wc => ∃ (kq : Nat) (x13_2 : Bool),v13 = .bool x13_2 ∧ Aside0 (impl_NextKeys.j0 kq a0 a1 x13_2 = some (r1,r2)) ∧ Aside0 (kq ≤ k) ∧ Aside0 (Below w.heap.size w wc))
 case first =>
  have H := HC3.out; clear HC3; replace H := Option.bind_eq_some_iff.mp H; obtain ⟨t101,A40,H⟩ := H; replace H : (if t101 = true then ((impl_isDigit.f a1).bind fun t102 => (impl_NextKeys.j0 k a0 a1 (!t102))) else (impl_NextKeys.j0 k a0 a1 true)) = some (r1,r2) := H; have A4 := Aside0.mk A40; clear A40
  by_cases c5 : t101 = true
  ·
   subst c5; have H1 : ((impl_isDigit.f a1).bind fun t102 => (impl_NextKeys.j0 k a0 a1 (!t102))) = some (r1,r2) := by rw [if_pos rfl] at H; exact H
   clear H; have H := H1; clear H1; replace H := Option.bind_eq_some_iff.mp H; obtain ⟨t102,A60,H⟩ := H; replace H : (impl_NextKeys.j0 k a0 a1 (!t102)) = some (r1,r2) := H; have A6 := Aside0.mk A60; clear A60; have H' := Aside0.mk H; clear H; go_wp2_with (first | ((with_reducible refine gate_callee (f := 33) rfl ?_); refine goesL_ (some 7) rfl rfl Tryz.func33 (by kernel_rfl) rfl #[.string a0] rfl zrr ?_; (with_reducible refine (impl_isPiece.calls a0 true _ zhm A4.out).mono ?_); rintro e w' ⟨rfl,⟨nd,rfl⟩⟩; refine ⟨_,rfl,?_⟩) | (go_at_call 34; (with_reducible refine (impl_isDigit.calls a1 t102 _ A6.out).mono ?_); rintro e w7 ⟨rfl,hb⟩; have n0_ := Aside0.mk (below_step zbw hb); clear HB; have HB := n0_; clear n0_; (try clear hb); (try clear hb2); (try clear hk); (try clear hi)))
   go_meet
   case rel => exact ⟨_,(!t102),zrs,H',⟨by first | omega | exact Nat.le_refl _⟩,⟨zbw⟩⟩
  ·
   replace c5 := Bool.eq_false_iff.mpr c5; subst c5; have H1 : (impl_NextKeys.j0 k a0 a1 true) = some (r1,r2) := by rw [if_neg (show ¬ (false = true) by decide)] at H; exact H
   clear H; have H := H1; clear H1; have H' := Aside0.mk H; clear H; go_wp2_with (first | ((with_reducible refine gate_callee (f := 33) rfl ?_); refine goesL_ (some 7) rfl rfl Tryz.func33 (by kernel_rfl) rfl #[.string a0] rfl zrr ?_; (with_reducible refine (impl_isPiece.calls a0 false _ zhm A4.out).mono ?_); rintro e w' ⟨rfl,⟨nd,rfl⟩⟩; refine ⟨_,rfl,?_⟩))
   go_meet
   case rel => exact ⟨_,(true),zrs,H',⟨by first | omega | exact Nat.le_refl _⟩,⟨zbw⟩⟩
 case rest =>
  clear HC3; try clear p2
  try clear c3
  try clear c5
  obtain ⟨kq,x13_2,rfl,HA,HJ2,HB⟩ := hcut
  cases kq with
  | zero => exact absurd HA.out (by simp [impl_NextKeys.j0])
  | succ kj2 =>
   have H := HA.out; clear HA; simp only [impl_NextKeys.j0] at H
   by_cases c8 : x13_2 = true
   ·
    subst c8; have H1 : (some ((⟨#[]⟩ : ByteArray),false)) = some (r1,r2) := by rw [if_pos rfl] at H; exact H
    clear H; have H := H1; clear H1; simp only [Option.some.injEq,Prod.mk.injEq] at H; obtain ⟨rfl,rfl⟩ := H; go_wp2
    go_ret2
    exact ⟨zer,zbw⟩
   ·
    replace c8 := Bool.eq_false_iff.mpr c8; subst c8; have H1 : (if 0 < (a1.size : Int) then ((impl_digit.f (bt a1 0)).bind fun t103 => ((impl_nexts.f kj2 a0 t103).bind fun t104 => ((impl_digitText.f kj2 t104).bind fun t107 => (some (t107,true))))) else (none)) = some (r1,r2) := by rw [if_neg (show ¬ (false = true) by decide)] at H; exact H
    clear H; have H := H1; clear H1
    by_cases c9 : 0 < (a1.size : Int)
    ·
     rw [if_pos c9] at H; have c9b0 : decide (0 < (a1.size : Int)) = true := decide_eq_true c9; have c9b1 : decide (0 < a1.size) = true := decide_eq_true (by omega); clear c9; replace H := Option.bind_eq_some_iff.mp H; obtain ⟨t103,A110,H⟩ := H; replace H : ((impl_nexts.f kj2 a0 t103).bind fun t104 => ((impl_digitText.f kj2 t104).bind fun t107 => (some (t107,true)))) = some (r1,r2) := H; have A11 := Aside0.mk A110; clear A110; replace H := Option.bind_eq_some_iff.mp H; obtain ⟨t104,A120,H⟩ := H; replace H : ((impl_digitText.f kj2 t104).bind fun t107 => (some (t107,true))) = some (r1,r2) := H; have A12 := Aside0.mk A120; clear A120; replace H := Option.bind_eq_some_iff.mp H; obtain ⟨t107,A130,H⟩ := H; replace H : (some (t107,true)) = some (r1,r2) := H; have A13 := Aside0.mk A130; clear A130; simp only [Option.some.injEq,Prod.mk.injEq] at H; obtain ⟨rfl,rfl⟩ := H; have p10 : 0 ≤ (0 : Int) := (by omega); have q10 : 0 < a1.size := (by have : (0 : Int) < (a1.size : Int) := zdd; omega); have hx10 : ∀ h : 0 < a1.size,((a1[0]'h).toNat : Int) = bt a1 0 := bt_at a1 0; clear p10; have qi10 : (0 < (a1.size : Int)) = True := eq_true (zdd); replace q10 := eq_true q10; go_wp2_with (first | ((with_reducible refine gate_callee (f := 38) rfl ?_); refine goesL_ (some 17) rfl rfl Tryz.func38 (by kernel_rfl) rfl #[.int .u8 (bt a1 0)] rfl zrr ?_; (with_reducible refine (impl_digit.calls (bt a1 0) t103 _ A11.out).mono ?_); rintro e w' ⟨rfl,⟨nd,rfl⟩⟩; refine ⟨_,rfl,?_⟩) | ((with_reducible refine gate_callee (f := 43) rfl ?_); refine goesL_ (some 18) rfl rfl Tryz.func43 (by kernel_rfl) rfl #[.string a0,.int .i64 t103] rfl zrr ?_; (with_reducible refine (impl_nexts.calls kj2 a0 t103 t104 _ A12.out).mono ?_); rintro e w14 ⟨v105,rfl,ho0,hb⟩; refine ⟨_,rfl,?_⟩; have n0_ := Aside0.mk (Kd.R_lower ho0 (below_size zbw)); have n1_ := Aside0.mk (below_step zbw hb); clear HB; have HO106 := n0_; have HB := n1_; clear n0_ n1_; (try clear hb); (try clear hb2); (try clear hk); (try clear hi); (try clear ho0); obtain ⟨Ao15,co15,eo15⟩ := Kd.R_slice HO106.out; subst eo15) | ((with_reducible refine gate_callee (f := 42) rfl ?_); refine goesL_ (some 19) rfl rfl Tryz.func42 (by kernel_rfl) rfl #[.slice Ao15 t104.length co15] rfl zrr ?_; (with_reducible refine (impl_digitText.calls kj2 _ _ t104 t107 _ ?side1 ?side2 A13.out).mono ?_); (case side1 => repeat (first | exact (Kd.R_reads' HO106.out).2.2 | (with_reducible refine Kd.C_alloc ?_ _) | (with_reducible refine Kd.C_drewN ?_ _) | (with_reducible refine Kd.C_drew ?_))); (case side2 => exact (Kd.R_reads' HO106.out).2.1); rintro e w16 ⟨rfl,hb⟩; refine ⟨_,rfl,?_⟩; have n0_ := Aside0.mk (Kd.R_below (by (with_reducible repeat (first | apply Kd.R_alloc | apply Kd.R_drewN | apply Kd.R_drew)); exact HO106.out) hb); have n1_ := Aside0.mk (below_step zbw hb); clear HO106; clear HB; have HO106 := n0_; have HB := n1_; clear n0_ n1_; (try clear hb); (try clear hb2); (try clear hk); (try clear hi)))
     go_ret2
     exact ⟨zer,zbw⟩
    · rw [if_neg c9] at H; exact absurd H (by simp)

end Go.Proofs.YtffbfkfbeggdnaaGreatDoor.P
-- printed by xprint.py
namespace Go.Proofs.YtffbfkfbeggdnaaGreatDoor.P
open Go.RowKit Go.Proofs.YtffbfkfbeggdnaaGreatDoorW.PrintWords Go.Proofs.YtffbfkfbeggdnaaGreatDoorW.PrintLast Go.Proofs.YtffbfkfbeggdnaaGreatDoorW.PrintMore
attribute [local go_sem] max2_int min2_int max_two min_two max_three min_three max_four min_four
set_option linter.unusedVariables false
set_option linter.unusedSimpArgs false

mutual
def impl_NumberOfRank.j0 : Nat → ByteArray → ByteArray → Int → Int → Bool → Option (ByteArray × Bool)
 | 0,_,_,_,_,_ => none
 | k + 1,x0,x1,x2,x3,x33 => if x33 = true then (some ((⟨#[]⟩ : ByteArray),false)) else (if 0 < (x1.size : Int) then ((impl_digit.f (bt x1 0)).bind fun t104 => (impl_NumberOfRank.l0 k x0 x3 t104 (([t104] : List Int)) (wrap64 (x2 - 1)))) else (none))
def impl_NumberOfRank.l0 : Nat → ByteArray → Int → Int → List Int → Int → Option (ByteArray × Bool)
 | 0,_,_,_,_,_ => none
 | k + 1,x0,x3,x12,x13,x14 => if x14 > 0 then ((impl_numbers.f k x0 x14).bind fun t109 => ((impl_nexts.f k x0 x12).bind fun t112 => (impl_NumberOfRank.l1 k x0 x3 x12 x13 x14 t109 t112 (t112.length : Int) 0))) else ((impl_digitText.f k x13).bind fun t108 => (some (t108,true)))
def impl_NumberOfRank.l1 : Nat → ByteArray → Int → Int → List Int → Int → List Int → List Int → Int → Int → Option (ByteArray × Bool)
 | 0,_,_,_,_,_,_,_,_,_ => none
 | k + 1,x0,x3,x12,x13,x14,x15,x50,x51,x52 => if x52 < x51 then (if 0 ≤ x52 then (if x52 < (x50.length : Int) then (if 0 ≤ (rd x50 x52) then (if (rd x50 x52) < (x15.length : Int) then (if x3 < (rd x15 (rd x50 x52)) then (if x13.length < 17592186044416 then (impl_NumberOfRank.l0 k x0 x3 (rd x50 x52) (x13 ++ [rd x50 x52]) (wrap64 (x14 - 1))) else (none)) else (impl_NumberOfRank.l1 k x0 (wrap64 (x3 - (rd x15 (rd x50 x52)))) x12 x13 x14 x15 x50 x51 (wrap64 (x52 + 1)))) else (none)) else (none)) else (none)) else (none)) else (if x13.length < 17592186044416 then (impl_NumberOfRank.l0 k x0 x3 x12 (x13 ++ [x12]) (wrap64 (x14 - 1))) else (none))
end
def impl_NumberOfRank.f (k : Nat) (a0 : ByteArray) (a1 : ByteArray) (a2 : Int) (a3 : Int) : Option (ByteArray × Bool) := (impl_CountNumbers.f k a0 a1 a2).bind fun bt101 => (if bt101.2 = true then ((impl_in.f a3 0 (wrap64 (bt101.1 - 1))).bind fun t103 => (impl_NumberOfRank.j0 k a0 a1 a2 a3 (!t103))) else (impl_NumberOfRank.j0 k a0 a1 a2 a3 true))
set_option maxHeartbeats 8000000 in
set_option maxRecDepth 100000 in
theorem impl_NumberOfRank.calls (k : Nat) (a0 : ByteArray) (a1 : ByteArray) (a2 : Int) (a3 : Int) (r1 : ByteArray) (r2 : Bool) (w : World) (hml : ∃ m_ : Int,w.cell? ⟨0,0,none⟩ = some (.int .i64 m_)) (h : impl_NumberOfRank.f k a0 a1 a2 a3 = some (r1,r2)) :
  Calls Tryz.prog 15 #[.string a0,.string a1,.int .i64 a2,.int .i64 a3] w fun e w' => e = .returned (.tuple #[.string r1,.bool r2]) ∧ Below w.heap.size w w' := by
 obtain ⟨ml_,hml⟩ := hml; have HML := Aside0.mk hml; clear hml; have HB := Aside0.mk (Below.refl w.heap.size w); have H : ((impl_CountNumbers.f k a0 a1 a2).bind fun bt101 => (if bt101.2 = true then ((impl_in.f a3 0 (wrap64 (bt101.1 - 1))).bind fun t103 => (impl_NumberOfRank.j0 k a0 a1 a2 a3 (!t103))) else (impl_NumberOfRank.j0 k a0 a1 a2 a3 true))) = some (r1,r2) := h; clear h; replace H := Option.bind_eq_some_iff.mp H; obtain ⟨⟨t101,t102⟩,A50,H⟩ := H; replace H : (if t102 = true then ((impl_in.f a3 0 (wrap64 (t101 - 1))).bind fun t103 => (impl_NumberOfRank.j0 k a0 a1 a2 a3 (!t103))) else (impl_NumberOfRank.j0 k a0 a1 a2 a3 true)) = some (r1,r2) := H; have A5 := Aside0.mk A50; clear A50; have HC6 := Aside0.mk H; clear H
 go_enter Tryz.func15,Tryz.ntmps15
 go_upto_region 2 with (first | ((with_reducible refine gate_callee (f := 6) rfl ?_); refine goesL_ (some 22) rfl rfl Tryz.func6 (by kernel_rfl) rfl #[.string a0,.string a1,.int .i64 a2] rfl zrr ?_; (with_reducible refine (impl_CountNumbers.calls k a0 a1 a2 t101 t102 _ zhm A5.out).mono ?_); rintro e w7 ⟨rfl,hb⟩; refine ⟨_,rfl,?_⟩; have n0_ := Aside0.mk (below_step zbw hb); clear HB; have HB := n0_; clear n0_; (try clear hb); (try clear hb2); (try clear hk); (try clear hi)))
 (try simp only [Act.put,List.setIfInBounds_toArray,List.set_cons_zero,List.set_cons_succ])
 go_cut [33] (fun v33 wc => ∃ (kq : Nat) (x33_5 : Bool),v33 = .bool x33_5 ∧ Aside0 (impl_NumberOfRank.j0 kq a0 a1 a2 a3 x33_5 = some (r1,r2)) ∧ Aside0 (kq ≤ k) ∧ Aside0 (Below w.heap.size w wc))
 case first =>
  have H := HC6.out; clear HC6
  by_cases c8 : t102 = true
  ·
   subst c8; have H1 : ((impl_in.f a3 0 (wrap64 (t101 - 1))).bind fun t103 => (impl_NumberOfRank.j0 k a0 a1 a2 a3 (!t103))) = some (r1,r2) := by rw [if_pos rfl] at H; exact H
   clear H; have H := H1; clear H1; replace H := Option.bind_eq_some_iff.mp H; obtain ⟨t103,A90,H⟩ := H; replace H : (impl_NumberOfRank.j0 k a0 a1 a2 a3 (!t103)) = some (r1,r2) := H; have A9 := Aside0.mk A90; clear A90; have H' := Aside0.mk H; clear H; go_wp2_with (first | (go_at_call 48; (with_reducible refine (impl_in.calls a3 0 (wrap64 (t101 - 1)) t103 _ A9.out).mono ?_); rintro e w' ⟨rfl,⟨nd,rfl⟩⟩))
   go_meet
   case rel => exact ⟨_,(!t103),zrs,H',⟨by first | omega | exact Nat.le_refl _⟩,⟨zbw⟩⟩
  ·
   replace c8 := Bool.eq_false_iff.mpr c8; subst c8; have H1 : (impl_NumberOfRank.j0 k a0 a1 a2 a3 true) = some (r1,r2) := by rw [if_neg (show ¬ (false = true) by decide)] at H; exact H
   clear H; have H := H1; clear H1; have H' := Aside0.mk H; clear H; go_wp2
   go_meet
   case rel => exact ⟨_,(true),zrs,H',⟨by first | omega | exact Nat.le_refl _⟩,⟨zbw⟩⟩
 case rest =>
  clear HC6; try clear c1
  try clear p2
  try clear c6
  try clear p6
  try clear c8
  obtain ⟨kq,x33_5,rfl,HA,HJ5,HB⟩ := hcut
  cases kq with
  | zero => exact absurd HA.out (by simp [impl_NumberOfRank.j0])
  | succ kj5 =>
   have H := HA.out; clear HA; simp only [impl_NumberOfRank.j0] at H
   by_cases c10 : x33_5 = true
   ·
    subst c10; have H1 : (some ((⟨#[]⟩ : ByteArray),false)) = some (r1,r2) := by rw [if_pos rfl] at H; exact H
    clear H; have H := H1; clear H1; simp only [Option.some.injEq,Prod.mk.injEq] at H; obtain ⟨rfl,rfl⟩ := H; go_wp2
    go_ret2
    exact ⟨zer,zbw⟩
   ·
    replace c10 := Bool.eq_false_iff.mpr c10; subst c10; have H1 : (if 0 < (a1.size : Int) then ((impl_digit.f (bt a1 0)).bind fun t104 => (impl_NumberOfRank.l0 kj5 a0 a3 t104 (([t104] : List Int)) (wrap64 (a2 - 1)))) else (none)) = some (r1,r2) := by rw [if_neg (show ¬ (false = true) by decide)] at H; exact H
    clear H; have H := H1; clear H1
    by_cases c11 : 0 < (a1.size : Int)
    ·
     rw [if_pos c11] at H; have c11b0 : decide (0 < (a1.size : Int)) = true := decide_eq_true c11; have c11b1 : decide (0 < a1.size) = true := decide_eq_true (by omega); clear c11; replace H := Option.bind_eq_some_iff.mp H; obtain ⟨t104,A130,H⟩ := H; replace H : (impl_NumberOfRank.l0 kj5 a0 a3 t104 (([t104] : List Int)) (wrap64 (a2 - 1))) = some (r1,r2) := H; have A13 := Aside0.mk A130; clear A130; obtain ⟨y105,hy105⟩ : ∃ y_ : List Int,y_ = (([t104] : List Int)) := ⟨_,rfl⟩; replace H : (impl_NumberOfRank.l0 kj5 a0 a3 t104 y105 (wrap64 (a2 - 1))) = some (r1,r2) := by first | (rw [hy105]; with_reducible exact H) | (have H2_ := (Option.bind_some _ _).symm.trans H; rw [hy105]; with_reducible exact H2_) | (have H2_ := (Option.bind_some _ _).symm.trans H; with_reducible exact H2_) | with_reducible exact H | (rw [hy105]; exact H) | exact H
     have Ny105 := Aside0.mk hy105; clear hy105; have H' := Aside0.mk H; clear H; have p12 : 0 ≤ (0 : Int) := (by omega); have q12 : 0 < a1.size := (by have : (0 : Int) < (a1.size : Int) := zdd; omega); have hx12 : ∀ h : 0 < a1.size,((a1[0]'h).toNat : Int) = bt a1 0 := bt_at a1 0; clear p12; have qi12 : (0 < (a1.size : Int)) = True := eq_true (zdd); replace q12 := eq_true q12; go_wp2_with (first | ((with_reducible refine gate_callee (f := 38) rfl ?_); refine goesL_ (some 36) rfl rfl Tryz.func38 (by kernel_rfl) rfl #[.int .u8 (bt a1 0)] rfl zrr ?_; (with_reducible refine (impl_digit.calls (bt a1 0) t104 _ A13.out).mono ?_); rintro e w' ⟨rfl,⟨nd,rfl⟩⟩; refine ⟨_,rfl,?_⟩) | ((with_reducible refine gate_dst (N := 38) rfl ?_); refine Kd.R_lit (Kd.int .i64) _ 3 ?hg (N := 38) ?hd (xs := ([t104] : List Int)) (inner := [.int .i64 t104]) (ok := fun _ => True) (okp := fun _ => True) ?hr ?hp (fun _ hk => hk) trivial (Below.refl _ _) (Nat.le_refl _) (by simp) ?_; (case hd => rfl); (case hg => rfl); (case hr => first | (go_simp; done) | (go_simp; rfl)); (case hp => exact (Reps.one (show Kd.M (Kd.int .i64) _ _ _ t104 [.int .i64 t104] from rfl) (Reps.none _ _))); intro v106 w14 ho15 hb hg_ hnew_; clear hg_ hnew_; (first | rw [← Ny105.out] at ho15 | (simp only [Int.reduceToNat] at ho15; rw [← Ny105.out] at ho15)); have n0_ := Aside0.mk (Kd.R_lower ho15 (below_size zbw)); have n1_ := Aside0.mk (below_step zbw hb); clear HB; have HO107 := n0_; have HB := n1_; clear n0_ n1_; clear hb ho15))
     go_loopg [3,12,13,14] kj5 (fun kq v3 v12 v13 v14 w' => ∃ (x3_2 : Int) (x12_2 : Int) (x13_2 : List Int) (x14_2 : Int),v3 = .int .i64 x3_2 ∧ v12 = .int .i64 x12_2 ∧ v14 = .int .i64 x14_2 ∧ Aside0 (impl_NumberOfRank.l0 kq a0 x3_2 x12_2 x13_2 x14_2 = some (r1,r2)) ∧ Aside0 (kq ≤ kj5) ∧ Aside0 (Kd.R (Kd.int .i64) 3 w' w.heap.size (fun _ => True) v13 x13_2) ∧ Aside0 (Below w.heap.size w w'))
     case atStart => exact ⟨(a3),(t104),(y105),(wrap64 (a2 - 1)),zrs,zrs,zrs,H',⟨Nat.le_refl _⟩,⟨by (with_reducible repeat (first | apply Kd.R_alloc | apply Kd.R_drewN | apply Kd.R_drew)); exact HO107.out⟩,⟨zbw⟩⟩
     case round =>
      clear H'; try clear c1
      try clear p1
      try clear q1
      try clear hx1
      try clear qi1
      try clear p2
      try clear c3
      try clear c6
      try clear p6
      try clear c8
      try clear c10
      try clear c11
      try clear c11b0
      try clear c11b1
      try clear p12
      try clear q12
      try clear hx12
      try clear qi12
      try clear c15
      try clear p12
      try clear p2
      try clear p6
      try clear q12
      obtain ⟨x3_2,x12_2,x13_2,x14_2,rfl,rfl,rfl,HA,HK2,HO_13,HB⟩ := hrel
      cases gk with
      | zero => exact absurd HA.out (by simp [impl_NumberOfRank.l0])
      | succ k2 =>
       have H := HA.out; clear HA; simp only [impl_NumberOfRank.l0] at H
       by_cases c16 : x14_2 > 0
       ·
        rw [if_pos c16] at H; have c16b0 : decide (0 < x14_2) = true := decide_eq_true c16; clear c16; replace H := Option.bind_eq_some_iff.mp H; obtain ⟨t109,A170,H⟩ := H; replace H : ((impl_nexts.f k2 a0 x12_2).bind fun t112 => (impl_NumberOfRank.l1 k2 a0 x3_2 x12_2 x13_2 x14_2 t109 t112 (t112.length : Int) 0)) = some (r1,r2) := H; have A17 := Aside0.mk A170; clear A170; replace H := Option.bind_eq_some_iff.mp H; obtain ⟨t112,A180,H⟩ := H; replace H : (impl_NumberOfRank.l1 k2 a0 x3_2 x12_2 x13_2 x14_2 t109 t112 (t112.length : Int) 0) = some (r1,r2) := H; have A18 := Aside0.mk A180; clear A180; have H' := Aside0.mk H; clear H; go_wp2_with (first | ((with_reducible refine gate_callee (f := 37) rfl ?_); refine goesL_ (some 47) rfl rfl Tryz.func37 (by kernel_rfl) rfl #[.string a0,.int .i64 x14_2] rfl zrr ?_; (with_reducible refine (impl_numbers.calls k2 a0 x14_2 t109 _ A17.out).mono ?_); rintro e w19 ⟨v110,rfl,ho0,hb⟩; refine ⟨_,rfl,?_⟩; have n0_ := Aside0.mk (Kd.R_elder' (by (with_reducible repeat (first | apply Kd.R_alloc | apply Kd.R_drewN | apply Kd.R_drew)); exact HO_13.out) (Kd.R_base ho0) hb); have n1_ := Aside0.mk (Kd.R_lower (Kd.R_new' ho0 (Kd.R_lt (by (with_reducible repeat (first | apply Kd.R_alloc | apply Kd.R_drewN | apply Kd.R_drew)); exact HO_13.out))) (below_size zbw)); have n2_ := Aside0.mk (below_step zbw hb); clear HO_13; clear HB; have HO_13 := n0_; have HO111 := n1_; have HB := n2_; clear n0_ n1_ n2_; (try clear hb); (try clear hb2); (try clear hk); (try clear hi); (try clear ho0)) | ((with_reducible refine gate_callee (f := 43) rfl ?_); refine goesL_ (some 50) rfl rfl Tryz.func43 (by kernel_rfl) rfl #[.string a0,.int .i64 x12_2] rfl zrr ?_; (with_reducible refine (impl_nexts.calls k2 a0 x12_2 t112 _ A18.out).mono ?_); rintro e w20 ⟨v113,rfl,ho0,hb⟩; refine ⟨_,rfl,?_⟩; have n0_ := Aside0.mk (Kd.R_elder' (by (with_reducible repeat (first | apply Kd.R_alloc | apply Kd.R_drewN | apply Kd.R_drew)); exact HO_13.out) (Kd.R_base ho0) hb); have n1_ := Aside0.mk (Kd.R_elder' (by (with_reducible repeat (first | apply Kd.R_alloc | apply Kd.R_drewN | apply Kd.R_drew)); exact HO111.out) (Kd.R_base ho0) hb); have n2_ := Aside0.mk (Kd.R_lower (Kd.R_new' (Kd.R_new' ho0 (Kd.R_lt (by (with_reducible repeat (first | apply Kd.R_alloc | apply Kd.R_drewN | apply Kd.R_drew)); exact HO_13.out))) (Kd.R_lt (by (with_reducible repeat (first | apply Kd.R_alloc | apply Kd.R_drewN | apply Kd.R_drew)); exact HO111.out))) (below_size zbw)); have n3_ := Aside0.mk (below_step zbw hb); clear HO_13; clear HO111; clear HB; have HO_13 := n0_; have HO111 := n1_; have HO114 := n2_; have HB := n3_; clear n0_ n1_ n2_ n3_; (try clear hb); (try clear hb2); (try clear hk); (try clear hi); (try clear ho0); obtain ⟨Ao21,co21,eo21⟩ := Kd.R_slice HO114.out; subst eo21))
        go_loopg [3,12,52] k2 (fun kq v3 v12 v52 w' => ∃ (x3_3 : Int) (x12_3 : Int) (x52_3 : Int),v3 = .int .i64 x3_3 ∧ v12 = .int .i64 x12_3 ∧ v52 = .int .i64 x52_3 ∧ Aside0 (impl_NumberOfRank.l1 kq a0 x3_3 x12_3 x13_2 x14_2 t109 t112 (t112.length : Int) x52_3 = some (r1,r2)) ∧ Aside0 (kq ≤ k2) ∧ Aside0 (Kd.R (Kd.int .i64) 3 w' w.heap.size (fun k_ => some k_ ≠ (v110 : Value).ownBlock ∧ some k_ ≠ ((.slice Ao21 t112.length co21) : Value).ownBlock) u13 x13_2) ∧ Aside0 (Kd.R (Kd.int .i64) 3 w' w.heap.size (fun k_ => some k_ ≠ (u13 : Value).ownBlock ∧ some k_ ≠ ((.slice Ao21 t112.length co21) : Value).ownBlock) v110 t109) ∧ Aside0 (Kd.R (Kd.int .i64) 3 w' w.heap.size (fun k_ => some k_ ≠ (u13 : Value).ownBlock ∧ some k_ ≠ (v110 : Value).ownBlock) (.slice Ao21 t112.length co21) t112) ∧ Aside0 (Below w.heap.size w w'))
        case atStart => exact ⟨(x3_2),(x12_2),(0),zrs,zrs,zrs,H',⟨Nat.le_refl _⟩,⟨by (with_reducible repeat (first | apply Kd.R_alloc | apply Kd.R_drewN | apply Kd.R_drew)); exact Kd.R_mono HO_13.out (fun _ hk => ⟨hk.1.2,hk.2⟩)⟩,⟨by (with_reducible repeat (first | apply Kd.R_alloc | apply Kd.R_drewN | apply Kd.R_drew)); exact Kd.R_mono HO111.out (fun _ hk => ⟨hk.1.2,hk.2⟩)⟩,⟨by (with_reducible repeat (first | apply Kd.R_alloc | apply Kd.R_drewN | apply Kd.R_drew)); exact Kd.R_mono HO114.out (fun _ hk => ⟨hk.1.2,hk.2⟩)⟩,⟨zbw⟩⟩
        case round =>
         clear H'; try clear c1
         try clear p1
         try clear q1
         try clear hx1
         try clear qi1
         try clear p2
         try clear c3
         try clear c4
         try clear c6
         try clear p6
         try clear c8
         try clear c10
         try clear c11
         try clear c11b0
         try clear c11b1
         try clear p12
         try clear q12
         try clear hx12
         try clear qi12
         try clear c15
         try clear c16
         try clear c16b0
         try clear p1
         try clear p12
         try clear p2
         try clear p6
         try clear q1
         try clear q12
         obtain ⟨x3_3,x12_3,x52_3,rfl,rfl,rfl,HA,HK3,HO_13,HO_15,HO_50,HB⟩ := hrel
         cases gk with
         | zero => exact absurd HA.out (by simp [impl_NumberOfRank.l1])
         | succ k3 =>
          have H := HA.out; clear HA; simp only [impl_NumberOfRank.l1] at H
          by_cases c22 : x52_3 < (t112.length : Int)
          ·
           rw [if_pos c22] at H; have c22b0 : decide (x52_3 < (t112.length : Int)) = true := decide_eq_true c22; clear c22
           by_cases c23 : 0 ≤ x52_3
           ·
            rw [if_pos c23] at H; have c23b0 : decide (0 ≤ x52_3) = true := decide_eq_true c23; clear c23
            by_cases c24 : x52_3 < (t112.length : Int)
            ·
             rw [if_pos c24] at H; have c24b0 : decide (x52_3 < (t112.length : Int)) = true := decide_eq_true c24; clear c24
             by_cases c25 : 0 ≤ (rd t112 x52_3)
             ·
              rw [if_pos c25] at H; have c25b0 : decide (0 ≤ (rd t112 x52_3)) = true := decide_eq_true c25; clear c25
              by_cases c26 : (rd t112 x52_3) < (t109.length : Int)
              ·
               rw [if_pos c26] at H; have c26b0 : decide ((rd t112 x52_3) < (t109.length : Int)) = true := decide_eq_true c26; clear c26
               by_cases c27 : x3_3 < (rd t109 (rd t112 x52_3))
               ·
                rw [if_pos c27] at H; have c27b0 : decide (x3_3 < (rd t109 (rd t112 x52_3))) = true := decide_eq_true c27; clear c27
                by_cases c28 : x13_2.length < 17592186044416
                ·
                 rw [if_pos c28] at H; have LMc28 := Aside0.mk c28; clear c28; obtain ⟨y117,hy117⟩ : ∃ y_ : List Int,y_ = (x13_2 ++ [rd t112 x52_3]) := ⟨_,rfl⟩; replace H : (impl_NumberOfRank.l0 k3 a0 x3_3 (rd t112 x52_3) y117 (wrap64 (x14_2 - 1))) = some (r1,r2) := by first | (rw [hy117]; with_reducible exact H) | (have H2_ := (Option.bind_some _ _).symm.trans H; rw [hy117]; with_reducible exact H2_) | (have H2_ := (Option.bind_some _ _).symm.trans H; with_reducible exact H2_) | with_reducible exact H | (rw [hy117]; exact H) | exact H
                 have Ny117 := Aside0.mk hy117; clear hy117; have H' := Aside0.mk H; clear H; have p115 : 0 ≤ (x52_3 : Int) := zdd; have q115 : x52_3 < (t112.length : Int) := zdd; obtain ⟨ad115,e115,hx115_0⟩ := Kd.at_int (Kd.R_reads' HO_50.out).2.2 x52_3 p115 q115
                 cases e115
                 replace p115 := eq_true p115; replace q115 := eq_true q115; obtain ⟨Ao29,co29,eo29⟩ := Kd.R_slice HO_15.out; subst eo29; have p116 : 0 ≤ ((rd t112 x52_3) : Int) := zdd; have q116 : (rd t112 x52_3) < (t109.length : Int) := zdd; obtain ⟨ad116,e116,hx116_0⟩ := Kd.at_int (Kd.R_reads' HO_15.out).2.2 (rd t112 x52_3) p116 q116
                 cases e116
                 replace p116 := eq_true p116; replace q116 := eq_true q116; go_wp2_with (first | ((with_reducible refine gate_builtin (b := .append) (xs := #[.tmp 70,.tmp 72]) rfl ?_); at_builtin; refine Kd.R_append (Kd.int .i64) (w0 := w) w.heap.size rfl (.tmp 70) (.tmp 72) 53 3 (.int .i64 0) 8 rfl Tryz.underlying53 info3 rfl (by decide) (by omega) u13 x13_2 (rd t112 x52_3) [.int .i64 (rd t112 x52_3)] (fun k_ => some k_ ≠ (.slice (some ad116) t109.length co29 : Value).ownBlock ∧ some k_ ≠ (.slice (some ad115) t112.length co21 : Value).ownBlock) (fun _ => False) rfl rfl ?aP (fun _ hk => hk.elim) ?aF ?aO ?aB ?aS ?aL ?_; (case aP => exact rfl); (case aB => exact zbw); (case aF => exact (fun k_ hk => ⟨Kd.fresh' (Kd.R_lt (by (with_reducible repeat (first | apply Kd.R_alloc | apply Kd.R_drewN | apply Kd.R_drew)); exact HO_15.out)) k_ hk,Kd.fresh' (Kd.R_lt (by (with_reducible repeat (first | apply Kd.R_alloc | apply Kd.R_drewN | apply Kd.R_drew)); exact HO_50.out)) k_ hk⟩)); (case aO => exact (by (with_reducible repeat (first | apply Kd.R_alloc | apply Kd.R_drewN | apply Kd.R_drew)); exact HO_13.out)); (case aS => exact (below_size zbw)); (case aL => have := LMc28.out; omega); intro v118 w30 ho hb hg hat; rw [← Ny117.out] at ho; have n0_ := Aside0.mk (Kd.R_after (ok := (fun k_ => some k_ ≠ (.slice (some ad115) t112.length co21 : Value).ownBlock)) (by (with_reducible repeat (first | apply Kd.R_alloc | apply Kd.R_drewN | apply Kd.R_drew)); exact Kd.R_mono HO_15.out (fun _ hk => ⟨hk.2,hk.1⟩)) hg hat); have n1_ := Aside0.mk (Kd.R_after (ok := (fun k_ => some k_ ≠ (.slice (some ad116) t109.length co29 : Value).ownBlock)) (by (with_reducible repeat (first | apply Kd.R_alloc | apply Kd.R_drewN | apply Kd.R_drew)); exact Kd.R_mono HO_50.out (fun _ hk => ⟨hk.2,hk.1⟩)) hg hat); have n2_ := Aside0.mk (hb); have n3_ := Aside0.mk (ho); clear HO_15; clear HO_50; clear HB; clear HO_13; have HO_15 := n0_; have HO_50 := n1_; have HB := n2_; have HO119 := n3_; clear n0_ n1_ n2_ n3_; clear ho hb hg hat))
                 go_roundg k3
                 case measure => have := HJ5.out; have := HK2.out; have := HK3.out; omega
                 case rel => exact ⟨(x3_3),(rd t112 x52_3),(y117),(wrap64 (x14_2 - 1)),zrs,zrs,zrs,H',⟨by have := HJ5.out; have := HK2.out; have := HK3.out; omega⟩,⟨by (with_reducible repeat (first | apply Kd.R_alloc | apply Kd.R_drewN | apply Kd.R_drew)); exact Kd.R_mono HO119.out (fun _ hk => trivial)⟩,⟨zbw⟩⟩
                · rw [if_neg c28] at H; exact absurd H (by simp)
               ·
                rw [if_neg c27] at H; have c27b0 : decide (x3_3 < (rd t109 (rd t112 x52_3))) = false := decide_eq_false c27; clear c27; have H' := Aside0.mk H; clear H; have p115 : 0 ≤ (x52_3 : Int) := zdd; have q115 : x52_3 < (t112.length : Int) := zdd; obtain ⟨ad115,e115,hx115_0⟩ := Kd.at_int (Kd.R_reads' HO_50.out).2.2 x52_3 p115 q115
                cases e115
                replace p115 := eq_true p115; replace q115 := eq_true q115; obtain ⟨Ao31,co31,eo31⟩ := Kd.R_slice HO_15.out; subst eo31; have p116 : 0 ≤ ((rd t112 x52_3) : Int) := zdd; have q116 : (rd t112 x52_3) < (t109.length : Int) := zdd; obtain ⟨ad116,e116,hx116_0⟩ := Kd.at_int (Kd.R_reads' HO_15.out).2.2 (rd t112 x52_3) p116 q116
                cases e116
                replace p116 := eq_true p116; replace q116 := eq_true q116; have p120 : 0 ≤ ((rd t112 x52_3) : Int) := zdd; have q120 : (rd t112 x52_3) < (t109.length : Int) := zdd; obtain ⟨ad120,e120,hx120_0⟩ := Kd.at_int (Kd.R_reads' HO_15.out).2.2 (rd t112 x52_3) p120 q120; obtain rfl : ad116 = ad120 := (by injection e120); replace p120 := eq_true p120; replace q120 := eq_true q120; go_wp2
                go_roundg k3
                case measure => have := HJ5.out; have := HK2.out; have := HK3.out; omega
                case rel => exact ⟨(wrap64 (x3_3 - (rd t109 (rd t112 x52_3)))),(x12_3),(wrap64 (x52_3 + 1)),zrs,zrs,zrs,H',⟨by have := HJ5.out; have := HK2.out; have := HK3.out; omega⟩,⟨by (with_reducible repeat (first | apply Kd.R_alloc | apply Kd.R_drewN | apply Kd.R_drew)); exact HO_13.out⟩,⟨by (with_reducible repeat (first | apply Kd.R_alloc | apply Kd.R_drewN | apply Kd.R_drew)); exact HO_15.out⟩,⟨by (with_reducible repeat (first | apply Kd.R_alloc | apply Kd.R_drewN | apply Kd.R_drew)); exact HO_50.out⟩,⟨zbw⟩⟩
              · rw [if_neg c26] at H; exact absurd H (by simp)
             · rw [if_neg c25] at H; exact absurd H (by simp)
            · rw [if_neg c24] at H; exact absurd H (by simp)
           · rw [if_neg c23] at H; exact absurd H (by simp)
          ·
           rw [if_neg c22] at H; have c22b0 : decide (x52_3 < (t112.length : Int)) = false := decide_eq_false c22; clear c22
           by_cases c32 : x13_2.length < 17592186044416
           ·
            rw [if_pos c32] at H; have LMc32 := Aside0.mk c32; clear c32; obtain ⟨y121,hy121⟩ : ∃ y_ : List Int,y_ = (x13_2 ++ [x12_3]) := ⟨_,rfl⟩; replace H : (impl_NumberOfRank.l0 k3 a0 x3_3 x12_3 y121 (wrap64 (x14_2 - 1))) = some (r1,r2) := by first | (rw [hy121]; with_reducible exact H) | (have H2_ := (Option.bind_some _ _).symm.trans H; rw [hy121]; with_reducible exact H2_) | (have H2_ := (Option.bind_some _ _).symm.trans H; with_reducible exact H2_) | with_reducible exact H | (rw [hy121]; exact H) | exact H
            have Ny121 := Aside0.mk hy121; clear hy121; have H' := Aside0.mk H; clear H; go_wp2_with (first | ((with_reducible refine gate_builtin (b := .append) (xs := #[.tmp 70,.tmp 72]) rfl ?_); at_builtin; refine Kd.R_append (Kd.int .i64) (w0 := w) w.heap.size rfl (.tmp 70) (.tmp 72) 53 3 (.int .i64 0) 8 rfl Tryz.underlying53 info3 rfl (by decide) (by omega) u13 x13_2 x12_3 [.int .i64 x12_3] (fun k_ => some k_ ≠ (v110 : Value).ownBlock ∧ some k_ ≠ (.slice Ao21 t112.length co21 : Value).ownBlock) (fun _ => False) rfl rfl ?aP (fun _ hk => hk.elim) ?aF ?aO ?aB ?aS ?aL ?_; (case aP => exact rfl); (case aB => exact zbw); (case aF => exact (fun k_ hk => ⟨Kd.fresh' (Kd.R_lt (by (with_reducible repeat (first | apply Kd.R_alloc | apply Kd.R_drewN | apply Kd.R_drew)); exact HO_15.out)) k_ hk,Kd.fresh' (Kd.R_lt (by (with_reducible repeat (first | apply Kd.R_alloc | apply Kd.R_drewN | apply Kd.R_drew)); exact HO_50.out)) k_ hk⟩)); (case aO => exact (by (with_reducible repeat (first | apply Kd.R_alloc | apply Kd.R_drewN | apply Kd.R_drew)); exact HO_13.out)); (case aS => exact (below_size zbw)); (case aL => have := LMc32.out; omega); intro v122 w33 ho hb hg hat; rw [← Ny121.out] at ho; have n0_ := Aside0.mk (Kd.R_after (ok := (fun k_ => some k_ ≠ (.slice Ao21 t112.length co21 : Value).ownBlock)) (by (with_reducible repeat (first | apply Kd.R_alloc | apply Kd.R_drewN | apply Kd.R_drew)); exact Kd.R_mono HO_15.out (fun _ hk => ⟨hk.2,hk.1⟩)) hg hat); have n1_ := Aside0.mk (Kd.R_after (ok := (fun k_ => some k_ ≠ (v110 : Value).ownBlock)) (by (with_reducible repeat (first | apply Kd.R_alloc | apply Kd.R_drewN | apply Kd.R_drew)); exact Kd.R_mono HO_50.out (fun _ hk => ⟨hk.2,hk.1⟩)) hg hat); have n2_ := Aside0.mk (hb); have n3_ := Aside0.mk (ho); clear HO_15; clear HO_50; clear HB; clear HO_13; have HO_15 := n0_; have HO_50 := n1_; have HB := n2_; have HO123 := n3_; clear n0_ n1_ n2_ n3_; clear ho hb hg hat))
            go_roundg k3
            case measure => have := HJ5.out; have := HK2.out; have := HK3.out; omega
            case rel => exact ⟨(x3_3),(x12_3),(y121),(wrap64 (x14_2 - 1)),zrs,zrs,zrs,H',⟨by have := HJ5.out; have := HK2.out; have := HK3.out; omega⟩,⟨by (with_reducible repeat (first | apply Kd.R_alloc | apply Kd.R_drewN | apply Kd.R_drew)); exact Kd.R_mono HO123.out (fun _ hk => trivial)⟩,⟨zbw⟩⟩
           · rw [if_neg c32] at H; exact absurd H (by simp)
       ·
        rw [if_neg c16] at H; have c16b0 : decide (0 < x14_2) = false := decide_eq_false c16; clear c16; replace H := Option.bind_eq_some_iff.mp H; obtain ⟨t108,A340,H⟩ := H; replace H : (some (t108,true)) = some (r1,r2) := H; have A34 := Aside0.mk A340; clear A340; simp only [Option.some.injEq,Prod.mk.injEq] at H; obtain ⟨rfl,rfl⟩ := H; obtain ⟨Ao35,co35,eo35⟩ := Kd.R_slice HO_13.out; subst eo35; go_wp2_with (first | ((with_reducible refine gate_callee (f := 42) rfl ?_); refine goesL_ (some 75) rfl rfl Tryz.func42 (by kernel_rfl) rfl #[.slice Ao35 x13_2.length co35] rfl zrr ?_; (with_reducible refine (impl_digitText.calls k2 _ _ x13_2 t108 _ ?side1 ?side2 A34.out).mono ?_); (case side1 => repeat (first | exact (Kd.R_reads' HO_13.out).2.2 | (with_reducible refine Kd.C_alloc ?_ _) | (with_reducible refine Kd.C_drewN ?_ _) | (with_reducible refine Kd.C_drew ?_))); (case side2 => exact (Kd.R_reads' HO_13.out).2.1); rintro e w36 ⟨rfl,hb⟩; refine ⟨_,rfl,?_⟩; have n0_ := Aside0.mk (Kd.R_below (by (with_reducible repeat (first | apply Kd.R_alloc | apply Kd.R_drewN | apply Kd.R_drew)); exact HO_13.out) hb); have n1_ := Aside0.mk (below_step zbw hb); clear HO_13; clear HB; have HO_13 := n0_; have HB := n1_; clear n0_ n1_; (try clear hb); (try clear hb2); (try clear hk); (try clear hi)))
        go_ret2
        exact ⟨zer,zbw⟩
    · rw [if_neg c11] at H; exact absurd H (by simp)

end Go.Proofs.YtffbfkfbeggdnaaGreatDoor.P
-- printed by xprint.py
namespace Go.Proofs.YtffbfkfbeggdnaaGreatDoor.P
open Go.RowKit Go.Proofs.YtffbfkfbeggdnaaGreatDoorW.PrintWords Go.Proofs.YtffbfkfbeggdnaaGreatDoorW.PrintLast Go.Proofs.YtffbfkfbeggdnaaGreatDoorW.PrintMore
attribute [local go_sem] max2_int min2_int max_two min_two max_three min_three max_four min_four
set_option linter.unusedVariables false
set_option linter.unusedSimpArgs false

mutual
def impl_RankOfNumber.j0 : Nat → ByteArray → ByteArray → Bool → Option (Int × Bool)
 | 0,_,_,_ => none
 | k + 1,x0,x1,x21 => if x21 = true then (some (0,false)) else (if 0 ≤ 1 then (if 1 ≤ (x1.size : Int) then ((impl_CountNumbers.f k x0 (x1.extract 0 1) (x1.size : Int)).bind fun bt103 => (if bt103.2 = true then (impl_RankOfNumber.l0 k x0 x1 0 1) else (some (0,false)))) else (none)) else (none))
def impl_RankOfNumber.l0 : Nat → ByteArray → ByteArray → Int → Int → Option (Int × Bool)
 | 0,_,_,_,_ => none
 | k + 1,x0,x1,x8,x9 => if x9 < (x1.size : Int) then ((impl_numbers.f k x0 (wrap64 ((x1.size : Int) - x9))).bind fun t105 => (if 0 ≤ (wrap64 (x9 - 1)) then (if (wrap64 (x9 - 1)) < (x1.size : Int) then ((impl_digit.f (bt x1 (wrap64 (x9 - 1)))).bind fun t108 => ((impl_nexts.f k x0 t108).bind fun t109 => (impl_RankOfNumber.l1 k x0 x1 x8 x9 t105 t109 (t109.length : Int) 0))) else (none)) else (none))) else (some (x8,true))
def impl_RankOfNumber.l1 : Nat → ByteArray → ByteArray → Int → Int → List Int → List Int → Int → Int → Option (Int × Bool)
 | 0,_,_,_,_,_,_,_,_ => none
 | k + 1,x0,x1,x8,x9,x10,x51,x52,x53 => if x53 < x52 then (if 0 ≤ x53 then (if x53 < (x51.length : Int) then (if 0 ≤ x9 then (if x9 < (x1.size : Int) then ((impl_digit.f (bt x1 x9)).bind fun t113 => (if (rd x51 x53) < t113 then (if 0 ≤ (rd x51 x53) then (if (rd x51 x53) < (x10.length : Int) then (impl_RankOfNumber.l1 k x0 x1 (wrap64 (x8 + (rd x10 (rd x51 x53)))) x9 x10 x51 x52 (wrap64 (x53 + 1))) else (none)) else (none)) else (impl_RankOfNumber.l1 k x0 x1 x8 x9 x10 x51 x52 (wrap64 (x53 + 1))))) else (none)) else (none)) else (none)) else (none)) else (impl_RankOfNumber.l0 k x0 x1 x8 (wrap64 (x9 + 1)))
end
def impl_RankOfNumber.f (k : Nat) (a0 : ByteArray) (a1 : ByteArray) : Option (Int × Bool) := (impl_isPiece.f a0).bind fun t101 => (if t101 = true then ((impl_isWalk.f k a0 a1).bind fun t102 => (impl_RankOfNumber.j0 k a0 a1 (!t102))) else (impl_RankOfNumber.j0 k a0 a1 true))
set_option maxHeartbeats 8000000 in
set_option maxRecDepth 100000 in
theorem impl_RankOfNumber.calls (k : Nat) (a0 : ByteArray) (a1 : ByteArray) (r1 : Int) (r2 : Bool) (w : World) (hml : ∃ m_ : Int,w.cell? ⟨0,0,none⟩ = some (.int .i64 m_)) (h : impl_RankOfNumber.f k a0 a1 = some (r1,r2)) :
  Calls Tryz.prog 18 #[.string a0,.string a1] w fun e w' => e = .returned (.tuple #[.int .i64 r1,.bool r2]) ∧ Below w.heap.size w w' := by
 obtain ⟨ml_,hml⟩ := hml; have HML := Aside0.mk hml; clear hml; have HB := Aside0.mk (Below.refl w.heap.size w); have H : ((impl_isPiece.f a0).bind fun t101 => (if t101 = true then ((impl_isWalk.f k a0 a1).bind fun t102 => (impl_RankOfNumber.j0 k a0 a1 (!t102))) else (impl_RankOfNumber.j0 k a0 a1 true))) = some (r1,r2) := h; clear h; have HC3 := Aside0.mk H; clear H
 go_enter Tryz.func18,Tryz.ntmps18
 go_upto_region 1 with (fail)
 go_cut [21] (fun v21 wc => ∃ (kq : Nat) (x21_2 : Bool),v21 = .bool x21_2 ∧ Aside0 (impl_RankOfNumber.j0 kq a0 a1 x21_2 = some (r1,r2)) ∧ Aside0 (kq ≤ k) ∧ Aside0 (Below w.heap.size w wc))
 case first =>
  have H := HC3.out; clear HC3; replace H := Option.bind_eq_some_iff.mp H; obtain ⟨t101,A40,H⟩ := H; replace H : (if t101 = true then ((impl_isWalk.f k a0 a1).bind fun t102 => (impl_RankOfNumber.j0 k a0 a1 (!t102))) else (impl_RankOfNumber.j0 k a0 a1 true)) = some (r1,r2) := H; have A4 := Aside0.mk A40; clear A40
  by_cases c5 : t101 = true
  ·
   subst c5; have H1 : ((impl_isWalk.f k a0 a1).bind fun t102 => (impl_RankOfNumber.j0 k a0 a1 (!t102))) = some (r1,r2) := by rw [if_pos rfl] at H; exact H
   clear H; have H := H1; clear H1; replace H := Option.bind_eq_some_iff.mp H; obtain ⟨t102,A60,H⟩ := H; replace H : (impl_RankOfNumber.j0 k a0 a1 (!t102)) = some (r1,r2) := H; have A6 := Aside0.mk A60; clear A60; have H' := Aside0.mk H; clear H; go_wp2_with (first | ((with_reducible refine gate_callee (f := 33) rfl ?_); refine goesL_ (some 14) rfl rfl Tryz.func33 (by kernel_rfl) rfl #[.string a0] rfl zrr ?_; (with_reducible refine (impl_isPiece.calls a0 true _ zhm A4.out).mono ?_); rintro e w' ⟨rfl,⟨nd,rfl⟩⟩; refine ⟨_,rfl,?_⟩) | (go_at_call 52; (with_reducible refine (impl_isWalk.calls k a0 a1 t102 _ A6.out).mono ?_); rintro e w7 ⟨rfl,hb⟩; have n0_ := Aside0.mk (below_step zbw hb); clear HB; have HB := n0_; clear n0_; (try clear hb); (try clear hb2); (try clear hk); (try clear hi)))
   go_meet
   case rel => exact ⟨_,(!t102),zrs,H',⟨by first | omega | exact Nat.le_refl _⟩,⟨zbw⟩⟩
  ·
   replace c5 := Bool.eq_false_iff.mpr c5; subst c5; have H1 : (impl_RankOfNumber.j0 k a0 a1 true) = some (r1,r2) := by rw [if_neg (show ¬ (false = true) by decide)] at H; exact H
   clear H; have H := H1; clear H1; have H' := Aside0.mk H; clear H; go_wp2_with (first | ((with_reducible refine gate_callee (f := 33) rfl ?_); refine goesL_ (some 14) rfl rfl Tryz.func33 (by kernel_rfl) rfl #[.string a0] rfl zrr ?_; (with_reducible refine (impl_isPiece.calls a0 false _ zhm A4.out).mono ?_); rintro e w' ⟨rfl,⟨nd,rfl⟩⟩; refine ⟨_,rfl,?_⟩))
   go_meet
   case rel => exact ⟨_,(true),zrs,H',⟨by first | omega | exact Nat.le_refl _⟩,⟨zbw⟩⟩
 case rest =>
  clear HC3; try clear c1
  try clear p2
  try clear c3
  try clear c5
  obtain ⟨kq,x21_2,rfl,HA,HJ2,HB⟩ := hcut
  cases kq with
  | zero => exact absurd HA.out (by simp [impl_RankOfNumber.j0])
  | succ kj2 =>
   have H := HA.out; clear HA; simp only [impl_RankOfNumber.j0] at H
   by_cases c8 : x21_2 = true
   ·
    subst c8; have H1 : (some (0,false)) = some (r1,r2) := by rw [if_pos rfl] at H; exact H
    clear H; have H := H1; clear H1; simp only [Option.some.injEq,Prod.mk.injEq] at H; obtain ⟨rfl,rfl⟩ := H; go_wp2
    go_ret2
    exact ⟨zer,zbw⟩
   ·
    replace c8 := Bool.eq_false_iff.mpr c8; subst c8; have H1 : (if 0 ≤ 1 then (if 1 ≤ (a1.size : Int) then ((impl_CountNumbers.f kj2 a0 (a1.extract 0 1) (a1.size : Int)).bind fun bt103 => (if bt103.2 = true then (impl_RankOfNumber.l0 kj2 a0 a1 0 1) else (some (0,false)))) else (none)) else (none)) = some (r1,r2) := by rw [if_neg (show ¬ (false = true) by decide)] at H; exact H
    clear H; have H := H1; clear H1
    by_cases c9 : 0 ≤ 1
    ·
     rw [if_pos c9] at H; have c9b0 := eq_true c9; have c9b1 : decide (0 ≤ 1) = true := decide_eq_true c9; clear c9
     by_cases c10 : 1 ≤ (a1.size : Int)
     ·
      rw [if_pos c10] at H; have c10b0 := eq_true c10; have c10b1 : decide (1 ≤ (a1.size : Int)) = true := decide_eq_true c10; clear c10; replace H := Option.bind_eq_some_iff.mp H; obtain ⟨⟨t103,t104⟩,A110,H⟩ := H; replace H : (if t104 = true then (impl_RankOfNumber.l0 kj2 a0 a1 0 1) else (some (0,false))) = some (r1,r2) := H; have A11 := Aside0.mk A110; clear A110
      by_cases c12 : t104 = true
      ·
       subst c12; have H1 : (impl_RankOfNumber.l0 kj2 a0 a1 0 1) = some (r1,r2) := by rw [if_pos rfl] at H; exact H
       clear H; have H := H1; clear H1; have H' := Aside0.mk H; clear H; go_wp2_with (first | ((with_reducible refine gate_callee (f := 6) rfl ?_); refine goesL_ (some 28) rfl rfl Tryz.func6 (by kernel_rfl) rfl #[.string a0,.string (a1.extract 0 1),.int .i64 (a1.size : Int)] rfl zrr ?_; (with_reducible refine (impl_CountNumbers.calls kj2 a0 (a1.extract 0 1) (a1.size : Int) t103 true _ zhm A11.out).mono ?_); rintro e w13 ⟨rfl,hb⟩; refine ⟨_,rfl,?_⟩; have n0_ := Aside0.mk (below_step zbw hb); clear HB; have HB := n0_; clear n0_; (try clear hb); (try clear hb2); (try clear hk); (try clear hi)))
       go_loopg [8,9] kj2 (fun kq v8 v9 w' => ∃ (x8_2 : Int) (x9_2 : Int),v8 = .int .i64 x8_2 ∧ v9 = .int .i64 x9_2 ∧ Aside0 (impl_RankOfNumber.l0 kq a0 a1 x8_2 x9_2 = some (r1,r2)) ∧ Aside0 (kq ≤ kj2) ∧ Aside0 (Below w.heap.size w w'))
       case atStart => exact ⟨(0),(1),zrs,zrs,H',⟨Nat.le_refl _⟩,⟨zbw⟩⟩
       case round =>
        clear H'; try clear c1
        try clear p2
        try clear c3
        try clear c5
        try clear c6
        try clear c8
        try clear c9
        try clear c9b0
        try clear c9b1
        try clear c10
        try clear c10b0
        try clear c10b1
        try clear c12
        try clear p2
        obtain ⟨x8_2,x9_2,rfl,rfl,HA,HK2,HB⟩ := hrel
        cases gk with
        | zero => exact absurd HA.out (by simp [impl_RankOfNumber.l0])
        | succ k2 =>
         have H := HA.out; clear HA; simp only [impl_RankOfNumber.l0] at H
         by_cases c14 : x9_2 < (a1.size : Int)
         ·
          rw [if_pos c14] at H; have c14b0 : decide (x9_2 < (a1.size : Int)) = true := decide_eq_true c14; clear c14; replace H := Option.bind_eq_some_iff.mp H; obtain ⟨t105,A150,H⟩ := H; replace H : (if 0 ≤ (wrap64 (x9_2 - 1)) then (if (wrap64 (x9_2 - 1)) < (a1.size : Int) then ((impl_digit.f (bt a1 (wrap64 (x9_2 - 1)))).bind fun t108 => ((impl_nexts.f k2 a0 t108).bind fun t109 => (impl_RankOfNumber.l1 k2 a0 a1 x8_2 x9_2 t105 t109 (t109.length : Int) 0))) else (none)) else (none)) = some (r1,r2) := H; have A15 := Aside0.mk A150; clear A150; obtain ⟨ji16,hji16⟩ : ∃ j_ : Int,(wrap64 (x9_2 - 1)) = j_ := ⟨_,rfl⟩; replace H : (if 0 ≤ (ji16) then (if (ji16) < (a1.size : Int) then ((impl_digit.f (bt a1 (ji16))).bind fun t108 => ((impl_nexts.f k2 a0 t108).bind fun t109 => (impl_RankOfNumber.l1 k2 a0 a1 x8_2 x9_2 t105 t109 (t109.length : Int) 0))) else (none)) else (none)) = some (r1,r2) := by first | (rw [hji16] at H; exact H) | (simp only [hji16] at H ⊢; exact H)
          (try rw [hji16] at A15)
          have hji16w : (IntKind.i64.wrap (x9_2 - 1)) = ji16 := (i64_w _).trans hji16
          by_cases c17 : 0 ≤ (ji16)
          ·
           rw [if_pos c17] at H; have c17b0 : decide (0 ≤ (ji16)) = true := decide_eq_true c17; clear c17
           by_cases c18 : (ji16) < (a1.size : Int)
           ·
            rw [if_pos c18] at H; have c18b0 : decide ((ji16) < (a1.size : Int)) = true := decide_eq_true c18; clear c18; replace H := Option.bind_eq_some_iff.mp H; obtain ⟨t108,A200,H⟩ := H; replace H : ((impl_nexts.f k2 a0 t108).bind fun t109 => (impl_RankOfNumber.l1 k2 a0 a1 x8_2 x9_2 t105 t109 (t109.length : Int) 0)) = some (r1,r2) := H; have A20 := Aside0.mk A200; clear A200; replace H := Option.bind_eq_some_iff.mp H; obtain ⟨t109,A210,H⟩ := H; replace H : (impl_RankOfNumber.l1 k2 a0 a1 x8_2 x9_2 t105 t109 (t109.length : Int) 0) = some (r1,r2) := H; have A21 := Aside0.mk A210; clear A210; have H' := Aside0.mk H; clear H; go_wp2_with (first | ((with_reducible refine gate_callee (f := 37) rfl ?_); refine goesL_ (some 44) rfl rfl Tryz.func37 (by kernel_rfl) rfl #[.string a0,.int .i64 (wrap64 ((a1.size : Int) - x9_2))] rfl zrr ?_; (with_reducible refine (impl_numbers.calls k2 a0 (wrap64 ((a1.size : Int) - x9_2)) t105 _ A15.out).mono ?_); rintro e w22 ⟨v106,rfl,ho0,hb⟩; refine ⟨_,rfl,?_⟩; have n0_ := Aside0.mk (Kd.R_lower ho0 (below_size zbw)); have n1_ := Aside0.mk (below_step zbw hb); clear HB; have HO107 := n0_; have HB := n1_; clear n0_ n1_; (try clear hb); (try clear hb2); (try clear hk); (try clear hi); (try clear ho0); have p19 : 0 ≤ ((ji16) : Int) := zdd; have q19 : (ji16) < (a1.size : Int) := zdd; have hx19 := bt_at a1 (ji16); replace p19 := eq_true p19; replace q19 := eq_true q19) | ((with_reducible refine gate_callee (f := 38) rfl ?_); refine goesL_ (some 50) rfl rfl Tryz.func38 (by kernel_rfl) rfl #[.int .u8 (bt a1 (ji16))] rfl (by (try simp only [List.map_toArray,List.map_cons,List.map_nil]); first | done | (simp only [hji16]; rfl) | rfl | (simp only [List.length_drop,List.length_take]; rfl)) ?_; (with_reducible refine (impl_digit.calls (bt a1 (ji16)) t108 _ A20.out).mono ?_); rintro e w' ⟨rfl,⟨nd,rfl⟩⟩; refine ⟨_,rfl,?_⟩) | ((with_reducible refine gate_callee (f := 43) rfl ?_); refine goesL_ (some 51) rfl rfl Tryz.func43 (by kernel_rfl) rfl #[.string a0,.int .i64 t108] rfl zrr ?_; (with_reducible refine (impl_nexts.calls k2 a0 t108 t109 _ A21.out).mono ?_); rintro e w23 ⟨v110,rfl,ho0,hb⟩; refine ⟨_,rfl,?_⟩; have n0_ := Aside0.mk (Kd.R_elder' (by (with_reducible repeat (first | apply Kd.R_alloc | apply Kd.R_drewN | apply Kd.R_drew)); exact HO107.out) (Kd.R_base ho0) hb); have n1_ := Aside0.mk (Kd.R_lower (Kd.R_new' ho0 (Kd.R_lt (by (with_reducible repeat (first | apply Kd.R_alloc | apply Kd.R_drewN | apply Kd.R_drew)); exact HO107.out))) (below_size zbw)); have n2_ := Aside0.mk (below_step zbw hb); clear HO107; clear HB; have HO107 := n0_; have HO111 := n1_; have HB := n2_; clear n0_ n1_ n2_; (try clear hb); (try clear hb2); (try clear hk); (try clear hi); (try clear ho0); obtain ⟨Ao24,co24,eo24⟩ := Kd.R_slice HO111.out; subst eo24))
            go_loopg [8,53] k2 (fun kq v8 v53 w' => ∃ (x8_3 : Int) (x53_3 : Int),v8 = .int .i64 x8_3 ∧ v53 = .int .i64 x53_3 ∧ Aside0 (impl_RankOfNumber.l1 kq a0 a1 x8_3 x9_2 t105 t109 (t109.length : Int) x53_3 = some (r1,r2)) ∧ Aside0 (kq ≤ k2) ∧ Aside0 (Kd.R (Kd.int .i64) 3 w' w.heap.size (fun k_ => some k_ ≠ ((.slice Ao24 t109.length co24) : Value).ownBlock) v106 t105) ∧ Aside0 (Kd.R (Kd.int .i64) 3 w' w.heap.size (fun k_ => some k_ ≠ (v106 : Value).ownBlock) (.slice Ao24 t109.length co24) t109) ∧ Aside0 (Below w.heap.size w w'))
            case atStart => exact ⟨(x8_2),(0),zrs,zrs,H',⟨Nat.le_refl _⟩,⟨by (with_reducible repeat (first | apply Kd.R_alloc | apply Kd.R_drewN | apply Kd.R_drew)); exact Kd.R_mono HO107.out (fun _ hk => hk.2)⟩,⟨by (with_reducible repeat (first | apply Kd.R_alloc | apply Kd.R_drewN | apply Kd.R_drew)); exact Kd.R_mono HO111.out (fun _ hk => hk.2)⟩,⟨zbw⟩⟩
            case round =>
             clear H'; try clear c1
             try clear p1
             try clear q1
             try clear hx1
             try clear p2
             try clear c3
             try clear c4
             try clear c5
             try clear c6
             try clear p6
             try clear c8
             try clear c9
             try clear c9b0
             try clear c9b1
             try clear c10
             try clear c10b0
             try clear c10b1
             try clear c12
             try clear c14
             try clear c14b0
             try clear c17
             try clear c17b0
             try clear c18
             try clear c18b0
             try clear p19
             try clear q19
             try clear hx19
             try clear p19
             try clear p2
             try clear q19
             obtain ⟨x8_3,x53_3,rfl,rfl,HA,HK3,HO_10,HO_51,HB⟩ := hrel
             cases gk with
             | zero => exact absurd HA.out (by simp [impl_RankOfNumber.l1])
             | succ k3 =>
              have H := HA.out; clear HA; simp only [impl_RankOfNumber.l1] at H
              by_cases c25 : x53_3 < (t109.length : Int)
              ·
               rw [if_pos c25] at H; have c25b0 : decide (x53_3 < (t109.length : Int)) = true := decide_eq_true c25; clear c25
               by_cases c26 : 0 ≤ x53_3
               ·
                rw [if_pos c26] at H; have c26b0 : decide (0 ≤ x53_3) = true := decide_eq_true c26; clear c26
                by_cases c27 : x53_3 < (t109.length : Int)
                ·
                 rw [if_pos c27] at H; have c27b0 : decide (x53_3 < (t109.length : Int)) = true := decide_eq_true c27; clear c27
                 by_cases c28 : 0 ≤ x9_2
                 ·
                  rw [if_pos c28] at H; have c28b0 : decide (0 ≤ x9_2) = true := decide_eq_true c28; clear c28
                  by_cases c29 : x9_2 < (a1.size : Int)
                  ·
                   rw [if_pos c29] at H; have c29b0 : decide (x9_2 < (a1.size : Int)) = true := decide_eq_true c29; clear c29; replace H := Option.bind_eq_some_iff.mp H; obtain ⟨t113,A310,H⟩ := H; replace H : (if (rd t109 x53_3) < t113 then (if 0 ≤ (rd t109 x53_3) then (if (rd t109 x53_3) < (t105.length : Int) then (impl_RankOfNumber.l1 k3 a0 a1 (wrap64 (x8_3 + (rd t105 (rd t109 x53_3)))) x9_2 t105 t109 (t109.length : Int) (wrap64 (x53_3 + 1))) else (none)) else (none)) else (impl_RankOfNumber.l1 k3 a0 a1 x8_3 x9_2 t105 t109 (t109.length : Int) (wrap64 (x53_3 + 1)))) = some (r1,r2) := H; have A31 := Aside0.mk A310; clear A310
                   by_cases c32 : (rd t109 x53_3) < t113
                   ·
                    rw [if_pos c32] at H; have c32b0 : decide ((rd t109 x53_3) < t113) = true := decide_eq_true c32; clear c32
                    by_cases c33 : 0 ≤ (rd t109 x53_3)
                    ·
                     rw [if_pos c33] at H; have c33b0 : decide (0 ≤ (rd t109 x53_3)) = true := decide_eq_true c33; clear c33
                     by_cases c34 : (rd t109 x53_3) < (t105.length : Int)
                     ·
                      rw [if_pos c34] at H; have c34b0 : decide ((rd t109 x53_3) < (t105.length : Int)) = true := decide_eq_true c34; clear c34; have H' := Aside0.mk H; clear H; have p112 : 0 ≤ (x53_3 : Int) := zdd; have q112 : x53_3 < (t109.length : Int) := zdd; obtain ⟨ad112,e112,hx112_0⟩ := Kd.at_int (Kd.R_reads' HO_51.out).2.2 x53_3 p112 q112
                      cases e112
                      replace p112 := eq_true p112; replace q112 := eq_true q112; have p30 : 0 ≤ (x9_2 : Int) := zdd; have q30 : x9_2 < (a1.size : Int) := zdd; have hx30 := bt_at a1 x9_2; replace p30 := eq_true p30; replace q30 := eq_true q30; go_wp2_with (first | ((with_reducible refine gate_callee (f := 38) rfl ?_); refine goesL_ (some 61) rfl rfl Tryz.func38 (by kernel_rfl) rfl #[.int .u8 (bt a1 x9_2)] rfl zrr ?_; (with_reducible refine (impl_digit.calls (bt a1 x9_2) t113 _ A31.out).mono ?_); rintro e w' ⟨rfl,⟨nd,rfl⟩⟩; refine ⟨_,rfl,?_⟩; obtain ⟨Ao35,co35,eo35⟩ := Kd.R_slice HO_10.out; subst eo35; have p114 : 0 ≤ ((rd t109 x53_3) : Int) := zdd; have q114 : (rd t109 x53_3) < (t105.length : Int) := zdd; obtain ⟨ad114,e114,hx114_0⟩ := Kd.at_int (Kd.R_reads' HO_10.out).2.2 (rd t109 x53_3) p114 q114; cases e114; replace p114 := eq_true p114; replace q114 := eq_true q114))
                      go_roundg k3
                      case measure => have := HJ2.out; have := HK2.out; have := HK3.out; omega
                      case rel => exact ⟨(wrap64 (x8_3 + (rd t105 (rd t109 x53_3)))),(wrap64 (x53_3 + 1)),zrs,zrs,H',⟨by have := HJ2.out; have := HK2.out; have := HK3.out; omega⟩,⟨by (with_reducible repeat (first | apply Kd.R_alloc | apply Kd.R_drewN | apply Kd.R_drew)); exact HO_10.out⟩,⟨by (with_reducible repeat (first | apply Kd.R_alloc | apply Kd.R_drewN | apply Kd.R_drew)); exact HO_51.out⟩,⟨zbw⟩⟩
                     · rw [if_neg c34] at H; exact absurd H (by simp)
                    · rw [if_neg c33] at H; exact absurd H (by simp)
                   ·
                    rw [if_neg c32] at H; have c32b0 : decide ((rd t109 x53_3) < t113) = false := decide_eq_false c32; clear c32; have H' := Aside0.mk H; clear H; have p112 : 0 ≤ (x53_3 : Int) := zdd; have q112 : x53_3 < (t109.length : Int) := zdd; obtain ⟨ad112,e112,hx112_0⟩ := Kd.at_int (Kd.R_reads' HO_51.out).2.2 x53_3 p112 q112
                    cases e112
                    replace p112 := eq_true p112; replace q112 := eq_true q112; have p30 : 0 ≤ (x9_2 : Int) := zdd; have q30 : x9_2 < (a1.size : Int) := zdd; have hx30 := bt_at a1 x9_2; replace p30 := eq_true p30; replace q30 := eq_true q30; go_wp2_with (first | ((with_reducible refine gate_callee (f := 38) rfl ?_); refine goesL_ (some 61) rfl rfl Tryz.func38 (by kernel_rfl) rfl #[.int .u8 (bt a1 x9_2)] rfl zrr ?_; (with_reducible refine (impl_digit.calls (bt a1 x9_2) t113 _ A31.out).mono ?_); rintro e w' ⟨rfl,⟨nd,rfl⟩⟩; refine ⟨_,rfl,?_⟩))
                    go_roundg k3
                    case measure => have := HJ2.out; have := HK2.out; have := HK3.out; omega
                    case rel => exact ⟨(x8_3),(wrap64 (x53_3 + 1)),zrs,zrs,H',⟨by have := HJ2.out; have := HK2.out; have := HK3.out; omega⟩,⟨by (with_reducible repeat (first | apply Kd.R_alloc | apply Kd.R_drewN | apply Kd.R_drew)); exact HO_10.out⟩,⟨by (with_reducible repeat (first | apply Kd.R_alloc | apply Kd.R_drewN | apply Kd.R_drew)); exact HO_51.out⟩,⟨zbw⟩⟩
                  · rw [if_neg c29] at H; exact absurd H (by simp)
                 · rw [if_neg c28] at H; exact absurd H (by simp)
                · rw [if_neg c27] at H; exact absurd H (by simp)
               · rw [if_neg c26] at H; exact absurd H (by simp)
              ·
               rw [if_neg c25] at H; have c25b0 : decide (x53_3 < (t109.length : Int)) = false := decide_eq_false c25; clear c25; have H' := Aside0.mk H; clear H; go_wp2
               go_roundg k3
               case measure => have := HJ2.out; have := HK2.out; have := HK3.out; omega
               case rel => exact ⟨(x8_3),(wrap64 (x9_2 + 1)),zrs,zrs,H',⟨by have := HJ2.out; have := HK2.out; have := HK3.out; omega⟩,⟨zbw⟩⟩
           · rw [if_neg c18] at H; exact absurd H (by simp)
          · rw [if_neg c17] at H; exact absurd H (by simp)
         ·
          rw [if_neg c14] at H; have c14b0 : decide (x9_2 < (a1.size : Int)) = false := decide_eq_false c14; clear c14; simp only [Option.some.injEq,Prod.mk.injEq] at H; obtain ⟨rfl,rfl⟩ := H; go_wp2
          go_ret2
          exact ⟨zer,zbw⟩
      ·
       replace c12 := Bool.eq_false_iff.mpr c12; subst c12; have H1 : (some (0,false)) = some (r1,r2) := by rw [if_neg (show ¬ (false = true) by decide)] at H; exact H
       clear H; have H := H1; clear H1; simp only [Option.some.injEq,Prod.mk.injEq] at H; obtain ⟨rfl,rfl⟩ := H; go_wp2_with (first | ((with_reducible refine gate_callee (f := 6) rfl ?_); refine goesL_ (some 28) rfl rfl Tryz.func6 (by kernel_rfl) rfl #[.string a0,.string (a1.extract 0 1),.int .i64 (a1.size : Int)] rfl zrr ?_; (with_reducible refine (impl_CountNumbers.calls kj2 a0 (a1.extract 0 1) (a1.size : Int) t103 false _ zhm A11.out).mono ?_); rintro e w36 ⟨rfl,hb⟩; refine ⟨_,rfl,?_⟩; have n0_ := Aside0.mk (below_step zbw hb); clear HB; have HB := n0_; clear n0_; (try clear hb); (try clear hb2); (try clear hk); (try clear hi)))
       go_ret2
       exact ⟨zer,zbw⟩
     · rw [if_neg c10] at H; exact absurd H (by simp)
    · rw [if_neg c9] at H; exact absurd H (by simp)

end Go.Proofs.YtffbfkfbeggdnaaGreatDoor.P
-- printed by xprint.py
namespace Go.Proofs.YtffbfkfbeggdnaaGreatDoor.P
open Go.RowKit Go.Proofs.YtffbfkfbeggdnaaGreatDoorW.PrintWords Go.Proofs.YtffbfkfbeggdnaaGreatDoorW.PrintLast Go.Proofs.YtffbfkfbeggdnaaGreatDoorW.PrintMore
attribute [local go_sem] max2_int min2_int max_two min_two max_three min_three max_four min_four
set_option linter.unusedVariables false
set_option linter.unusedSimpArgs false

def laws_big.f (l0 : List Int) (l1 : List Int) : Option (Bool) := if (l0.length : Int) > 1048576 then (some true) else (some (decide ((l1.length : Int) > (wrap64 (1048576 - (l0.length : Int))))))
set_option maxHeartbeats 8000000 in
set_option maxRecDepth 100000 in
theorem laws_big.calls (A0 : Option Addr) (c0 : Nat) (l0 : List Int) (A1 : Option Addr) (c1 : Nat) (l1 : List Int) (r : Bool) (w : World) (hr0 : Kd.C (Kd.int .u8) w A0 l0.length l0) (hc0 : l0.length ≤ c0) (hr1 : Kd.C (Kd.int .u8) w A1 l1.length l1) (hc1 : l1.length ≤ c1) (h : laws_big.f l0 l1 = some r) :
  Calls Tryz.prog 4 #[.slice A0 l0.length c0,.slice A1 l1.length c1] w fun e w' => e = .returned (.bool r) ∧ Drawn0 w w' := by
 have HR0 := Aside0.mk hr0; have HC0 := Aside0.mk hc0; clear hr0 hc0; have HR1 := Aside0.mk hr1; have HC1 := Aside0.mk hc1; clear hr1 hc1; have H : (if (l0.length : Int) > 1048576 then (some true) else (some (decide ((l1.length : Int) > (wrap64 (1048576 - (l0.length : Int))))))) = some r := h; clear h
 by_cases c3 : (l0.length : Int) > 1048576
 ·
  rw [if_pos c3] at H; have c3b0 : decide (1048576 < (l0.length : Int)) = true := decide_eq_true c3; have c3b1 : decide (1048576 < l0.length) = true := decide_eq_true (by omega); clear c3; obtain rfl := Option.some.inj H
  go_enter Tryz.func4,Tryz.ntmps4
  go_wp2
  go_ret
  exact ⟨by first | rfl | (simp; done) | (simp [*]; done),by repeat (first | exact Drawn0.refl _ | apply Drawn0.step)⟩
 ·
  rw [if_neg c3] at H; have c3b0 : decide (1048576 < (l0.length : Int)) = false := decide_eq_false c3; have c3b1 : decide (1048576 < l0.length) = false := decide_eq_false (by omega); clear c3; obtain rfl := Option.some.inj H
  go_enter Tryz.func4,Tryz.ntmps4
  go_wp2
  go_ret
  exact ⟨by first | rfl | (simp; done) | (simp [*]; done),by repeat (first | exact Drawn0.refl _ | apply Drawn0.step)⟩

end Go.Proofs.YtffbfkfbeggdnaaGreatDoor.P
-- printed by xprint.py
namespace Go.Proofs.YtffbfkfbeggdnaaGreatDoor.P
open Go.RowKit Go.Proofs.YtffbfkfbeggdnaaGreatDoorW.PrintWords Go.Proofs.YtffbfkfbeggdnaaGreatDoorW.PrintLast Go.Proofs.YtffbfkfbeggdnaaGreatDoorW.PrintMore
attribute [local go_sem] max2_int min2_int max_two min_two max_three min_three max_four min_four
set_option linter.unusedVariables false
set_option linter.unusedSimpArgs false

def laws_fSign.l0 : Nat → ByteArray → Int → Int → Option (Bool)
 | 0,_,_,_ => none
 | k + 1,x0,x1,x5 => if x5 < (x0.size : Int) then (if 0 ≤ x5 then (if (bt x0 x5) = x1 then (some true) else (laws_fSign.l0 k x0 x1 (wrap64 (x5 + 1)))) else (none)) else (some false)
def laws_fSign.f (k : Nat) (a0 : ByteArray) (a1 : Int) : Option (Bool) := laws_fSign.l0 k a0 a1 0
theorem laws_fSign.mono_l : ∀ k,(∀ y0 y1 y2,LeO (laws_fSign.l0 k y0 y1 y2) (laws_fSign.l0 (k + 1) y0 y1 y2))
 | 0 => by intros; intro r h; simp [laws_fSign.l0] at h
 | k + 1 => by
  have ih0 := laws_fSign.mono_l k
  ·
   intro y0 y1 y2
   unfold laws_fSign.l0
   repeat' first
   | (with_reducible exact ih0 _ _ _)
   | (with_reducible exact LeO.refl _)
   | (with_reducible exact LeO.none _)
   | (with_reducible refine LeO.ite ?_ ?_)
   | (with_reducible refine LeO.bind ?_ (fun _ => ?_))
   | exact ih0 _ _ _
   | exact LeO.none _
   | refine LeO.ite ?_ ?_
   | refine LeO.bind ?_ (fun _ => ?_)
theorem laws_fSign.mono : ∀ y0 y1 k,LeO (laws_fSign.f k y0 y1) (laws_fSign.f (k + 1) y0 y1) := by
 intro y0 y1 k; have ih0 := laws_fSign.mono_l k
 unfold laws_fSign.f
 repeat' first
   | (with_reducible exact ih0 _ _ _)
   | (with_reducible exact LeO.refl _)
   | (with_reducible exact LeO.none _)
   | (with_reducible refine LeO.ite ?_ ?_)
   | (with_reducible refine LeO.bind ?_ (fun _ => ?_))
   | exact ih0 _ _ _
   | exact LeO.none _
   | refine LeO.ite ?_ ?_
   | refine LeO.bind ?_ (fun _ => ?_)
set_option maxHeartbeats 8000000 in
set_option maxRecDepth 100000 in
theorem laws_fSign.calls (k : Nat) (a0 : ByteArray) (a1 : Int) (r : Bool) (w : World) (h : laws_fSign.f k a0 a1 = some r) :
  Calls Tryz.prog 12 #[.string a0,.int .u8 a1] w fun e w' => e = .returned (.bool r) ∧ Drawn0 w w' := by
 have H : (laws_fSign.l0 k a0 a1 0) = some r := h; clear h; have H' := Aside0.mk H; clear H
 go_enter Tryz.func12,Tryz.ntmps12
 go_wp2
 go_loopg [5] k (fun kq v5 w' => ∃ (x5_1 : Int),v5 = .int .i64 x5_1 ∧ Aside0 (laws_fSign.l0 kq a0 a1 x5_1 = some r) ∧ Aside0 (kq ≤ k) ∧ Drawn0 w w')
 case atStart => exact ⟨(0),zrs,H',⟨Nat.le_refl _⟩,by repeat (first | exact Drawn0.refl _ | apply Drawn0.step)⟩
 case round =>
  clear H'; try clear c1
  try clear p2
  obtain ⟨x5_1,rfl,HA,HK1,⟨m1,rfl⟩⟩ := hrel
  cases gk with
  | zero => exact absurd HA.out (by simp [laws_fSign.l0])
  | succ k1 =>
   have H := HA.out; clear HA; simp only [laws_fSign.l0] at H
   by_cases c3 : x5_1 < (a0.size : Int)
   ·
    rw [if_pos c3] at H; have c3b0 : decide (x5_1 < (a0.size : Int)) = true := decide_eq_true c3; clear c3
    by_cases c4 : 0 ≤ x5_1
    ·
     rw [if_pos c4] at H; have c4b0 : decide (0 ≤ x5_1) = true := decide_eq_true c4; clear c4
     by_cases c6 : (bt a0 x5_1) = a1
     ·
      rw [if_pos c6] at H; have c6b0 : ((bt a0 x5_1) == a1) = true := beq_iff_eq.mpr c6; have c6b1 : ((bt a0 x5_1) != a1) = false := bne_eq_false_iff_eq.mpr c6; clear c6; obtain rfl := Option.some.inj H; have p5 : 0 ≤ (x5_1 : Int) := zdd; have q5 : x5_1 < (a0.size : Int) := zdd; have hx5 := bt_at a0 x5_1; replace p5 := eq_true p5; replace q5 := eq_true q5; go_wp2
      go_ret
      exact ⟨by first | rfl | (simp; done) | (simp [*]; done),by repeat (first | exact Drawn0.refl _ | apply Drawn0.step)⟩
     ·
      rw [if_neg c6] at H; have c6b0 : ((bt a0 x5_1) == a1) = false := beq_eq_false_iff_ne.mpr c6; have c6b1 : ((bt a0 x5_1) != a1) = true := bne_iff_ne.mpr c6; have H' := Aside0.mk H; clear H; have p5 : 0 ≤ (x5_1 : Int) := zdd; have q5 : x5_1 < (a0.size : Int) := zdd; have hx5 := bt_at a0 x5_1; replace p5 := eq_true p5; replace q5 := eq_true q5; go_wp2
      go_roundg k1
      case measure => have := HK1.out; omega
      case rel => exact ⟨(wrap64 (x5_1 + 1)),zrs,H',⟨by have := HK1.out; omega⟩,by repeat (first | exact Drawn0.refl _ | apply Drawn0.step)⟩
    · rw [if_neg c4] at H; exact absurd H (by simp)
   ·
    rw [if_neg c3] at H; have c3b0 : decide (x5_1 < (a0.size : Int)) = false := decide_eq_false c3; clear c3; obtain rfl := Option.some.inj H; go_wp2
    go_ret
    exact ⟨by first | rfl | (simp; done) | (simp [*]; done),by repeat (first | exact Drawn0.refl _ | apply Drawn0.step)⟩

end Go.Proofs.YtffbfkfbeggdnaaGreatDoor.P
-- printed by xprint.py
namespace Go.Proofs.YtffbfkfbeggdnaaGreatDoor.P
open Go.RowKit Go.Proofs.YtffbfkfbeggdnaaGreatDoorW.PrintWords Go.Proofs.YtffbfkfbeggdnaaGreatDoorW.PrintLast Go.Proofs.YtffbfkfbeggdnaaGreatDoorW.PrintMore
attribute [local go_sem] max2_int min2_int max_two min_two max_three min_three max_four min_four
set_option linter.unusedVariables false
set_option linter.unusedSimpArgs false

def spec_l1In.f (a0 : Int) (a1 : Int) (a2 : Int) : Option (Bool) := if a0 ≥ a1 then (some (decide (a0 ≤ a2))) else (some false)
set_option maxHeartbeats 8000000 in
set_option maxRecDepth 100000 in
theorem spec_l1In.calls (a0 : Int) (a1 : Int) (a2 : Int) (r : Bool) (w : World) (h : spec_l1In.f a0 a1 a2 = some r) :
  Calls Tryz.prog 40 #[.int .i64 a0,.int .i64 a1,.int .i64 a2] w fun e w' => e = .returned (.bool r) ∧ Drawn0 w w' := by
 have H : (if a0 ≥ a1 then (some (decide (a0 ≤ a2))) else (some false)) = some r := h; clear h
 by_cases c4 : a0 ≥ a1
 ·
  rw [if_pos c4] at H; have c4b0 : decide (a1 ≤ a0) = true := decide_eq_true c4; clear c4; obtain rfl := Option.some.inj H
  go_enter Tryz.func40,Tryz.ntmps40
  go_wp2
  go_ret
  exact ⟨by first | rfl | (simp; done) | (simp [*]; done),by repeat (first | exact Drawn0.refl _ | apply Drawn0.step)⟩
 ·
  rw [if_neg c4] at H; have c4b0 : decide (a1 ≤ a0) = false := decide_eq_false c4; clear c4; obtain rfl := Option.some.inj H
  go_enter Tryz.func40,Tryz.ntmps40
  go_wp2
  go_ret
  exact ⟨by first | rfl | (simp; done) | (simp [*]; done),by repeat (first | exact Drawn0.refl _ | apply Drawn0.step)⟩

end Go.Proofs.YtffbfkfbeggdnaaGreatDoor.P
-- printed by xprint.py
namespace Go.Proofs.YtffbfkfbeggdnaaGreatDoor.P
open Go.RowKit Go.Proofs.YtffbfkfbeggdnaaGreatDoorW.PrintWords Go.Proofs.YtffbfkfbeggdnaaGreatDoorW.PrintLast Go.Proofs.YtffbfkfbeggdnaaGreatDoorW.PrintMore
attribute [local go_sem] max2_int min2_int max_two min_two max_three min_three max_four min_four
set_option linter.unusedVariables false
set_option linter.unusedSimpArgs false

def spec_l1Num.f : Nat → Int → Option (ByteArray)
 | 0,_ => none
 | k + 1,a0 => if a0 < 10 then (some (strOfNums (([(wrap64 (48 + a0)) % 256] : List Int)))) else ((spec_l1Num.f k (wrap64 (Int.tdiv a0 10))).bind fun t104 => ((some (([(wrap64 (48 + (Int.tmod a0 10))) % 256] : List Int) : List Int)).bind fun y105 => (if t104.size + (strOfNums y105).size ≤ 9223372036854775807 then (some (t104 ++ (strOfNums y105))) else (none))))
theorem spec_l1Num.mono_l : ∀ k,(∀ y0,LeO (spec_l1Num.f k y0) (spec_l1Num.f (k + 1) y0))
 | 0 => by intros; intro r h; simp [spec_l1Num.f] at h
 | k + 1 => by
  have ih0 := spec_l1Num.mono_l k
  ·
   intro y0
   unfold spec_l1Num.f
   repeat' first
   | (with_reducible exact ih0 _)
   | (with_reducible exact LeO.refl _)
   | (with_reducible exact LeO.none _)
   | (with_reducible refine LeO.ite ?_ ?_)
   | (with_reducible refine LeO.bind ?_ (fun _ => ?_))
   | exact ih0 _
   | exact LeO.none _
   | refine LeO.ite ?_ ?_
   | refine LeO.bind ?_ (fun _ => ?_)
theorem spec_l1Num.mono : ∀ y0 k,LeO (spec_l1Num.f k y0) (spec_l1Num.f (k + 1) y0) := by
 intro y0 k; have ih0 := spec_l1Num.mono_l k; exact ih0 y0
def spec_l1Num.T3 : Bool × List (List Nat × List Nat) := (true,[([],[]),([0],[0]),([1],[1]),([],[]),([3],[3]),([4],[4]),([5],[5]),([6],[6]),([7],[7]),([2,8],[2,8]),([9,2,0,1,2,3,4,5,6,7,8,9],[9])])
def spec_l1Num.B3 : List Nat := [0,1,3,0,8,24,56,120,248,511,1023]
theorem spec_l1Num.tab3 : rtab .any (opsOf Tryz.f58 3) = spec_l1Num.T3 := by kernel_rfl
theorem spec_l1Num.bits3 : waitsOk spec_l1Num.T3.2 spec_l1Num.B3 = true := by kernel_rfl
set_option maxHeartbeats 8000000 in
set_option maxRecDepth 100000 in
theorem spec_l1Num.calls (k : Nat) : ∀ (a0 : Int) (r : ByteArray) (w : World) (h : spec_l1Num.f k a0 = some r),
  Calls Tryz.prog 58 #[.int .i64 a0] w fun e w' => e = .returned (.string r) ∧ Below w.heap.size w w' := by
 induction k using Nat.strongRecOn with
 | _ k ih =>
 intro a0 r w h
 cases k with
 | zero => exact absurd h (by simp [spec_l1Num.f])
 | succ k =>
 simp only [spec_l1Num.f] at h; have HB := Aside0.mk (Below.refl w.heap.size w); have H : (if a0 < 10 then (some (strOfNums (([(wrap64 (48 + a0)) % 256] : List Int)))) else ((spec_l1Num.f k (wrap64 (Int.tdiv a0 10))).bind fun t104 => ((some (([(wrap64 (48 + (Int.tmod a0 10))) % 256] : List Int) : List Int)).bind fun y105 => (if t104.size + (strOfNums y105).size ≤ 9223372036854775807 then (some (t104 ++ (strOfNums y105))) else (none))))) = some r := h; clear h
 by_cases c2 : a0 < 10
 ·
  rw [if_pos c2] at H; have c2b0 : decide (a0 < 10) = true := decide_eq_true c2; clear c2; obtain ⟨y101,hy101⟩ : ∃ y_ : List Int,y_ = (([(wrap64 (48 + a0)) % 256] : List Int)) := ⟨_,rfl⟩; replace H : (some (strOfNums y101)) = some r := by first | (rw [hy101]; with_reducible exact H) | (have H2_ := (Option.bind_some _ _).symm.trans H; rw [hy101]; with_reducible exact H2_) | (have H2_ := (Option.bind_some _ _).symm.trans H; with_reducible exact H2_) | with_reducible exact H | (rw [hy101]; exact H) | exact H
  have Ny101 := Aside0.mk hy101; clear hy101; obtain rfl := Option.some.inj H
  go_enter Tryz.func58,Tryz.ntmps58
  go_wp2_with (first | ((with_reducible refine gate_dst (N := 8) rfl ?_); refine Kd.R_lit (Kd.int .u8) _ 5 ?hg (N := 8) ?hd (xs := ([(wrap64 (48 + a0)) % 256] : List Int)) (inner := [.int .u8 ((wrap64 (48 + a0)) % 256)]) (ok := fun _ => True) (okp := fun _ => True) ?hr ?hp (fun _ hk => hk) trivial (Below.refl _ _) (Nat.le_refl _) (by simp) ?_; (case hd => rfl); (case hg => rfl); (case hr => first | (go_simp; done) | (go_simp; rfl)); (case hp => exact (Reps.one (show Kd.M (Kd.int .u8) _ _ _ ((wrap64 (48 + a0)) % 256) [.int .u8 ((wrap64 (48 + a0)) % 256)] from rfl) (Reps.none _ _))); intro v102 w3 ho4 hb hg_ hnew_; clear hg_ hnew_; (first | rw [← Ny101.out] at ho4 | (simp only [Int.reduceToNat] at ho4; rw [← Ny101.out] at ho4)); have n0_ := Aside0.mk (Kd.R_lower ho4 (below_size zbw)); have n1_ := Aside0.mk (below_step zbw hb); clear HB; have HO103 := n0_; have HB := n1_; clear n0_ n1_; clear hb ho4; have hcv5 := own_string (P := Tryz.prog) Tryz.underlying22 Tryz.underlying5 Tryz.underlying9 (Kd.own_of_R HO103.out)))
  go_ret
  exact ⟨zer,zbw⟩
 ·
  rw [if_neg c2] at H; have c2b0 : decide (a0 < 10) = false := decide_eq_false c2; clear c2; replace H := Option.bind_eq_some_iff.mp H; obtain ⟨t104,A60,H⟩ := H; replace H : ((some (([(wrap64 (48 + (Int.tmod a0 10))) % 256] : List Int) : List Int)).bind fun y105 => (if t104.size + (strOfNums y105).size ≤ 9223372036854775807 then (some (t104 ++ (strOfNums y105))) else (none))) = some r := H; have A6 := Aside0.mk A60; clear A60; obtain ⟨y105,hy105⟩ : ∃ y_ : List Int,y_ = (([(wrap64 (48 + (Int.tmod a0 10))) % 256] : List Int)) := ⟨_,rfl⟩; replace H : (if t104.size + (strOfNums y105).size ≤ 9223372036854775807 then (some (t104 ++ (strOfNums y105))) else (none)) = some r := by first | (rw [hy105]; with_reducible exact H) | (have H2_ := (Option.bind_some _ _).symm.trans H; rw [hy105]; with_reducible exact H2_) | (have H2_ := (Option.bind_some _ _).symm.trans H; with_reducible exact H2_) | with_reducible exact H | (rw [hy105]; exact H) | exact H
  have Ny105 := Aside0.mk hy105; clear hy105
  by_cases c7 : t104.size + (strOfNums y105).size ≤ 9223372036854775807
  ·
   rw [if_pos c7] at H; have c7b0 := eq_true c7; have c7b1 : decide (t104.size + (strOfNums y105).size ≤ 9223372036854775807) = true := decide_eq_true c7; try have c7b2 : (9223372036854775807 < t104.size + (strOfNums y105).size) = False := eq_false (Nat.not_lt.2 c7)
   obtain rfl := Option.some.inj H
   go_enter Tryz.func58,Tryz.ntmps58
   try go_wp2
   have n0_ := Aside0.mk (below_drew1 HB.out); clear HB; have HB := n0_; clear n0_; refine start_ (n := 11) (S := fun w' => True) (ds := []) #[false,false,false,false,false,false,false,false,false,false,false] (by kernel_rfl) rfl rfl trivial (fun hHeld => ?_); refine with_tabW spec_l1Num.tab3 spec_l1Num.bits3 (fun HT_ HW_ => ?_)
   (first | (rw [drewN_self w]; generalize hq_ : (World.drewN w _).drew = w8 at hHeld ⊢; clear HB; have HB : Aside0 (Below w.heap.size w w8) := ⟨by rw [← hq_]; exact below_drew1 (pw_below_drewN (Below.refl w.heap.size w) _)⟩; clear hq_) | (generalize w.drew = w8 at HB hHeld ⊢))
   refine pure_ (i := 0) (N := some 10) (v := ?_) (a' := ?_) #[true,false,false,false,false,false,false,false,false,false,false] rfl rfl (any_of HT_.out (by kernel_rfl)) (fun _ _ _ h => h) (Or.inl ⟨by rfl,?_⟩) ?_ ?_; rotate_left
   · intro w'; go_simp; with_reducible rfl
   rotate_left
   · simp only [Act.put,List.setIfInBounds_toArray,List.set_cons_zero,List.set_cons_succ,i64_w,i32_w]; rfl
   refine pure_ (i := 1) (N := some 11) (v := ?_) (a' := ?_) #[true,true,false,false,false,false,false,false,false,false,false] rfl rfl (any_of HT_.out (by kernel_rfl)) (fun _ _ _ h => h) (Or.inl ⟨by rfl,?_⟩) ?_ ?_; rotate_left
   · intro w'; go_simp; with_reducible rfl
   rotate_left
   · simp only [Act.put,List.setIfInBounds_toArray,List.set_cons_zero,List.set_cons_succ,i64_w,i32_w]; rfl
   refine pure_ (i := 3) (N := some 13) (v := ?_) (a' := ?_) #[true,true,false,true,false,false,false,false,false,false,false] rfl rfl (any_of HT_.out (by kernel_rfl)) (fun _ _ _ h => h) (Or.inl ⟨by rfl,?_⟩) ?_ ?_; rotate_left
   · intro w'; go_simp; with_reducible rfl
   rotate_left
   · simp only [Act.put,List.setIfInBounds_toArray,List.set_cons_zero,List.set_cons_succ,i64_w,i32_w]; rfl
   refine pure_ (i := 4) (N := some 14) (v := ?_) (a' := ?_) #[true,true,false,true,true,false,false,false,false,false,false] rfl rfl (any_of HT_.out (by kernel_rfl)) (fun _ _ _ h => h) (Or.inl ⟨by rfl,?_⟩) ?_ ?_; rotate_left
   · intro w'; go_simp; with_reducible rfl
   rotate_left
   · simp only [Act.put,List.setIfInBounds_toArray,List.set_cons_zero,List.set_cons_succ,i64_w,i32_w]; rfl
   refine pure_ (i := 5) (N := some 15) (v := ?_) (a' := ?_) #[true,true,false,true,true,true,false,false,false,false,false] rfl rfl (any_of HT_.out (by kernel_rfl)) (fun _ _ _ h => h) (Or.inl ⟨by rfl,?_⟩) ?_ ?_; rotate_left
   · intro w'; go_simp; with_reducible rfl
   rotate_left
   · simp only [Act.put,List.setIfInBounds_toArray,List.set_cons_zero,List.set_cons_succ,i64_w,i32_w]; rfl
   refine pure_ (i := 6) (N := some 16) (v := ?_) (a' := ?_) #[true,true,false,true,true,true,true,false,false,false,false] rfl rfl (any_of HT_.out (by kernel_rfl)) (fun _ _ _ h => h) (Or.inl ⟨by rfl,?_⟩) ?_ ?_; rotate_left
   · intro w'; go_simp; with_reducible rfl
   rotate_left
   · simp only [Act.put,List.setIfInBounds_toArray,List.set_cons_zero,List.set_cons_succ,i64_w,i32_w]; rfl
   refine join_ (σ := Value) 2 #[true,true,true,true,true,true,true,true,true,false,false] (fun s_ => [(12,.string t104),(17,s_),(18,.string (strOfNums y105))]) (fun s_ w' => (Kd.R (Kd.int .u8) 5 w' w.heap.size (fun _ => True) s_ y105) ∧ (Below w.heap.size w w')) ?_ ?_; rotate_left
   ·
    intro hCont; refine two_ (i := 2) (j := 7) (Ni := some 12) (Nj := some 17) #[true,true,true,true,true,true,true,false,false,false,false] #[true,true,false,true,true,true,true,true,false,false,false] rfl rfl rfl rfl (two_of HT_.out (by kernel_rfl)) (by decide) (by decide) (fun K hK => ?_) (fun K hK => ?_)
    ·
     skip
     refine goes_ Tryz.func58 (by kernel_rfl) rfl #[.int .i64 (wrap64 (Int.tdiv a0 10))] (by rfl) rfl rfl zrr ?_; with_reducible refine (ih k (by omega) (wrap64 (Int.tdiv a0 10)) t104 _ A6.out).mono ?_
     rintro e w9 ⟨rfl,hb⟩; refine ⟨_,rfl,?_⟩; have n0_ := Aside0.mk (below_step zbw hb); clear HB; have HB := n0_; clear n0_
     (try clear hb)
     (try clear hb2)
     (try clear hk)
     (try clear hi)
     refine hK.out _ _ trivial (fun hHeld => ?_); clear hK K; refine norm_ (a' := ?_) ?_ ?_; rotate_left
     ·
      show Act.put _ (some 12) _ = _
      simp only [Act.put,List.setIfInBounds_toArray,List.set_cons_zero,List.set_cons_succ,i64_w,i32_w]; rfl
     refine one_ (i := 7) (N := some 17) #[true,true,true,true,true,true,true,true,false,false,false] rfl rfl (one_of HT_.out (by kernel_rfl)) (by decide) (fun K hK => ?_); refine Kd.R_lit_step (Kd.int .u8) _ 5 ?hg (N := 17) ?hd (xs := ([(wrap64 (48 + (Int.tmod a0 10))) % 256] : List Int)) (inner := [.int .u8 ((wrap64 (48 + (Int.tmod a0 10))) % 256)]) (ok := fun _ => True) (okp := fun _ => True) ?hr ?hp (fun _ hk => hk) trivial (Below.refl _ _) (Nat.le_refl _) (by simp) ?_; (case hd => rfl); (case hg => rfl); (case hr => first | (go_simp; done) | (go_simp; rfl)); (case hp => exact (Reps.one (show Kd.M (Kd.int .u8) _ _ _ ((wrap64 (48 + (Int.tmod a0 10))) % 256) [.int .u8 ((wrap64 (48 + (Int.tmod a0 10))) % 256)] from rfl) (Reps.none _ _)))
     intro v106 w10 ho11 hb hg_ hnew_; clear hg_ hnew_
     (first | rw [← Ny105.out] at ho11 | (simp only [Int.reduceToNat] at ho11; rw [← Ny105.out] at ho11))
     have n0_ := Aside0.mk (Kd.R_lower ho11 (below_size zbw)); have n1_ := Aside0.mk (below_step zbw hb); clear HB; have HO107 := n0_; have HB := n1_; clear n0_ n1_; clear hb ho11; refine hK.out _ _ trivial (fun hHeld => ?_); clear hK K; refine norm_ (a' := ?_) ?_ ?_; rotate_left
     ·
      show Act.put _ (some 17) _ = _
      simp only [Act.put,List.setIfInBounds_toArray,List.set_cons_zero,List.set_cons_succ,i64_w,i32_w]; rfl
     refine one_ (i := 8) (N := some 18) #[true,true,true,true,true,true,true,true,true,false,false] rfl rfl (one_of HT_.out (by kernel_rfl)) (by decide) (fun K hK => ?_); have hcv12 := own_string (P := Tryz.prog) Tryz.underlying22 Tryz.underlying5 Tryz.underlying9 (Kd.own_of_R HO107.out); refine value_ (w1 := ?_) (v := ?_) (by rfl) rfl ?_ ?_; rotate_left 2
     ·
      go_simp
      constructor
      · rfl
      · rfl
     clear hcv12; refine hK.out _ _ trivial (fun hHeld => ?_); clear hK K; refine norm_ (a' := ?_) ?_ ?_; rotate_left
     ·
      show Act.put _ (some 18) _ = _
      simp only [Act.put,List.setIfInBounds_toArray,List.set_cons_zero,List.set_cons_succ,i64_w,i32_w]; rfl
     exact norm_ (by simp only [putAll,Act.put,List.setIfInBounds_toArray,List.set_cons_zero,List.set_cons_succ]) (hCont (v106) _ ⟨(by (with_reducible repeat (first | apply Kd.R_alloc | apply Kd.R_drewN | apply Kd.R_drew)); exact HO107.out),zbw⟩)
    ·
     skip
     refine Kd.R_lit_step (Kd.int .u8) _ 5 ?hg (N := 17) ?hd (xs := ([(wrap64 (48 + (Int.tmod a0 10))) % 256] : List Int)) (inner := [.int .u8 ((wrap64 (48 + (Int.tmod a0 10))) % 256)]) (ok := fun _ => True) (okp := fun _ => True) ?hr ?hp (fun _ hk => hk) trivial (Below.refl _ _) (Nat.le_refl _) (by simp) ?_; (case hd => rfl); (case hg => rfl); (case hr => first | (go_simp; done) | (go_simp; rfl)); (case hp => exact (Reps.one (show Kd.M (Kd.int .u8) _ _ _ ((wrap64 (48 + (Int.tmod a0 10))) % 256) [.int .u8 ((wrap64 (48 + (Int.tmod a0 10))) % 256)] from rfl) (Reps.none _ _)))
     intro v106 w9 ho10 hb hg_ hnew_; clear hg_ hnew_
     (first | rw [← Ny105.out] at ho10 | (simp only [Int.reduceToNat] at ho10; rw [← Ny105.out] at ho10))
     have n0_ := Aside0.mk (Kd.R_lower ho10 (below_size zbw)); have n1_ := Aside0.mk (below_step zbw hb); clear HB; have HO107 := n0_; have HB := n1_; clear n0_ n1_; clear hb ho10; refine hK.out _ _ trivial (fun hHeld => ?_); clear hK K; refine norm_ (a' := ?_) ?_ ?_; rotate_left
     ·
      show Act.put _ (some 17) _ = _
      simp only [Act.put,List.setIfInBounds_toArray,List.set_cons_zero,List.set_cons_succ,i64_w,i32_w]; rfl
     refine two_ (i := 2) (j := 8) (Ni := some 12) (Nj := some 18) #[true,true,true,true,true,true,true,true,false,false,false] #[true,true,false,true,true,true,true,true,true,false,false] rfl rfl rfl rfl (two_of HT_.out (by kernel_rfl)) (by decide) (by decide) (fun K hK => ?_) (fun K hK => ?_)
     ·
      skip
      refine goes_ Tryz.func58 (by kernel_rfl) rfl #[.int .i64 (wrap64 (Int.tdiv a0 10))] (by rfl) rfl rfl zrr ?_; with_reducible refine (ih k (by omega) (wrap64 (Int.tdiv a0 10)) t104 _ A6.out).mono ?_
      rintro e w11 ⟨rfl,hb⟩; refine ⟨_,rfl,?_⟩; have n0_ := Aside0.mk (Kd.R_below (by (with_reducible repeat (first | apply Kd.R_alloc | apply Kd.R_drewN | apply Kd.R_drew)); exact HO107.out) hb); have n1_ := Aside0.mk (below_step zbw hb); clear HO107; clear HB; have HO107 := n0_; have HB := n1_; clear n0_ n1_
      (try clear hb)
      (try clear hb2)
      (try clear hk)
      (try clear hi)
      refine hK.out _ _ trivial (fun hHeld => ?_); clear hK K; refine norm_ (a' := ?_) ?_ ?_; rotate_left
      ·
       show Act.put _ (some 12) _ = _
       simp only [Act.put,List.setIfInBounds_toArray,List.set_cons_zero,List.set_cons_succ,i64_w,i32_w]; rfl
      refine one_ (i := 8) (N := some 18) #[true,true,true,true,true,true,true,true,true,false,false] rfl rfl (one_of HT_.out (by kernel_rfl)) (by decide) (fun K hK => ?_); have hcv12 := own_string (P := Tryz.prog) Tryz.underlying22 Tryz.underlying5 Tryz.underlying9 (Kd.own_of_R HO107.out); refine value_ (w1 := ?_) (v := ?_) (by rfl) rfl ?_ ?_; rotate_left 2
      ·
       go_simp
       constructor
       · rfl
       · rfl
      clear hcv12; refine hK.out _ _ trivial (fun hHeld => ?_); clear hK K; refine norm_ (a' := ?_) ?_ ?_; rotate_left
      ·
       show Act.put _ (some 18) _ = _
       simp only [Act.put,List.setIfInBounds_toArray,List.set_cons_zero,List.set_cons_succ,i64_w,i32_w]; rfl
      exact norm_ (by simp only [putAll,Act.put,List.setIfInBounds_toArray,List.set_cons_zero,List.set_cons_succ]) (hCont (v106) _ ⟨(by (with_reducible repeat (first | apply Kd.R_alloc | apply Kd.R_drewN | apply Kd.R_drew)); exact HO107.out),zbw⟩)
     ·
      skip
      have hcv11 := own_string (P := Tryz.prog) Tryz.underlying22 Tryz.underlying5 Tryz.underlying9 (Kd.own_of_R HO107.out); refine value_ (w1 := ?_) (v := ?_) (by rfl) rfl ?_ ?_; rotate_left 2
      ·
       go_simp
       constructor
       · rfl
       · rfl
      clear hcv11; refine hK.out _ _ trivial (fun hHeld => ?_); clear hK K; refine norm_ (a' := ?_) ?_ ?_; rotate_left
      ·
       show Act.put _ (some 18) _ = _
       simp only [Act.put,List.setIfInBounds_toArray,List.set_cons_zero,List.set_cons_succ,i64_w,i32_w]; rfl
      refine one_ (i := 2) (N := some 12) #[true,true,true,true,true,true,true,true,true,false,false] rfl rfl (one_of HT_.out (by kernel_rfl)) (by decide) (fun K hK => ?_); refine goes_ Tryz.func58 (by kernel_rfl) rfl #[.int .i64 (wrap64 (Int.tdiv a0 10))] (by rfl) rfl rfl zrr ?_; with_reducible refine (ih k (by omega) (wrap64 (Int.tdiv a0 10)) t104 _ A6.out).mono ?_
      rintro e w12 ⟨rfl,hb⟩; refine ⟨_,rfl,?_⟩; have n0_ := Aside0.mk (Kd.R_below (by (with_reducible repeat (first | apply Kd.R_alloc | apply Kd.R_drewN | apply Kd.R_drew)); exact HO107.out) hb); have n1_ := Aside0.mk (below_step zbw hb); clear HO107; clear HB; have HO107 := n0_; have HB := n1_; clear n0_ n1_
      (try clear hb)
      (try clear hb2)
      (try clear hk)
      (try clear hi)
      refine hK.out _ _ trivial (fun hHeld => ?_); clear hK K; refine norm_ (a' := ?_) ?_ ?_; rotate_left
      ·
       show Act.put _ (some 12) _ = _
       simp only [Act.put,List.setIfInBounds_toArray,List.set_cons_zero,List.set_cons_succ,i64_w,i32_w]; rfl
      exact norm_ (by simp only [putAll,Act.put,List.setIfInBounds_toArray,List.set_cons_zero,List.set_cons_succ]) (hCont (v106) _ ⟨(by (with_reducible repeat (first | apply Kd.R_alloc | apply Kd.R_drewN | apply Kd.R_drew)); exact HO107.out),zbw⟩)
   rintro v106 w13 ⟨h0_,h1_⟩; have n0_ : Aside0 (Kd.R (Kd.int .u8) 5 w13 w.heap.size (fun _ => True) v106 y105) := ⟨h0_⟩; have n1_ : Aside0 (Below w.heap.size w w13) := ⟨h1_⟩; clear HB; clear h0_ h1_; have HO107 := n0_; have HB := n1_; clear n0_ n1_; have hHeld := trivial; refine norm_ (a' := ?_) ?_ ?_; rotate_left
   · simp only [putAll,Act.put,List.setIfInBounds_toArray,List.set_cons_zero,List.set_cons_succ]; rfl
   refine pure_ (i := 9) (N := some 19) (v := ?_) (a' := ?_) #[true,true,true,true,true,true,true,true,true,true,false] rfl rfl (any_of HT_.out (by kernel_rfl)) (fun _ _ _ h => h) (Or.inl ⟨by rfl,?_⟩) ?_ ?_; rotate_left
   · intro w'; go_simp; with_reducible rfl
   rotate_left
   · simp only [Act.put,List.setIfInBounds_toArray,List.set_cons_zero,List.set_cons_succ,i64_w,i32_w]; rfl
   refine pure_ (i := 10) (N := some 2) (v := ?_) (a' := ?_) #[true,true,true,true,true,true,true,true,true,true,true] rfl rfl (any_of HT_.out (by kernel_rfl)) (fun _ _ _ h => h) (Or.inl ⟨by rfl,?_⟩) ?_ ?_; rotate_left
   · intro w'; go_simp; with_reducible rfl
   rotate_left
   · simp only [Act.put,List.setIfInBounds_toArray,List.set_cons_zero,List.set_cons_succ,i64_w,i32_w]; rfl
   refine done_ (done_of HT_.out (by kernel_rfl)) ?_; try go_wp2
   go_ret
   exact ⟨zer,zbw⟩
  · rw [if_neg c7] at H; exact absurd H (by simp)

end Go.Proofs.YtffbfkfbeggdnaaGreatDoor.P
-- printed by xprint.py
namespace Go.Proofs.YtffbfkfbeggdnaaGreatDoor.P
open Go.RowKit Go.Proofs.YtffbfkfbeggdnaaGreatDoorW.PrintWords Go.Proofs.YtffbfkfbeggdnaaGreatDoorW.PrintLast Go.Proofs.YtffbfkfbeggdnaaGreatDoorW.PrintMore
attribute [local go_sem] max2_int min2_int max_two min_two max_three min_three max_four min_four
set_option linter.unusedVariables false
set_option linter.unusedSimpArgs false

def spec_wkPiece.f (a0 : ByteArray) : Option (Bool) := if a0.toList = ([110] : List UInt8) then (some true) else (if a0.toList = ([107] : List UInt8) then (some true) else (if a0.toList = ([114] : List UInt8) then (some true) else (some (a0.toList == ([98] : List UInt8)))))
set_option maxHeartbeats 8000000 in
set_option maxRecDepth 100000 in
theorem spec_wkPiece.calls (a0 : ByteArray) (r : Bool) (w : World) (h : spec_wkPiece.f a0 = some r) :
  Calls Tryz.prog 45 #[.string a0] w fun e w' => e = .returned (.bool r) ∧ Drawn0 w w' := by
 have H : (if a0.toList = ([110] : List UInt8) then (some true) else (if a0.toList = ([107] : List UInt8) then (some true) else (if a0.toList = ([114] : List UInt8) then (some true) else (some (a0.toList == ([98] : List UInt8)))))) = some r := h; clear h
 by_cases c2 : a0.toList = ([110] : List UInt8)
 ·
  rw [if_pos c2] at H; have c2b0 : (a0.toList == ([110] : List UInt8)) = true := beq_iff_eq.mpr c2; have c2b1 : (a0.toList != ([110] : List UInt8)) = false := bne_eq_false_iff_eq.mpr c2; clear c2; obtain rfl := Option.some.inj H
  go_enter Tryz.func45,Tryz.ntmps45
  go_wp2
  go_ret
  exact ⟨by first | rfl | (simp; done) | (simp [*]; done),by repeat (first | exact Drawn0.refl _ | apply Drawn0.step)⟩
 ·
  rw [if_neg c2] at H; have c2b0 : (a0.toList == ([110] : List UInt8)) = false := beq_eq_false_iff_ne.mpr c2; have c2b1 : (a0.toList != ([110] : List UInt8)) = true := bne_iff_ne.mpr c2
  by_cases c3 : a0.toList = ([107] : List UInt8)
  ·
   rw [if_pos c3] at H; have c3b0 : (a0.toList == ([107] : List UInt8)) = true := beq_iff_eq.mpr c3; have c3b1 : (a0.toList != ([107] : List UInt8)) = false := bne_eq_false_iff_eq.mpr c3; clear c3; obtain rfl := Option.some.inj H
   go_enter Tryz.func45,Tryz.ntmps45
   go_wp2
   go_ret
   exact ⟨by first | rfl | (simp; done) | (simp [*]; done),by repeat (first | exact Drawn0.refl _ | apply Drawn0.step)⟩
  ·
   rw [if_neg c3] at H; have c3b0 : (a0.toList == ([107] : List UInt8)) = false := beq_eq_false_iff_ne.mpr c3; have c3b1 : (a0.toList != ([107] : List UInt8)) = true := bne_iff_ne.mpr c3
   by_cases c4 : a0.toList = ([114] : List UInt8)
   ·
    rw [if_pos c4] at H; have c4b0 : (a0.toList == ([114] : List UInt8)) = true := beq_iff_eq.mpr c4; have c4b1 : (a0.toList != ([114] : List UInt8)) = false := bne_eq_false_iff_eq.mpr c4; clear c4; obtain rfl := Option.some.inj H
    go_enter Tryz.func45,Tryz.ntmps45
    go_wp2
    go_ret
    exact ⟨by first | rfl | (simp; done) | (simp [*]; done),by repeat (first | exact Drawn0.refl _ | apply Drawn0.step)⟩
   ·
    rw [if_neg c4] at H; have c4b0 : (a0.toList == ([114] : List UInt8)) = false := beq_eq_false_iff_ne.mpr c4; have c4b1 : (a0.toList != ([114] : List UInt8)) = true := bne_iff_ne.mpr c4; obtain rfl := Option.some.inj H
    go_enter Tryz.func45,Tryz.ntmps45
    go_wp2
    go_ret
    exact ⟨by first | rfl | (simp; done) | (simp [*]; done),by repeat (first | exact Drawn0.refl _ | apply Drawn0.step)⟩

end Go.Proofs.YtffbfkfbeggdnaaGreatDoor.P
-- printed by xprint.py
namespace Go.Proofs.YtffbfkfbeggdnaaGreatDoor.P
open Go.RowKit Go.Proofs.YtffbfkfbeggdnaaGreatDoorW.PrintWords Go.Proofs.YtffbfkfbeggdnaaGreatDoorW.PrintLast Go.Proofs.YtffbfkfbeggdnaaGreatDoorW.PrintMore
attribute [local go_sem] max2_int min2_int max_two min_two max_three min_three max_four min_four
set_option linter.unusedVariables false
set_option linter.unusedSimpArgs false

def spec_l1Least.f (a0 : Int) (a1 : Int) : Option (Int) := if a0 < a1 then (some a0) else (some a1)
set_option maxHeartbeats 8000000 in
set_option maxRecDepth 100000 in
theorem spec_l1Least.calls (a0 : Int) (a1 : Int) (r : Int) (w : World) (h : spec_l1Least.f a0 a1 = some r) :
  Calls Tryz.prog 47 #[.int .i64 a0,.int .i64 a1] w fun e w' => e = .returned (.int .i64 r) ∧ Drawn0 w w' := by
 have H : (if a0 < a1 then (some a0) else (some a1)) = some r := h; clear h
 by_cases c3 : a0 < a1
 ·
  rw [if_pos c3] at H; have c3b0 : decide (a0 < a1) = true := decide_eq_true c3; clear c3; obtain rfl := Option.some.inj H
  go_enter Tryz.func47,Tryz.ntmps47
  go_wp2
  go_ret
  exact ⟨by first | rfl | (simp; done) | (simp [*]; done),by repeat (first | exact Drawn0.refl _ | apply Drawn0.step)⟩
 ·
  rw [if_neg c3] at H; have c3b0 : decide (a0 < a1) = false := decide_eq_false c3; clear c3; obtain rfl := Option.some.inj H
  go_enter Tryz.func47,Tryz.ntmps47
  go_wp2
  go_ret
  exact ⟨by first | rfl | (simp; done) | (simp [*]; done),by repeat (first | exact Drawn0.refl _ | apply Drawn0.step)⟩

end Go.Proofs.YtffbfkfbeggdnaaGreatDoor.P
-- printed by xprint.py
namespace Go.Proofs.YtffbfkfbeggdnaaGreatDoor.P
open Go.RowKit Go.Proofs.YtffbfkfbeggdnaaGreatDoorW.PrintWords Go.Proofs.YtffbfkfbeggdnaaGreatDoorW.PrintLast Go.Proofs.YtffbfkfbeggdnaaGreatDoorW.PrintMore
attribute [local go_sem] max2_int min2_int max_two min_two max_three min_three max_four min_four
set_option linter.unusedVariables false
set_option linter.unusedSimpArgs false

def spec_wkAt.j0 : Nat → Int → Int → Bool → Option (Int)
 | 0,_,_,_ => none
 | k + 1,x0,x1,x5 => if x5 = true then (some 48) else ((spec_l1In.f x0 0 2).bind fun t101 => (if t101 = true then ((spec_l1In.f x1 0 2).bind fun t102 => (if t102 = true then (if 0 ≤ (wrap64 ((wrap64 (3 * x1)) + x0)) then (if (wrap64 ((wrap64 (3 * x1)) + x0)) < 9 then (some (bt (⟨#[49,50,51,52,53,54,55,56,57]⟩ : ByteArray) (wrap64 ((wrap64 (3 * x1)) + x0)))) else (none)) else (none)) else (some 32))) else (some 32)))
def spec_wkAt.f (k : Nat) (a0 : Int) (a1 : Int) : Option (Int) := if a0 = 1 then (spec_wkAt.j0 k a0 a1 (a1 == 3)) else (spec_wkAt.j0 k a0 a1 false)
theorem spec_wkAt.mono_l : ∀ k,(∀ y0 y1 y2,LeO (spec_wkAt.j0 k y0 y1 y2) (spec_wkAt.j0 (k + 1) y0 y1 y2))
 | 0 => by intros; intro r h; simp [spec_wkAt.j0] at h
 | k + 1 => by
  have ih0 := spec_wkAt.mono_l k
  ·
   intro y0 y1 y2
   unfold spec_wkAt.j0
   repeat' first
   | (with_reducible exact ih0 _ _ _)
   | (with_reducible exact LeO.refl _)
   | (with_reducible exact LeO.none _)
   | (with_reducible refine LeO.ite ?_ ?_)
   | (with_reducible refine LeO.bind ?_ (fun _ => ?_))
   | exact ih0 _ _ _
   | exact LeO.none _
   | refine LeO.ite ?_ ?_
   | refine LeO.bind ?_ (fun _ => ?_)
theorem spec_wkAt.mono : ∀ y0 y1 k,LeO (spec_wkAt.f k y0 y1) (spec_wkAt.f (k + 1) y0 y1) := by
 intro y0 y1 k; have ih0 := spec_wkAt.mono_l k
 unfold spec_wkAt.f
 repeat' first
   | (with_reducible exact ih0 _ _ _)
   | (with_reducible exact LeO.refl _)
   | (with_reducible exact LeO.none _)
   | (with_reducible refine LeO.ite ?_ ?_)
   | (with_reducible refine LeO.bind ?_ (fun _ => ?_))
   | exact ih0 _ _ _
   | exact LeO.none _
   | refine LeO.ite ?_ ?_
   | refine LeO.bind ?_ (fun _ => ?_)
set_option maxHeartbeats 8000000 in
set_option maxRecDepth 100000 in
theorem spec_wkAt.calls (k : Nat) (a0 : Int) (a1 : Int) (r : Int) (w : World) (h : spec_wkAt.f k a0 a1 = some r) :
  Calls Tryz.prog 83 #[.int .i64 a0,.int .i64 a1] w fun e w' => e = .returned (.int .u8 r) ∧ Drawn0 w w' := by
 have H : (if a0 = 1 then (spec_wkAt.j0 k a0 a1 (a1 == 3)) else (spec_wkAt.j0 k a0 a1 false)) = some r := h; clear h; have HC3 := Aside0.mk H; clear H
 go_enter Tryz.func83,Tryz.ntmps83
 go_upto_region 1 with (fail)
 go_cut [5] (fun v5 wc => ∃ (kq : Nat) (x5_2 : Bool),v5 = .bool x5_2 ∧ Aside0 (spec_wkAt.j0 kq a0 a1 x5_2 = some r) ∧ Aside0 (kq ≤ k) ∧ Drawn0 w wc)
 case first =>
  have H := HC3.out; clear HC3
  by_cases c4 : a0 = 1
  ·
   rw [if_pos c4] at H; have c4b0 : (a0 == 1) = true := beq_iff_eq.mpr c4; have c4b1 : (a0 != 1) = false := bne_eq_false_iff_eq.mpr c4; clear c4
   (first | rw [c4b0] | (simp only [i64_w,i32_w]; rw [c4b0]) | skip)
   have H' := Aside0.mk H; clear H; go_wp2
   go_meet
   case rel => exact ⟨_,((a1 == 3)),zrs,H',⟨by first | omega | exact Nat.le_refl _⟩,by repeat (first | exact Drawn0.refl _ | apply Drawn0.step)⟩
  ·
   rw [if_neg c4] at H; have c4b0 : (a0 == 1) = false := beq_eq_false_iff_ne.mpr c4; have c4b1 : (a0 != 1) = true := bne_iff_ne.mpr c4
   (first | rw [c4b0] | (simp only [i64_w,i32_w]; rw [c4b0]) | skip)
   have H' := Aside0.mk H; clear H; go_wp2
   go_meet
   case rel => exact ⟨_,(false),zrs,H',⟨by first | omega | exact Nat.le_refl _⟩,by repeat (first | exact Drawn0.refl _ | apply Drawn0.step)⟩
 case rest =>
  clear HC3; try clear p2
  try clear c4
  try clear c4b0
  try clear c4b1
  obtain ⟨kq,x5_2,rfl,HA,HJ2,⟨mc2,rfl⟩⟩ := hcut
  cases kq with
  | zero => exact absurd HA.out (by simp [spec_wkAt.j0])
  | succ kj2 =>
   have H := HA.out; clear HA; simp only [spec_wkAt.j0] at H
   by_cases c5 : x5_2 = true
   ·
    subst c5; have H1 : (some 48) = some r := by rw [if_pos rfl] at H; exact H
    clear H; have H := H1; clear H1; obtain rfl := Option.some.inj H; go_wp2
    go_ret
    exact ⟨by first | rfl | (simp; done) | (simp [*]; done),by repeat (first | exact Drawn0.refl _ | apply Drawn0.step)⟩
   ·
    replace c5 := Bool.eq_false_iff.mpr c5; subst c5; have H1 : ((spec_l1In.f a0 0 2).bind fun t101 => (if t101 = true then ((spec_l1In.f a1 0 2).bind fun t102 => (if t102 = true then (if 0 ≤ (wrap64 ((wrap64 (3 * a1)) + a0)) then (if (wrap64 ((wrap64 (3 * a1)) + a0)) < 9 then (some (bt (⟨#[49,50,51,52,53,54,55,56,57]⟩ : ByteArray) (wrap64 ((wrap64 (3 * a1)) + a0)))) else (none)) else (none)) else (some 32))) else (some 32))) = some r := by rw [if_neg (show ¬ (false = true) by decide)] at H; exact H
    clear H; have H := H1; clear H1; replace H := Option.bind_eq_some_iff.mp H; obtain ⟨t101,A60,H⟩ := H; replace H : (if t101 = true then ((spec_l1In.f a1 0 2).bind fun t102 => (if t102 = true then (if 0 ≤ (wrap64 ((wrap64 (3 * a1)) + a0)) then (if (wrap64 ((wrap64 (3 * a1)) + a0)) < 9 then (some (bt (⟨#[49,50,51,52,53,54,55,56,57]⟩ : ByteArray) (wrap64 ((wrap64 (3 * a1)) + a0)))) else (none)) else (none)) else (some 32))) else (some 32)) = some r := H; have A6 := Aside0.mk A60; clear A60
    by_cases c7 : t101 = true
    ·
     subst c7; have H1 : ((spec_l1In.f a1 0 2).bind fun t102 => (if t102 = true then (if 0 ≤ (wrap64 ((wrap64 (3 * a1)) + a0)) then (if (wrap64 ((wrap64 (3 * a1)) + a0)) < 9 then (some (bt (⟨#[49,50,51,52,53,54,55,56,57]⟩ : ByteArray) (wrap64 ((wrap64 (3 * a1)) + a0)))) else (none)) else (none)) else (some 32))) = some r := by rw [if_pos rfl] at H; exact H
     clear H; have H := H1; clear H1; replace H := Option.bind_eq_some_iff.mp H; obtain ⟨t102,A80,H⟩ := H; replace H : (if t102 = true then (if 0 ≤ (wrap64 ((wrap64 (3 * a1)) + a0)) then (if (wrap64 ((wrap64 (3 * a1)) + a0)) < 9 then (some (bt (⟨#[49,50,51,52,53,54,55,56,57]⟩ : ByteArray) (wrap64 ((wrap64 (3 * a1)) + a0)))) else (none)) else (none)) else (some 32)) = some r := H; have A8 := Aside0.mk A80; clear A80
     by_cases c9 : t102 = true
     ·
      subst c9; have H1 : (if 0 ≤ (wrap64 ((wrap64 (3 * a1)) + a0)) then (if (wrap64 ((wrap64 (3 * a1)) + a0)) < 9 then (some (bt (⟨#[49,50,51,52,53,54,55,56,57]⟩ : ByteArray) (wrap64 ((wrap64 (3 * a1)) + a0)))) else (none)) else (none)) = some r := by rw [if_pos rfl] at H; exact H
      clear H; have H := H1; clear H1; obtain ⟨ji10,hji10⟩ : ∃ j_ : Int,(wrap64 ((wrap64 (3 * a1)) + a0)) = j_ := ⟨_,rfl⟩; replace H : (if 0 ≤ (ji10) then (if (ji10) < 9 then (some (bt (⟨#[49,50,51,52,53,54,55,56,57]⟩ : ByteArray) (ji10))) else (none)) else (none)) = some r := by first | (rw [hji10] at H; exact H) | (simp only [hji10] at H ⊢; exact H)
      (try rw [hji10] at A6)
      (try rw [hji10] at A8)
      have hji10w : (IntKind.i64.wrap ((wrap64 (3 * a1)) + a0)) = ji10 := (i64_w _).trans hji10
      by_cases c11 : 0 ≤ (ji10)
      ·
       rw [if_pos c11] at H; have c11b0 : decide (0 ≤ (ji10)) = true := decide_eq_true c11; clear c11
       by_cases c12 : (ji10) < 9
       ·
        rw [if_pos c12] at H; have c12b0 : decide ((ji10) < 9) = true := decide_eq_true c12; clear c12; obtain rfl := Option.some.inj H; go_wp2_with (first | ((with_reducible refine gate_callee (f := 40) rfl ?_); refine goesL_ (some 14) rfl rfl Tryz.func40 (by kernel_rfl) rfl #[.int .i64 a0,.int .i64 0,.int .i64 2] rfl zrr ?_; (with_reducible refine (spec_l1In.calls a0 0 2 true _ A6.out).mono ?_); rintro e w' ⟨rfl,⟨nd,rfl⟩⟩; refine ⟨_,rfl,?_⟩) | (go_at_call 40; (with_reducible refine (spec_l1In.calls a1 0 2 true _ A8.out).mono ?_); rintro e w' ⟨rfl,⟨nd,rfl⟩⟩; have p13 : 0 ≤ ((ji10) : Int) := zdd; have q13 : (ji10) < (9 : Int) := zdd; have hx13 := bt_at (⟨#[49,50,51,52,53,54,55,56,57]⟩ : ByteArray) (ji10); replace p13 := eq_true p13; replace q13 := eq_true q13))
        go_ret
        exact ⟨by first | rfl | (simp; done) | (simp only [← hji10] <;> (first | rfl | simp)) | (simp [*]; done),by repeat (first | exact Drawn0.refl _ | apply Drawn0.step)⟩
       · rw [if_neg c12] at H; exact absurd H (by simp)
      · rw [if_neg c11] at H; exact absurd H (by simp)
     ·
      replace c9 := Bool.eq_false_iff.mpr c9; subst c9; have H1 : (some 32) = some r := by rw [if_neg (show ¬ (false = true) by decide)] at H; exact H
      clear H; have H := H1; clear H1; obtain rfl := Option.some.inj H; go_wp2_with (first | ((with_reducible refine gate_callee (f := 40) rfl ?_); refine goesL_ (some 14) rfl rfl Tryz.func40 (by kernel_rfl) rfl #[.int .i64 a0,.int .i64 0,.int .i64 2] rfl zrr ?_; (with_reducible refine (spec_l1In.calls a0 0 2 true _ A6.out).mono ?_); rintro e w' ⟨rfl,⟨nd,rfl⟩⟩; refine ⟨_,rfl,?_⟩) | (go_at_call 40; (with_reducible refine (spec_l1In.calls a1 0 2 false _ A8.out).mono ?_); rintro e w' ⟨rfl,⟨nd,rfl⟩⟩))
      go_ret
      exact ⟨by first | rfl | (simp; done) | (simp [*]; done),by repeat (first | exact Drawn0.refl _ | apply Drawn0.step)⟩
    ·
     replace c7 := Bool.eq_false_iff.mpr c7; subst c7; have H1 : (some 32) = some r := by rw [if_neg (show ¬ (false = true) by decide)] at H; exact H
     clear H; have H := H1; clear H1; obtain rfl := Option.some.inj H; go_wp2_with (first | ((with_reducible refine gate_callee (f := 40) rfl ?_); refine goesL_ (some 14) rfl rfl Tryz.func40 (by kernel_rfl) rfl #[.int .i64 a0,.int .i64 0,.int .i64 2] rfl zrr ?_; (with_reducible refine (spec_l1In.calls a0 0 2 false _ A6.out).mono ?_); rintro e w' ⟨rfl,⟨nd,rfl⟩⟩; refine ⟨_,rfl,?_⟩))
     go_ret
     exact ⟨by first | rfl | (simp; done) | (simp [*]; done),by repeat (first | exact Drawn0.refl _ | apply Drawn0.step)⟩

end Go.Proofs.YtffbfkfbeggdnaaGreatDoor.P
-- printed by xprint.py
namespace Go.Proofs.YtffbfkfbeggdnaaGreatDoor.P
open Go.RowKit Go.Proofs.YtffbfkfbeggdnaaGreatDoorW.PrintWords Go.Proofs.YtffbfkfbeggdnaaGreatDoorW.PrintLast Go.Proofs.YtffbfkfbeggdnaaGreatDoorW.PrintMore
attribute [local go_sem] max2_int min2_int max_two min_two max_three min_three max_four min_four
set_option linter.unusedVariables false
set_option linter.unusedSimpArgs false

def spec_l1Most.f (a0 : Int) (a1 : Int) : Option (Int) := if a0 > a1 then (some a0) else (some a1)
set_option maxHeartbeats 8000000 in
set_option maxRecDepth 100000 in
theorem spec_l1Most.calls (a0 : Int) (a1 : Int) (r : Int) (w : World) (h : spec_l1Most.f a0 a1 = some r) :
  Calls Tryz.prog 101 #[.int .i64 a0,.int .i64 a1] w fun e w' => e = .returned (.int .i64 r) ∧ Drawn0 w w' := by
 have H : (if a0 > a1 then (some a0) else (some a1)) = some r := h; clear h
 by_cases c3 : a0 > a1
 ·
  rw [if_pos c3] at H; have c3b0 : decide (a1 < a0) = true := decide_eq_true c3; clear c3; obtain rfl := Option.some.inj H
  go_enter Tryz.func101,Tryz.ntmps101
  go_wp2
  go_ret
  exact ⟨by first | rfl | (simp; done) | (simp [*]; done),by repeat (first | exact Drawn0.refl _ | apply Drawn0.step)⟩
 ·
  rw [if_neg c3] at H; have c3b0 : decide (a1 < a0) = false := decide_eq_false c3; clear c3; obtain rfl := Option.some.inj H
  go_enter Tryz.func101,Tryz.ntmps101
  go_wp2
  go_ret
  exact ⟨by first | rfl | (simp; done) | (simp [*]; done),by repeat (first | exact Drawn0.refl _ | apply Drawn0.step)⟩

end Go.Proofs.YtffbfkfbeggdnaaGreatDoor.P
-- printed by xprint.py
namespace Go.Proofs.YtffbfkfbeggdnaaGreatDoor.P
open Go.RowKit Go.Proofs.YtffbfkfbeggdnaaGreatDoorW.PrintWords Go.Proofs.YtffbfkfbeggdnaaGreatDoorW.PrintLast Go.Proofs.YtffbfkfbeggdnaaGreatDoorW.PrintMore
attribute [local go_sem] max2_int min2_int max_two min_two max_three min_three max_four min_four
set_option linter.unusedVariables false
set_option linter.unusedSimpArgs false

def spec_l1Abs.f (a0 : Int) : Option (Int) := (spec_l1Most.f a0 (wrap64 (-a0))).bind fun t101 => (some t101)
set_option maxHeartbeats 8000000 in
set_option maxRecDepth 100000 in
theorem spec_l1Abs.calls (a0 : Int) (r : Int) (w : World) (h : spec_l1Abs.f a0 = some r) :
  Calls Tryz.prog 100 #[.int .i64 a0] w fun e w' => e = .returned (.int .i64 r) ∧ Drawn0 w w' := by
 have H : ((spec_l1Most.f a0 (wrap64 (-a0))).bind fun t101 => (some t101)) = some r := h; clear h; replace H := Option.bind_eq_some_iff.mp H; obtain ⟨t101,A20,H⟩ := H; replace H : (some t101) = some r := H; have A2 := Aside0.mk A20; clear A20; obtain rfl := Option.some.inj H
 go_enter Tryz.func100,Tryz.ntmps100
 go_wp2_with (first | ((with_reducible refine gate_callee (f := 101) rfl ?_); refine goesL_ (some 6) rfl rfl Tryz.func101 (by kernel_rfl) rfl #[.int .i64 a0,.int .i64 (wrap64 (-a0))] rfl zrr ?_; (with_reducible refine (spec_l1Most.calls a0 (wrap64 (-a0)) t101 _ A2.out).mono ?_); rintro e w' ⟨rfl,⟨nd,rfl⟩⟩; refine ⟨_,rfl,?_⟩))
 go_ret
 exact ⟨by first | rfl | (simp; done) | (simp [*]; done),by repeat (first | exact Drawn0.refl _ | apply Drawn0.step)⟩

end Go.Proofs.YtffbfkfbeggdnaaGreatDoor.P
-- printed by xprint.py
namespace Go.Proofs.YtffbfkfbeggdnaaGreatDoor.P
open Go.RowKit Go.Proofs.YtffbfkfbeggdnaaGreatDoorW.PrintWords Go.Proofs.YtffbfkfbeggdnaaGreatDoorW.PrintLast Go.Proofs.YtffbfkfbeggdnaaGreatDoorW.PrintMore
attribute [local go_sem] max2_int min2_int max_two min_two max_three min_three max_four min_four
set_option linter.unusedVariables false
set_option linter.unusedSimpArgs false

def spec_wkCan.f (a0 : ByteArray) (a1 : Int) (a2 : Int) : Option (Bool) := (spec_l1Abs.f a1).bind fun t101 => ((spec_l1Abs.f a2).bind fun t102 => (if a0.toList = ([110] : List UInt8) then (some ((wrap64 (t101 * t102)) == 2)) else (if a0.toList = ([107] : List UInt8) then ((spec_l1Most.f t101 t102).bind fun t103 => (some (t103 == 1))) else (if a0.toList = ([114] : List UInt8) then (if (wrap64 (t101 * t102)) = 0 then (some (decide ((wrap64 (t101 + t102)) > 0))) else (some false)) else (if t101 = t102 then (some (decide (t101 > 0))) else (some false))))))
set_option maxHeartbeats 8000000 in
set_option maxRecDepth 100000 in
theorem spec_wkCan.calls (a0 : ByteArray) (a1 : Int) (a2 : Int) (r : Bool) (w : World) (h : spec_wkCan.f a0 a1 a2 = some r) :
  Calls Tryz.prog 81 #[.string a0,.int .i64 a1,.int .i64 a2] w fun e w' => e = .returned (.bool r) ∧ Drawn0 w w' := by
 have H : ((spec_l1Abs.f a1).bind fun t101 => ((spec_l1Abs.f a2).bind fun t102 => (if a0.toList = ([110] : List UInt8) then (some ((wrap64 (t101 * t102)) == 2)) else (if a0.toList = ([107] : List UInt8) then ((spec_l1Most.f t101 t102).bind fun t103 => (some (t103 == 1))) else (if a0.toList = ([114] : List UInt8) then (if (wrap64 (t101 * t102)) = 0 then (some (decide ((wrap64 (t101 + t102)) > 0))) else (some false)) else (if t101 = t102 then (some (decide (t101 > 0))) else (some false))))))) = some r := h; clear h; replace H := Option.bind_eq_some_iff.mp H; obtain ⟨t101,A40,H⟩ := H; (try dsimp only at H); have A4 := Aside0.mk A40; clear A40; replace H := Option.bind_eq_some_iff.mp H; obtain ⟨t102,A50,H⟩ := H; (try dsimp only at H); have A5 := Aside0.mk A50; clear A50
 by_cases c6 : a0.toList = ([110] : List UInt8)
 ·
  rw [if_pos c6] at H; have c6b0 : (a0.toList == ([110] : List UInt8)) = true := beq_iff_eq.mpr c6; have c6b1 : (a0.toList != ([110] : List UInt8)) = false := bne_eq_false_iff_eq.mpr c6; clear c6; obtain rfl := Option.some.inj H
  go_enter Tryz.func81,Tryz.ntmps81
  go_wp2_with (first | ((with_reducible refine gate_callee (f := 100) rfl ?_); refine goesL_ (some 8) rfl rfl Tryz.func100 (by kernel_rfl) rfl #[.int .i64 a1] rfl zrr ?_; (with_reducible refine (spec_l1Abs.calls a1 t101 _ A4.out).mono ?_); rintro e w' ⟨rfl,⟨nd,rfl⟩⟩; refine ⟨_,rfl,?_⟩) | ((with_reducible refine gate_callee (f := 100) rfl ?_); refine goesL_ (some 10) rfl rfl Tryz.func100 (by kernel_rfl) rfl #[.int .i64 a2] rfl zrr ?_; (with_reducible refine (spec_l1Abs.calls a2 t102 _ A5.out).mono ?_); rintro e w' ⟨rfl,⟨nd,rfl⟩⟩; refine ⟨_,rfl,?_⟩))
  go_ret
  exact ⟨by first | rfl | (simp; done) | (simp [*]; done),by repeat (first | exact Drawn0.refl _ | apply Drawn0.step)⟩
 ·
  rw [if_neg c6] at H; have c6b0 : (a0.toList == ([110] : List UInt8)) = false := beq_eq_false_iff_ne.mpr c6; have c6b1 : (a0.toList != ([110] : List UInt8)) = true := bne_iff_ne.mpr c6
  by_cases c7 : a0.toList = ([107] : List UInt8)
  ·
   rw [if_pos c7] at H; have c7b0 : (a0.toList == ([107] : List UInt8)) = true := beq_iff_eq.mpr c7; have c7b1 : (a0.toList != ([107] : List UInt8)) = false := bne_eq_false_iff_eq.mpr c7; clear c7; replace H := Option.bind_eq_some_iff.mp H; obtain ⟨t103,A80,H⟩ := H; replace H : (some (t103 == 1)) = some r := H; have A8 := Aside0.mk A80; clear A80; obtain rfl := Option.some.inj H
   go_enter Tryz.func81,Tryz.ntmps81
   go_wp2_with (first | ((with_reducible refine gate_callee (f := 100) rfl ?_); refine goesL_ (some 8) rfl rfl Tryz.func100 (by kernel_rfl) rfl #[.int .i64 a1] rfl zrr ?_; (with_reducible refine (spec_l1Abs.calls a1 t101 _ A4.out).mono ?_); rintro e w' ⟨rfl,⟨nd,rfl⟩⟩; refine ⟨_,rfl,?_⟩) | ((with_reducible refine gate_callee (f := 100) rfl ?_); refine goesL_ (some 10) rfl rfl Tryz.func100 (by kernel_rfl) rfl #[.int .i64 a2] rfl zrr ?_; (with_reducible refine (spec_l1Abs.calls a2 t102 _ A5.out).mono ?_); rintro e w' ⟨rfl,⟨nd,rfl⟩⟩; refine ⟨_,rfl,?_⟩) | ((with_reducible refine gate_callee (f := 101) rfl ?_); refine goesL_ (some 22) rfl rfl Tryz.func101 (by kernel_rfl) rfl #[.int .i64 t101,.int .i64 t102] rfl zrr ?_; (with_reducible refine (spec_l1Most.calls t101 t102 t103 _ A8.out).mono ?_); rintro e w' ⟨rfl,⟨nd,rfl⟩⟩; refine ⟨_,rfl,?_⟩))
   go_ret
   exact ⟨by first | rfl | (simp; done) | (simp [*]; done),by repeat (first | exact Drawn0.refl _ | apply Drawn0.step)⟩
  ·
   rw [if_neg c7] at H; have c7b0 : (a0.toList == ([107] : List UInt8)) = false := beq_eq_false_iff_ne.mpr c7; have c7b1 : (a0.toList != ([107] : List UInt8)) = true := bne_iff_ne.mpr c7
   by_cases c9 : a0.toList = ([114] : List UInt8)
   ·
    rw [if_pos c9] at H; have c9b0 : (a0.toList == ([114] : List UInt8)) = true := beq_iff_eq.mpr c9; have c9b1 : (a0.toList != ([114] : List UInt8)) = false := bne_eq_false_iff_eq.mpr c9; clear c9
    by_cases c10 : (wrap64 (t101 * t102)) = 0
    ·
     rw [if_pos c10] at H; have c10b0 : ((wrap64 (t101 * t102)) == 0) = true := beq_iff_eq.mpr c10; have c10b1 : ((wrap64 (t101 * t102)) != 0) = false := bne_eq_false_iff_eq.mpr c10; clear c10; obtain rfl := Option.some.inj H
     go_enter Tryz.func81,Tryz.ntmps81
     go_wp2_with (first | ((with_reducible refine gate_callee (f := 100) rfl ?_); refine goesL_ (some 8) rfl rfl Tryz.func100 (by kernel_rfl) rfl #[.int .i64 a1] rfl zrr ?_; (with_reducible refine (spec_l1Abs.calls a1 t101 _ A4.out).mono ?_); rintro e w' ⟨rfl,⟨nd,rfl⟩⟩; refine ⟨_,rfl,?_⟩) | ((with_reducible refine gate_callee (f := 100) rfl ?_); refine goesL_ (some 10) rfl rfl Tryz.func100 (by kernel_rfl) rfl #[.int .i64 a2] rfl zrr ?_; (with_reducible refine (spec_l1Abs.calls a2 t102 _ A5.out).mono ?_); rintro e w' ⟨rfl,⟨nd,rfl⟩⟩; refine ⟨_,rfl,?_⟩))
     go_ret
     exact ⟨by first | rfl | (simp; done) | (simp [*]; done),by repeat (first | exact Drawn0.refl _ | apply Drawn0.step)⟩
    ·
     rw [if_neg c10] at H; have c10b0 : ((wrap64 (t101 * t102)) == 0) = false := beq_eq_false_iff_ne.mpr c10; have c10b1 : ((wrap64 (t101 * t102)) != 0) = true := bne_iff_ne.mpr c10; obtain rfl := Option.some.inj H
     go_enter Tryz.func81,Tryz.ntmps81
     go_wp2_with (first | ((with_reducible refine gate_callee (f := 100) rfl ?_); refine goesL_ (some 8) rfl rfl Tryz.func100 (by kernel_rfl) rfl #[.int .i64 a1] rfl zrr ?_; (with_reducible refine (spec_l1Abs.calls a1 t101 _ A4.out).mono ?_); rintro e w' ⟨rfl,⟨nd,rfl⟩⟩; refine ⟨_,rfl,?_⟩) | ((with_reducible refine gate_callee (f := 100) rfl ?_); refine goesL_ (some 10) rfl rfl Tryz.func100 (by kernel_rfl) rfl #[.int .i64 a2] rfl zrr ?_; (with_reducible refine (spec_l1Abs.calls a2 t102 _ A5.out).mono ?_); rintro e w' ⟨rfl,⟨nd,rfl⟩⟩; refine ⟨_,rfl,?_⟩))
     go_ret
     exact ⟨by first | rfl | (simp; done) | (simp [*]; done),by repeat (first | exact Drawn0.refl _ | apply Drawn0.step)⟩
   ·
    rw [if_neg c9] at H; have c9b0 : (a0.toList == ([114] : List UInt8)) = false := beq_eq_false_iff_ne.mpr c9; have c9b1 : (a0.toList != ([114] : List UInt8)) = true := bne_iff_ne.mpr c9
    by_cases c11 : t101 = t102
    ·
     rw [if_pos c11] at H; have c11b0 : (t101 == t102) = true := beq_iff_eq.mpr c11; have c11b1 : (t101 != t102) = false := bne_eq_false_iff_eq.mpr c11; clear c11; obtain rfl := Option.some.inj H
     go_enter Tryz.func81,Tryz.ntmps81
     go_wp2_with (first | ((with_reducible refine gate_callee (f := 100) rfl ?_); refine goesL_ (some 8) rfl rfl Tryz.func100 (by kernel_rfl) rfl #[.int .i64 a1] rfl zrr ?_; (with_reducible refine (spec_l1Abs.calls a1 t101 _ A4.out).mono ?_); rintro e w' ⟨rfl,⟨nd,rfl⟩⟩; refine ⟨_,rfl,?_⟩) | ((with_reducible refine gate_callee (f := 100) rfl ?_); refine goesL_ (some 10) rfl rfl Tryz.func100 (by kernel_rfl) rfl #[.int .i64 a2] rfl zrr ?_; (with_reducible refine (spec_l1Abs.calls a2 t102 _ A5.out).mono ?_); rintro e w' ⟨rfl,⟨nd,rfl⟩⟩; refine ⟨_,rfl,?_⟩))
     go_ret
     exact ⟨by first | rfl | (simp; done) | (simp [*]; done),by repeat (first | exact Drawn0.refl _ | apply Drawn0.step)⟩
    ·
     rw [if_neg c11] at H; have c11b0 : (t101 == t102) = false := beq_eq_false_iff_ne.mpr c11; have c11b1 : (t101 != t102) = true := bne_iff_ne.mpr c11; obtain rfl := Option.some.inj H
     go_enter Tryz.func81,Tryz.ntmps81
     go_wp2_with (first | ((with_reducible refine gate_callee (f := 100) rfl ?_); refine goesL_ (some 8) rfl rfl Tryz.func100 (by kernel_rfl) rfl #[.int .i64 a1] rfl zrr ?_; (with_reducible refine (spec_l1Abs.calls a1 t101 _ A4.out).mono ?_); rintro e w' ⟨rfl,⟨nd,rfl⟩⟩; refine ⟨_,rfl,?_⟩) | ((with_reducible refine gate_callee (f := 100) rfl ?_); refine goesL_ (some 10) rfl rfl Tryz.func100 (by kernel_rfl) rfl #[.int .i64 a2] rfl zrr ?_; (with_reducible refine (spec_l1Abs.calls a2 t102 _ A5.out).mono ?_); rintro e w' ⟨rfl,⟨nd,rfl⟩⟩; refine ⟨_,rfl,?_⟩))
     go_ret
     exact ⟨by first | rfl | (simp; done) | (simp [*]; done),by repeat (first | exact Drawn0.refl _ | apply Drawn0.step)⟩

end Go.Proofs.YtffbfkfbeggdnaaGreatDoor.P
-- printed by xprint.py
namespace Go.Proofs.YtffbfkfbeggdnaaGreatDoor.P
open Go.RowKit Go.Proofs.YtffbfkfbeggdnaaGreatDoorW.PrintWords Go.Proofs.YtffbfkfbeggdnaaGreatDoorW.PrintLast Go.Proofs.YtffbfkfbeggdnaaGreatDoorW.PrintMore
attribute [local go_sem] max2_int min2_int max_two min_two max_three min_three max_four min_four
set_option linter.unusedVariables false
set_option linter.unusedSimpArgs false

def spec_wkPlace.f (a0 : Int) : Option (Int × Int) := if a0 = 48 then (some (1,3)) else (some (((a0 - 49) % 256) % 3,((a0 - 49) % 256) / 3))
set_option maxHeartbeats 8000000 in
set_option maxRecDepth 100000 in
theorem spec_wkPlace.calls (a0 : Int) (r1 : Int) (r2 : Int) (w : World) (h : spec_wkPlace.f a0 = some (r1,r2)) :
  Calls Tryz.prog 80 #[.int .u8 a0] w fun e w' => e = .returned (.tuple #[.int .i64 r1,.int .i64 r2]) ∧ Drawn0 w w' := by
 have H : (if a0 = 48 then (some (1,3)) else (some (((a0 - 49) % 256) % 3,((a0 - 49) % 256) / 3))) = some (r1,r2) := h; clear h
 by_cases c2 : a0 = 48
 ·
  rw [if_pos c2] at H; have c2b0 : (a0 == 48) = true := beq_iff_eq.mpr c2; have c2b1 : (a0 != 48) = false := bne_eq_false_iff_eq.mpr c2; clear c2; simp only [Option.some.injEq,Prod.mk.injEq] at H; obtain ⟨rfl,rfl⟩ := H
  go_enter Tryz.func80,Tryz.ntmps80
  go_wp2
  go_ret2
  exact ⟨by first | rfl | (simp; done) | (simp [*]; done),by repeat (first | exact Drawn0.refl _ | apply Drawn0.step)⟩
 ·
  rw [if_neg c2] at H; have c2b0 : (a0 == 48) = false := beq_eq_false_iff_ne.mpr c2; have c2b1 : (a0 != 48) = true := bne_iff_ne.mpr c2; simp only [Option.some.injEq,Prod.mk.injEq] at H; obtain ⟨rfl,rfl⟩ := H
  go_enter Tryz.func80,Tryz.ntmps80
  go_wp2
  go_ret2
  exact ⟨by first | rfl | (simp; done) | (simp [*]; done),by repeat (first | exact Drawn0.refl _ | apply Drawn0.step)⟩

end Go.Proofs.YtffbfkfbeggdnaaGreatDoor.P
-- printed by xprint.py
namespace Go.Proofs.YtffbfkfbeggdnaaGreatDoor.P
open Go.RowKit Go.Proofs.YtffbfkfbeggdnaaGreatDoorW.PrintWords Go.Proofs.YtffbfkfbeggdnaaGreatDoorW.PrintLast Go.Proofs.YtffbfkfbeggdnaaGreatDoorW.PrintMore
attribute [local go_sem] max2_int min2_int max_two min_two max_three min_three max_four min_four
set_option linter.unusedVariables false
set_option linter.unusedSimpArgs false

def spec_wkSign.f (a0 : Int) : Option (Int) := if a0 > 0 then (some 1) else (if a0 < 0 then (some (-1)) else (some 0))
set_option maxHeartbeats 8000000 in
set_option maxRecDepth 100000 in
theorem spec_wkSign.calls (a0 : Int) (r : Int) (w : World) (h : spec_wkSign.f a0 = some r) :
  Calls Tryz.prog 82 #[.int .i64 a0] w fun e w' => e = .returned (.int .i64 r) ∧ Drawn0 w w' := by
 have H : (if a0 > 0 then (some 1) else (if a0 < 0 then (some (-1)) else (some 0))) = some r := h; clear h
 by_cases c2 : a0 > 0
 ·
  rw [if_pos c2] at H; have c2b0 : decide (0 < a0) = true := decide_eq_true c2; clear c2; obtain rfl := Option.some.inj H
  go_enter Tryz.func82,Tryz.ntmps82
  go_wp2
  go_ret
  exact ⟨by first | rfl | (simp; done) | (simp [*]; done),by repeat (first | exact Drawn0.refl _ | apply Drawn0.step)⟩
 ·
  rw [if_neg c2] at H; have c2b0 : decide (0 < a0) = false := decide_eq_false c2; clear c2
  by_cases c3 : a0 < 0
  ·
   rw [if_pos c3] at H; have c3b0 : decide (a0 < 0) = true := decide_eq_true c3; clear c3; obtain rfl := Option.some.inj H
   go_enter Tryz.func82,Tryz.ntmps82
   go_wp2
   go_ret
   exact ⟨by first | rfl | (simp; done) | (simp [*]; done),by repeat (first | exact Drawn0.refl _ | apply Drawn0.step)⟩
  ·
   rw [if_neg c3] at H; have c3b0 : decide (a0 < 0) = false := decide_eq_false c3; clear c3; obtain rfl := Option.some.inj H
   go_enter Tryz.func82,Tryz.ntmps82
   go_wp2
   go_ret
   exact ⟨by first | rfl | (simp; done) | (simp [*]; done),by repeat (first | exact Drawn0.refl _ | apply Drawn0.step)⟩

end Go.Proofs.YtffbfkfbeggdnaaGreatDoor.P
-- printed by xprint.py
namespace Go.Proofs.YtffbfkfbeggdnaaGreatDoor.P
open Go.RowKit Go.Proofs.YtffbfkfbeggdnaaGreatDoorW.PrintWords Go.Proofs.YtffbfkfbeggdnaaGreatDoorW.PrintLast Go.Proofs.YtffbfkfbeggdnaaGreatDoorW.PrintMore
attribute [local go_sem] max2_int min2_int max_two min_two max_three min_three max_four min_four
set_option linter.unusedVariables false
set_option linter.unusedSimpArgs false

mutual
def spec_wkGoes.l0 : Nat → Int → Int → Int → Int → Option (Bool)
 | 0,_,_,_,_ => none
 | k + 1,x7,x8,x9,x10 => if x7 = x9 then (spec_wkGoes.j1 k x7 x8 x9 x10 (x8 != x10)) else (spec_wkGoes.j1 k x7 x8 x9 x10 true)
def spec_wkGoes.j1 : Nat → Int → Int → Int → Int → Bool → Option (Bool)
 | 0,_,_,_,_,_ => none
 | k + 1,x7,x8,x9,x10,x39 => if x39 = true then ((spec_wkSign.f (wrap64 (x9 - x7))).bind fun t106 => ((spec_wkSign.f (wrap64 (x10 - x8))).bind fun t107 => ((spec_wkAt.f k (wrap64 (x7 + t106)) (wrap64 (x8 + t107))).bind fun t108 => (if t108 = 32 then (some false) else (spec_wkGoes.l0 k (wrap64 (x7 + t106)) (wrap64 (x8 + t107)) x9 x10))))) else (some true)
end
def spec_wkGoes.f (k : Nat) (a0 : ByteArray) (a1 : Int) (a2 : Int) : Option (Bool) := (spec_wkPlace.f a1).bind fun bt101 => ((spec_wkPlace.f a2).bind fun bt103 => ((spec_wkCan.f a0 (wrap64 (bt103.1 - bt101.1)) (wrap64 (bt103.2 - bt101.2))).bind fun t105 => (if t105 = true then (if a0.toList = ([110] : List UInt8) then (some true) else (spec_wkGoes.l0 k bt101.1 bt101.2 bt103.1 bt103.2)) else (some false))))
theorem spec_wkGoes.mono_l : ∀ k,(∀ y0 y1 y2 y3,LeO (spec_wkGoes.l0 k y0 y1 y2 y3) (spec_wkGoes.l0 (k + 1) y0 y1 y2 y3)) ∧ (∀ y0 y1 y2 y3 y4,LeO (spec_wkGoes.j1 k y0 y1 y2 y3 y4) (spec_wkGoes.j1 (k + 1) y0 y1 y2 y3 y4))
 | 0 => ⟨by intros; intro r h; simp [spec_wkGoes.l0] at h,by intros; intro r h; simp [spec_wkGoes.j1] at h⟩
 | k + 1 => by
  obtain ⟨ih0,ih1⟩ := spec_wkGoes.mono_l k; refine ⟨?_,?_⟩
  ·
   intro y0 y1 y2 y3
   unfold spec_wkGoes.l0
   repeat' first
   | (with_reducible exact ih0 _ _ _ _)
   | (with_reducible exact ih1 _ _ _ _ _)
   | (with_reducible exact spec_wkAt.mono _ _ _)
   | (with_reducible exact LeO.refl _)
   | (with_reducible exact LeO.none _)
   | (with_reducible refine LeO.ite ?_ ?_)
   | (with_reducible refine LeO.bind ?_ (fun _ => ?_))
   | exact ih0 _ _ _ _
   | exact ih1 _ _ _ _ _
   | exact spec_wkAt.mono _ _ _
   | exact LeO.none _
   | refine LeO.ite ?_ ?_
   | refine LeO.bind ?_ (fun _ => ?_)
  ·
   intro y0 y1 y2 y3 y4
   unfold spec_wkGoes.j1
   repeat' first
   | (with_reducible exact ih0 _ _ _ _)
   | (with_reducible exact ih1 _ _ _ _ _)
   | (with_reducible exact spec_wkAt.mono _ _ _)
   | (with_reducible exact LeO.refl _)
   | (with_reducible exact LeO.none _)
   | (with_reducible refine LeO.ite ?_ ?_)
   | (with_reducible refine LeO.bind ?_ (fun _ => ?_))
   | exact ih0 _ _ _ _
   | exact ih1 _ _ _ _ _
   | exact spec_wkAt.mono _ _ _
   | exact LeO.none _
   | refine LeO.ite ?_ ?_
   | refine LeO.bind ?_ (fun _ => ?_)
theorem spec_wkGoes.mono : ∀ y0 y1 y2 k,LeO (spec_wkGoes.f k y0 y1 y2) (spec_wkGoes.f (k + 1) y0 y1 y2) := by
 intro y0 y1 y2 k; obtain ⟨ih0,ih1⟩ := spec_wkGoes.mono_l k
 unfold spec_wkGoes.f
 repeat' first
   | (with_reducible exact ih0 _ _ _ _)
   | (with_reducible exact ih1 _ _ _ _ _)
   | (with_reducible exact spec_wkAt.mono _ _ _)
   | (with_reducible exact LeO.refl _)
   | (with_reducible exact LeO.none _)
   | (with_reducible refine LeO.ite ?_ ?_)
   | (with_reducible refine LeO.bind ?_ (fun _ => ?_))
   | exact ih0 _ _ _ _
   | exact ih1 _ _ _ _ _
   | exact spec_wkAt.mono _ _ _
   | exact LeO.none _
   | refine LeO.ite ?_ ?_
   | refine LeO.bind ?_ (fun _ => ?_)
set_option maxHeartbeats 8000000 in
set_option maxRecDepth 100000 in
theorem spec_wkGoes.calls (k : Nat) (a0 : ByteArray) (a1 : Int) (a2 : Int) (r : Bool) (w : World) (h : spec_wkGoes.f k a0 a1 a2 = some r) :
  Calls Tryz.prog 70 #[.string a0,.int .u8 a1,.int .u8 a2] w fun e w' => e = .returned (.bool r) ∧ Drawn0 w w' := by
 have H : ((spec_wkPlace.f a1).bind fun bt101 => ((spec_wkPlace.f a2).bind fun bt103 => ((spec_wkCan.f a0 (wrap64 (bt103.1 - bt101.1)) (wrap64 (bt103.2 - bt101.2))).bind fun t105 => (if t105 = true then (if a0.toList = ([110] : List UInt8) then (some true) else (spec_wkGoes.l0 k bt101.1 bt101.2 bt103.1 bt103.2)) else (some false))))) = some r := h; clear h; replace H := Option.bind_eq_some_iff.mp H; obtain ⟨⟨t101,t102⟩,A40,H⟩ := H; replace H : ((spec_wkPlace.f a2).bind fun bt103 => ((spec_wkCan.f a0 (wrap64 (bt103.1 - t101)) (wrap64 (bt103.2 - t102))).bind fun t105 => (if t105 = true then (if a0.toList = ([110] : List UInt8) then (some true) else (spec_wkGoes.l0 k t101 t102 bt103.1 bt103.2)) else (some false)))) = some r := H; have A4 := Aside0.mk A40; clear A40; replace H := Option.bind_eq_some_iff.mp H; obtain ⟨⟨t103,t104⟩,A50,H⟩ := H; replace H : ((spec_wkCan.f a0 (wrap64 (t103 - t101)) (wrap64 (t104 - t102))).bind fun t105 => (if t105 = true then (if a0.toList = ([110] : List UInt8) then (some true) else (spec_wkGoes.l0 k t101 t102 t103 t104)) else (some false))) = some r := H; have A5 := Aside0.mk A50; clear A50; replace H := Option.bind_eq_some_iff.mp H; obtain ⟨t105,A60,H⟩ := H; replace H : (if t105 = true then (if a0.toList = ([110] : List UInt8) then (some true) else (spec_wkGoes.l0 k t101 t102 t103 t104)) else (some false)) = some r := H; have A6 := Aside0.mk A60; clear A60
 by_cases c7 : t105 = true
 ·
  subst c7; have H1 : (if a0.toList = ([110] : List UInt8) then (some true) else (spec_wkGoes.l0 k t101 t102 t103 t104)) = some r := by rw [if_pos rfl] at H; exact H
  clear H; have H := H1; clear H1
  by_cases c8 : a0.toList = ([110] : List UInt8)
  ·
   rw [if_pos c8] at H; have c8b0 : (a0.toList == ([110] : List UInt8)) = true := beq_iff_eq.mpr c8; have c8b1 : (a0.toList != ([110] : List UInt8)) = false := bne_eq_false_iff_eq.mpr c8; clear c8; obtain rfl := Option.some.inj H
   go_enter Tryz.func70,Tryz.ntmps70
   go_wp2_with (first | ((with_reducible refine gate_callee (f := 80) rfl ?_); refine goesL_ (some 13) rfl rfl Tryz.func80 (by kernel_rfl) rfl #[.int .u8 a1] rfl zrr ?_; (with_reducible refine (spec_wkPlace.calls a1 t101 t102 _ A4.out).mono ?_); rintro e w' ⟨rfl,⟨nd,rfl⟩⟩; refine ⟨_,rfl,?_⟩) | ((with_reducible refine gate_callee (f := 80) rfl ?_); refine goesL_ (some 18) rfl rfl Tryz.func80 (by kernel_rfl) rfl #[.int .u8 a2] rfl zrr ?_; (with_reducible refine (spec_wkPlace.calls a2 t103 t104 _ A5.out).mono ?_); rintro e w' ⟨rfl,⟨nd,rfl⟩⟩; refine ⟨_,rfl,?_⟩) | ((with_reducible refine gate_callee (f := 81) rfl ?_); refine goesL_ (some 28) rfl rfl Tryz.func81 (by kernel_rfl) rfl #[.string a0,.int .i64 (wrap64 (t103 - t101)),.int .i64 (wrap64 (t104 - t102))] rfl zrr ?_; (with_reducible refine (spec_wkCan.calls a0 (wrap64 (t103 - t101)) (wrap64 (t104 - t102)) true _ A6.out).mono ?_); rintro e w' ⟨rfl,⟨nd,rfl⟩⟩; refine ⟨_,rfl,?_⟩))
   go_ret
   exact ⟨by first | rfl | (simp; done) | (simp [*]; done),by repeat (first | exact Drawn0.refl _ | apply Drawn0.step)⟩
  ·
   rw [if_neg c8] at H; have c8b0 : (a0.toList == ([110] : List UInt8)) = false := beq_eq_false_iff_ne.mpr c8; have c8b1 : (a0.toList != ([110] : List UInt8)) = true := bne_iff_ne.mpr c8; have H' := Aside0.mk H; clear H
   go_enter Tryz.func70,Tryz.ntmps70
   go_wp2_with (first | ((with_reducible refine gate_callee (f := 80) rfl ?_); refine goesL_ (some 13) rfl rfl Tryz.func80 (by kernel_rfl) rfl #[.int .u8 a1] rfl zrr ?_; (with_reducible refine (spec_wkPlace.calls a1 t101 t102 _ A4.out).mono ?_); rintro e w' ⟨rfl,⟨nd,rfl⟩⟩; refine ⟨_,rfl,?_⟩) | ((with_reducible refine gate_callee (f := 80) rfl ?_); refine goesL_ (some 18) rfl rfl Tryz.func80 (by kernel_rfl) rfl #[.int .u8 a2] rfl zrr ?_; (with_reducible refine (spec_wkPlace.calls a2 t103 t104 _ A5.out).mono ?_); rintro e w' ⟨rfl,⟨nd,rfl⟩⟩; refine ⟨_,rfl,?_⟩) | ((with_reducible refine gate_callee (f := 81) rfl ?_); refine goesL_ (some 28) rfl rfl Tryz.func81 (by kernel_rfl) rfl #[.string a0,.int .i64 (wrap64 (t103 - t101)),.int .i64 (wrap64 (t104 - t102))] rfl zrr ?_; (with_reducible refine (spec_wkCan.calls a0 (wrap64 (t103 - t101)) (wrap64 (t104 - t102)) true _ A6.out).mono ?_); rintro e w' ⟨rfl,⟨nd,rfl⟩⟩; refine ⟨_,rfl,?_⟩))
   go_loopg [7,8] k (fun kq v7 v8 w' => ∃ (x7_1 : Int) (x8_1 : Int),v7 = .int .i64 x7_1 ∧ v8 = .int .i64 x8_1 ∧ Aside0 (spec_wkGoes.l0 kq x7_1 x8_1 t103 t104 = some r) ∧ Aside0 (kq ≤ k) ∧ Drawn0 w w')
   case atStart => exact ⟨(t101),(t102),zrs,zrs,H',⟨Nat.le_refl _⟩,by repeat (first | exact Drawn0.refl _ | apply Drawn0.step)⟩
   case round =>
    clear H'; try clear p2
    try clear p6
    try clear c7
    try clear c8
    try clear c8b0
    try clear c8b1
    obtain ⟨x7_1,x8_1,rfl,rfl,HA,HK1,⟨m1,rfl⟩⟩ := hrel
    cases gk with
    | zero => exact absurd HA.out (by simp [spec_wkGoes.l0])
    | succ k1 =>
     have H := HA.out; clear HA; simp only [spec_wkGoes.l0] at H; have HC9 := Aside0.mk H; clear H
     go_upto_region 7 with (fail)
     go_cut [39] (fun v39 wc => ∃ (kq : Nat) (x39_8 : Bool),v39 = .bool x39_8 ∧ Aside0 (spec_wkGoes.j1 kq x7_1 x8_1 t103 t104 x39_8 = some r) ∧ Aside0 (kq ≤ k1) ∧ Drawn0 w wc)
     case first =>
      have H := HC9.out; clear HC9
      by_cases c10 : x7_1 = t103
      ·
       rw [if_pos c10] at H; have c10b0 : (x7_1 == t103) = true := beq_iff_eq.mpr c10; have c10b1 : (x7_1 != t103) = false := bne_eq_false_iff_eq.mpr c10; clear c10
       (first | rw [c10b0] | (simp only [i64_w,i32_w]; rw [c10b0]) | skip)
       have H' := Aside0.mk H; clear H; go_wp2
       go_meet
       case rel => exact ⟨_,((x8_1 != t104)),zrs,H',⟨by have := HK1.out; first | omega | exact Nat.le_refl _⟩,by repeat (first | exact Drawn0.refl _ | apply Drawn0.step)⟩
      ·
       rw [if_neg c10] at H; have c10b0 : (x7_1 == t103) = false := beq_eq_false_iff_ne.mpr c10; have c10b1 : (x7_1 != t103) = true := bne_iff_ne.mpr c10
       (first | rw [c10b0] | (simp only [i64_w,i32_w]; rw [c10b0]) | skip)
       have H' := Aside0.mk H; clear H; go_wp2
       go_meet
       case rel => exact ⟨_,(true),zrs,H',⟨by have := HK1.out; first | omega | exact Nat.le_refl _⟩,by repeat (first | exact Drawn0.refl _ | apply Drawn0.step)⟩
     case rest =>
      clear HC9; try clear c1
      try clear p2
      try clear p6
      try clear c7
      try clear c8
      try clear c8b0
      try clear c8b1
      try clear c10
      try clear c10b0
      try clear c10b1
      try clear p2
      try clear p6
      obtain ⟨kq,x39_8,rfl,HA,HJ8,⟨mc8,rfl⟩⟩ := hcut
      cases kq with
      | zero => exact absurd HA.out (by simp [spec_wkGoes.j1])
      | succ kj8 =>
       have H := HA.out; clear HA; simp only [spec_wkGoes.j1] at H
       by_cases c11 : x39_8 = true
       ·
        subst c11; have H1 : ((spec_wkSign.f (wrap64 (t103 - x7_1))).bind fun t106 => ((spec_wkSign.f (wrap64 (t104 - x8_1))).bind fun t107 => ((spec_wkAt.f kj8 (wrap64 (x7_1 + t106)) (wrap64 (x8_1 + t107))).bind fun t108 => (if t108 = 32 then (some false) else (spec_wkGoes.l0 kj8 (wrap64 (x7_1 + t106)) (wrap64 (x8_1 + t107)) t103 t104))))) = some r := by rw [if_pos rfl] at H; exact H
        clear H; have H := H1; clear H1; replace H := Option.bind_eq_some_iff.mp H; obtain ⟨t106,A120,H⟩ := H; replace H : ((spec_wkSign.f (wrap64 (t104 - x8_1))).bind fun t107 => ((spec_wkAt.f kj8 (wrap64 (x7_1 + t106)) (wrap64 (x8_1 + t107))).bind fun t108 => (if t108 = 32 then (some false) else (spec_wkGoes.l0 kj8 (wrap64 (x7_1 + t106)) (wrap64 (x8_1 + t107)) t103 t104)))) = some r := H; have A12 := Aside0.mk A120; clear A120; replace H := Option.bind_eq_some_iff.mp H; obtain ⟨t107,A130,H⟩ := H; replace H : ((spec_wkAt.f kj8 (wrap64 (x7_1 + t106)) (wrap64 (x8_1 + t107))).bind fun t108 => (if t108 = 32 then (some false) else (spec_wkGoes.l0 kj8 (wrap64 (x7_1 + t106)) (wrap64 (x8_1 + t107)) t103 t104))) = some r := H; have A13 := Aside0.mk A130; clear A130; replace H := Option.bind_eq_some_iff.mp H; obtain ⟨t108,A140,H⟩ := H; replace H : (if t108 = 32 then (some false) else (spec_wkGoes.l0 kj8 (wrap64 (x7_1 + t106)) (wrap64 (x8_1 + t107)) t103 t104)) = some r := H; have A14 := Aside0.mk A140; clear A140
        by_cases c15 : t108 = 32
        ·
         rw [if_pos c15] at H; have c15b0 : (t108 == 32) = true := beq_iff_eq.mpr c15; have c15b1 : (t108 != 32) = false := bne_eq_false_iff_eq.mpr c15; clear c15; obtain rfl := Option.some.inj H; go_wp2_with (first | ((with_reducible refine gate_callee (f := 82) rfl ?_); refine goesL_ (some 44) rfl rfl Tryz.func82 (by kernel_rfl) rfl #[.int .i64 (wrap64 (t103 - x7_1))] rfl zrr ?_; (with_reducible refine (spec_wkSign.calls (wrap64 (t103 - x7_1)) t106 _ A12.out).mono ?_); rintro e w' ⟨rfl,⟨nd,rfl⟩⟩; refine ⟨_,rfl,?_⟩) | ((with_reducible refine gate_callee (f := 82) rfl ?_); refine goesL_ (some 50) rfl rfl Tryz.func82 (by kernel_rfl) rfl #[.int .i64 (wrap64 (t104 - x8_1))] rfl zrr ?_; (with_reducible refine (spec_wkSign.calls (wrap64 (t104 - x8_1)) t107 _ A13.out).mono ?_); rintro e w' ⟨rfl,⟨nd,rfl⟩⟩; refine ⟨_,rfl,?_⟩) | ((with_reducible refine gate_callee (f := 83) rfl ?_); refine goesL_ (some 54) rfl rfl Tryz.func83 (by kernel_rfl) rfl #[.int .i64 (wrap64 (x7_1 + t106)),.int .i64 (wrap64 (x8_1 + t107))] rfl zrr ?_; (with_reducible refine (spec_wkAt.calls kj8 (wrap64 (x7_1 + t106)) (wrap64 (x8_1 + t107)) t108 _ A14.out).mono ?_); rintro e w' ⟨rfl,⟨nd,rfl⟩⟩; refine ⟨_,rfl,?_⟩))
         go_ret
         exact ⟨by first | rfl | (simp; done) | (simp [*]; done),by repeat (first | exact Drawn0.refl _ | apply Drawn0.step)⟩
        ·
         rw [if_neg c15] at H; have c15b0 : (t108 == 32) = false := beq_eq_false_iff_ne.mpr c15; have c15b1 : (t108 != 32) = true := bne_iff_ne.mpr c15; have H' := Aside0.mk H; clear H; go_wp2_with (first | ((with_reducible refine gate_callee (f := 82) rfl ?_); refine goesL_ (some 44) rfl rfl Tryz.func82 (by kernel_rfl) rfl #[.int .i64 (wrap64 (t103 - x7_1))] rfl zrr ?_; (with_reducible refine (spec_wkSign.calls (wrap64 (t103 - x7_1)) t106 _ A12.out).mono ?_); rintro e w' ⟨rfl,⟨nd,rfl⟩⟩; refine ⟨_,rfl,?_⟩) | ((with_reducible refine gate_callee (f := 82) rfl ?_); refine goesL_ (some 50) rfl rfl Tryz.func82 (by kernel_rfl) rfl #[.int .i64 (wrap64 (t104 - x8_1))] rfl zrr ?_; (with_reducible refine (spec_wkSign.calls (wrap64 (t104 - x8_1)) t107 _ A13.out).mono ?_); rintro e w' ⟨rfl,⟨nd,rfl⟩⟩; refine ⟨_,rfl,?_⟩) | ((with_reducible refine gate_callee (f := 83) rfl ?_); refine goesL_ (some 54) rfl rfl Tryz.func83 (by kernel_rfl) rfl #[.int .i64 (wrap64 (x7_1 + t106)),.int .i64 (wrap64 (x8_1 + t107))] rfl zrr ?_; (with_reducible refine (spec_wkAt.calls kj8 (wrap64 (x7_1 + t106)) (wrap64 (x8_1 + t107)) t108 _ A14.out).mono ?_); rintro e w' ⟨rfl,⟨nd,rfl⟩⟩; refine ⟨_,rfl,?_⟩))
         go_roundg kj8
         case measure => have := HK1.out; have := HJ8.out; omega
         case rel => exact ⟨(wrap64 (x7_1 + t106)),(wrap64 (x8_1 + t107)),zrs,zrs,H',⟨by have := HK1.out; have := HJ8.out; omega⟩,by repeat (first | exact Drawn0.refl _ | apply Drawn0.step)⟩
       ·
        replace c11 := Bool.eq_false_iff.mpr c11; subst c11; have H1 : (some true) = some r := by rw [if_neg (show ¬ (false = true) by decide)] at H; exact H
        clear H; have H := H1; clear H1; obtain rfl := Option.some.inj H; go_wp2
        go_ret
        exact ⟨by first | rfl | (simp; done) | (simp [*]; done),by repeat (first | exact Drawn0.refl _ | apply Drawn0.step)⟩
 ·
  replace c7 := Bool.eq_false_iff.mpr c7; subst c7; have H1 : (some false) = some r := by rw [if_neg (show ¬ (false = true) by decide)] at H; exact H
  clear H; have H := H1; clear H1; obtain rfl := Option.some.inj H
  go_enter Tryz.func70,Tryz.ntmps70
  go_wp2_with (first | ((with_reducible refine gate_callee (f := 80) rfl ?_); refine goesL_ (some 13) rfl rfl Tryz.func80 (by kernel_rfl) rfl #[.int .u8 a1] rfl zrr ?_; (with_reducible refine (spec_wkPlace.calls a1 t101 t102 _ A4.out).mono ?_); rintro e w' ⟨rfl,⟨nd,rfl⟩⟩; refine ⟨_,rfl,?_⟩) | ((with_reducible refine gate_callee (f := 80) rfl ?_); refine goesL_ (some 18) rfl rfl Tryz.func80 (by kernel_rfl) rfl #[.int .u8 a2] rfl zrr ?_; (with_reducible refine (spec_wkPlace.calls a2 t103 t104 _ A5.out).mono ?_); rintro e w' ⟨rfl,⟨nd,rfl⟩⟩; refine ⟨_,rfl,?_⟩) | ((with_reducible refine gate_callee (f := 81) rfl ?_); refine goesL_ (some 28) rfl rfl Tryz.func81 (by kernel_rfl) rfl #[.string a0,.int .i64 (wrap64 (t103 - t101)),.int .i64 (wrap64 (t104 - t102))] rfl zrr ?_; (with_reducible refine (spec_wkCan.calls a0 (wrap64 (t103 - t101)) (wrap64 (t104 - t102)) false _ A6.out).mono ?_); rintro e w' ⟨rfl,⟨nd,rfl⟩⟩; refine ⟨_,rfl,?_⟩))
  go_ret
  exact ⟨by first | rfl | (simp; done) | (simp [*]; done),by repeat (first | exact Drawn0.refl _ | apply Drawn0.step)⟩

end Go.Proofs.YtffbfkfbeggdnaaGreatDoor.P
-- printed by xprint.py
namespace Go.Proofs.YtffbfkfbeggdnaaGreatDoor.P
open Go.RowKit Go.Proofs.YtffbfkfbeggdnaaGreatDoorW.PrintWords Go.Proofs.YtffbfkfbeggdnaaGreatDoorW.PrintLast Go.Proofs.YtffbfkfbeggdnaaGreatDoorW.PrintMore
attribute [local go_sem] max2_int min2_int max_two min_two max_three min_three max_four min_four
set_option linter.unusedVariables false
set_option linter.unusedSimpArgs false

def spec_wkNext.l0 : Nat → ByteArray → Int → ByteArray → Int → Option (ByteArray)
 | 0,_,_,_,_ => none
 | k + 1,x0,x1,x5,x6 => if x6 ≤ 57 then ((spec_wkGoes.f k x0 x1 x6).bind fun t101 => (if t101 = true then (if x5.size + (Utf8.encode (wrap32 (x6))).size ≤ 9223372036854775807 then (spec_wkNext.l0 k x0 x1 (x5 ++ (Utf8.encode (wrap32 (x6)))) ((x6 + 1) % 256)) else (none)) else (spec_wkNext.l0 k x0 x1 x5 ((x6 + 1) % 256)))) else (some x5)
def spec_wkNext.f (k : Nat) (a0 : ByteArray) (a1 : Int) : Option (ByteArray) := spec_wkNext.l0 k a0 a1 (⟨#[]⟩ : ByteArray) 48
theorem spec_wkNext.mono_l : ∀ k,(∀ y0 y1 y2 y3,LeO (spec_wkNext.l0 k y0 y1 y2 y3) (spec_wkNext.l0 (k + 1) y0 y1 y2 y3))
 | 0 => by intros; intro r h; simp [spec_wkNext.l0] at h
 | k + 1 => by
  have ih0 := spec_wkNext.mono_l k
  ·
   intro y0 y1 y2 y3
   unfold spec_wkNext.l0
   repeat' first
   | (with_reducible exact ih0 _ _ _ _)
   | (with_reducible exact spec_wkGoes.mono _ _ _ _)
   | (with_reducible exact LeO.refl _)
   | (with_reducible exact LeO.none _)
   | (with_reducible refine LeO.ite ?_ ?_)
   | (with_reducible refine LeO.bind ?_ (fun _ => ?_))
   | exact ih0 _ _ _ _
   | exact spec_wkGoes.mono _ _ _ _
   | exact LeO.none _
   | refine LeO.ite ?_ ?_
   | refine LeO.bind ?_ (fun _ => ?_)
theorem spec_wkNext.mono : ∀ y0 y1 k,LeO (spec_wkNext.f k y0 y1) (spec_wkNext.f (k + 1) y0 y1) := by
 intro y0 y1 k; have ih0 := spec_wkNext.mono_l k
 unfold spec_wkNext.f
 repeat' first
   | (with_reducible exact ih0 _ _ _ _)
   | (with_reducible exact spec_wkGoes.mono _ _ _ _)
   | (with_reducible exact LeO.refl _)
   | (with_reducible exact LeO.none _)
   | (with_reducible refine LeO.ite ?_ ?_)
   | (with_reducible refine LeO.bind ?_ (fun _ => ?_))
   | exact ih0 _ _ _ _
   | exact spec_wkGoes.mono _ _ _ _
   | exact LeO.none _
   | refine LeO.ite ?_ ?_
   | refine LeO.bind ?_ (fun _ => ?_)
set_option maxHeartbeats 8000000 in
set_option maxRecDepth 100000 in
theorem spec_wkNext.calls (k : Nat) (a0 : ByteArray) (a1 : Int) (r : ByteArray) (w : World) (h : spec_wkNext.f k a0 a1 = some r) :
  Calls Tryz.prog 44 #[.string a0,.int .u8 a1] w fun e w' => e = .returned (.string r) ∧ Drawn0 w w' := by
 have H : (spec_wkNext.l0 k a0 a1 (⟨#[]⟩ : ByteArray) 48) = some r := h; clear h; have H' := Aside0.mk H; clear H
 go_enter Tryz.func44,Tryz.ntmps44
 go_wp2
 go_loopg [5,6] k (fun kq v5 v6 w' => ∃ (x5_1 : ByteArray) (x6_1 : Int),v5 = .string x5_1 ∧ v6 = .int .u8 x6_1 ∧ Aside0 (spec_wkNext.l0 kq a0 a1 x5_1 x6_1 = some r) ∧ Aside0 (kq ≤ k) ∧ Drawn0 w w')
 case atStart => exact ⟨((⟨#[]⟩ : ByteArray)),(48),zrs,zrs,H',⟨Nat.le_refl _⟩,by repeat (first | exact Drawn0.refl _ | apply Drawn0.step)⟩
 case round =>
  clear H'; try clear p2
  obtain ⟨x5_1,x6_1,rfl,rfl,HA,HK1,⟨m1,rfl⟩⟩ := hrel
  cases gk with
  | zero => exact absurd HA.out (by simp [spec_wkNext.l0])
  | succ k1 =>
   have H := HA.out; clear HA; simp only [spec_wkNext.l0] at H
   by_cases c3 : x6_1 ≤ 57
   ·
    rw [if_pos c3] at H; have c3b0 : decide (x6_1 ≤ 57) = true := decide_eq_true c3; clear c3; replace H := Option.bind_eq_some_iff.mp H; obtain ⟨t101,A40,H⟩ := H; replace H : (if t101 = true then (if x5_1.size + (Utf8.encode (wrap32 (x6_1))).size ≤ 9223372036854775807 then (spec_wkNext.l0 k1 a0 a1 (x5_1 ++ (Utf8.encode (wrap32 (x6_1)))) ((x6_1 + 1) % 256)) else (none)) else (spec_wkNext.l0 k1 a0 a1 x5_1 ((x6_1 + 1) % 256))) = some r := H; have A4 := Aside0.mk A40; clear A40
    by_cases c5 : t101 = true
    ·
     subst c5; have H1 : (if x5_1.size + (Utf8.encode (wrap32 (x6_1))).size ≤ 9223372036854775807 then (spec_wkNext.l0 k1 a0 a1 (x5_1 ++ (Utf8.encode (wrap32 (x6_1)))) ((x6_1 + 1) % 256)) else (none)) = some r := by rw [if_pos rfl] at H; exact H
     clear H; have H := H1; clear H1
     by_cases c6 : x5_1.size + (Utf8.encode (wrap32 (x6_1))).size ≤ 9223372036854775807
     ·
      rw [if_pos c6] at H; have c6b0 := eq_true c6; have c6b1 : decide (x5_1.size + (Utf8.encode (wrap32 (x6_1))).size ≤ 9223372036854775807) = true := decide_eq_true c6; try have c6b2 : (9223372036854775807 < x5_1.size + (Utf8.encode (wrap32 (x6_1))).size) = False := eq_false (Nat.not_lt.2 c6)
      have H' := Aside0.mk H; clear H; go_wp2_with (first | ((with_reducible refine gate_callee (f := 70) rfl ?_); refine goesL_ (some 14) rfl rfl Tryz.func70 (by kernel_rfl) rfl #[.string a0,.int .u8 a1,.int .u8 x6_1] rfl zrr ?_; (with_reducible refine (spec_wkGoes.calls k1 a0 a1 x6_1 true _ A4.out).mono ?_); rintro e w' ⟨rfl,⟨nd,rfl⟩⟩; refine ⟨_,rfl,?_⟩; have hcv7 : ∀ W : World,(convert 21 9 (.int .i32 (wrap32 (x6_1)))).run Tryz.prog W = .ok (.string (Utf8.encode (wrap32 (x6_1)))) W := fun W => run_convert_int_string W 21 9 .i32 (wrap32 (x6_1)) (by rw [Tryz.underlying21]; rfl) Tryz.underlying9))
      go_roundg k1
      case measure => have := HK1.out; omega
      case rel => exact ⟨(x5_1 ++ (Utf8.encode (wrap32 (x6_1)))),((x6_1 + 1) % 256),zrs,zrs,H',⟨by have := HK1.out; omega⟩,by repeat (first | exact Drawn0.refl _ | apply Drawn0.step)⟩
     · rw [if_neg c6] at H; exact absurd H (by simp)
    ·
     replace c5 := Bool.eq_false_iff.mpr c5; subst c5; have H1 : (spec_wkNext.l0 k1 a0 a1 x5_1 ((x6_1 + 1) % 256)) = some r := by rw [if_neg (show ¬ (false = true) by decide)] at H; exact H
     clear H; have H := H1; clear H1; have H' := Aside0.mk H; clear H; go_wp2_with (first | ((with_reducible refine gate_callee (f := 70) rfl ?_); refine goesL_ (some 14) rfl rfl Tryz.func70 (by kernel_rfl) rfl #[.string a0,.int .u8 a1,.int .u8 x6_1] rfl zrr ?_; (with_reducible refine (spec_wkGoes.calls k1 a0 a1 x6_1 false _ A4.out).mono ?_); rintro e w' ⟨rfl,⟨nd,rfl⟩⟩; refine ⟨_,rfl,?_⟩))
     go_roundg k1
     case measure => have := HK1.out; omega
     case rel => exact ⟨(x5_1),((x6_1 + 1) % 256),zrs,zrs,H',⟨by have := HK1.out; omega⟩,by repeat (first | exact Drawn0.refl _ | apply Drawn0.step)⟩
   ·
    rw [if_neg c3] at H; have c3b0 : decide (x6_1 ≤ 57) = false := decide_eq_false c3; clear c3; obtain rfl := Option.some.inj H; go_wp2
    go_ret
    exact ⟨by first | rfl | (simp; done) | (simp [*]; done),by repeat (first | exact Drawn0.refl _ | apply Drawn0.step)⟩

end Go.Proofs.YtffbfkfbeggdnaaGreatDoor.P
