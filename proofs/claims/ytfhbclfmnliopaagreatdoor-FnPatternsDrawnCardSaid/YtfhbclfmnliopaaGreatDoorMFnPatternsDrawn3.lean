/- Part 3 of 5 of the proof of: FnPatternsDrawnCardSaid: the law 'FnPatternsDrawn' answers true for every input, and leaves its arguments as they were. The row and its tied card, over the walk of its calls and the pure statement. -/
import Derived.Test.YtfhbclfmnliopaaGreatDoorMFnPatternsDrawn1
import Derived.Test.YtfhbclfmnliopaaGreatDoorMFnPatternsDrawn2
-- printed by xprint.py
namespace Go.Proofs.YtfhbclfmnliopaaGreatDoor.P
open Go.RowKit Go.Proofs.YtfhbclfmnliopaaGreatDoorW.PrintWords Go.Proofs.YtfhbclfmnliopaaGreatDoorW.PrintLast Go.Proofs.YtfhbclfmnliopaaGreatDoorW.PrintMore
attribute [local go_sem] max2_int min2_int max_two min_two max_three min_three max_four min_four   -- for this text's walks alone
set_option linter.unusedVariables false
set_option linter.unusedSimpArgs false

/-! ### spec_l1Cur_drawn: function 56 -/
def spec_l1Cur_drawn.l0 : Nat → ByteArray → Int → List Int → Int → Int → Option (ByteArray × Int × Int)
 | 0,_,_,_,_,_ => none
 | k + 1,x3,x4,x1000,x1001,x1002 => if x4 > 0 then ((spec_l1Cur_pick.f x1000 x1001 x1002 9).bind fun bt108 => ((spec_piHas.f k x3 ((wrap64 (49 + bt108.1)) % 256)).bind fun t111 => (if t111 = true then (spec_l1Cur_drawn.l0 k x3 (wrap64 (x4 - 1)) x1000 bt108.2.1 bt108.2.2) else ((spec_piGoes.f k x3 ((wrap64 (49 + bt108.1)) % 256)).bind fun t112 => (if t112 = true then (if x3.size + (Utf8.encode ((wrap64 (49 + bt108.1)) % 256)).size ≤ 9223372036854775807 then (spec_l1Cur_drawn.l0 k (x3 ++ (Utf8.encode ((wrap64 (49 + bt108.1)) % 256))) (wrap64 (x4 - 1)) x1000 bt108.2.1 bt108.2.2) else (none)) else ((spec_l1Cur_one.f x1000 bt108.2.1 bt108.2.2 6).bind fun bt113 => (if bt113.1 = true then (if x3.size + (Utf8.encode ((wrap64 (49 + bt108.1)) % 256)).size ≤ 9223372036854775807 then (spec_l1Cur_drawn.l0 k (x3 ++ (Utf8.encode ((wrap64 (49 + bt108.1)) % 256))) (wrap64 (x4 - 1)) x1000 bt113.2.1 bt113.2.2) else (none)) else (spec_l1Cur_drawn.l0 k x3 (wrap64 (x4 - 1)) x1000 bt113.2.1 bt113.2.2)))))))) else ((spec_l1Cur_one.f x1000 x1001 x1002 14).bind fun bt116 => (if bt116.1 = true then ((spec_l1Cur_of.f x1000 bt116.2.1 bt116.2.2 (([(⟨#[]⟩ : ByteArray),(⟨#[48]⟩ : ByteArray),(⟨#[49,49]⟩ : ByteArray),(⟨#[49,51]⟩ : ByteArray),(⟨#[49,50,51,52,53,54,55,56,57,48]⟩ : ByteArray),(⟨#[120]⟩ : ByteArray)] : List ByteArray))).bind fun bt122 => (some (bt122.1,bt122.2.1,bt122.2.2))) else (some (x3,bt116.2.1,bt116.2.2))))
def spec_l1Cur_drawn.f (k : Nat) (s0_0 : List Int) (s0_1 : Int) (s0_2 : Int) : Option (ByteArray × Int × Int) := (spec_l1Cur_pick.f s0_0 s0_1 s0_2 9).bind fun bt101 => ((spec_l1Num.f k (wrap64 (1 + bt101.1))).bind fun t104 => ((spec_l1Cur_pick.f s0_0 bt101.2.1 bt101.2.2 9).bind fun bt105 => (spec_l1Cur_drawn.l0 k t104 bt105.1 s0_0 bt105.2.1 bt105.2.2)))
theorem spec_l1Cur_drawn.mono_l : ∀ k,(∀ y0 y1 y2 y3 y4,LeO (spec_l1Cur_drawn.l0 k y0 y1 y2 y3 y4) (spec_l1Cur_drawn.l0 (k + 1) y0 y1 y2 y3 y4))
 | 0 => by intros; intro r h; simp [spec_l1Cur_drawn.l0] at h
 | k + 1 => by
  have ih0 := spec_l1Cur_drawn.mono_l k
  ·
   intro y0 y1 y2 y3 y4
   unfold spec_l1Cur_drawn.l0
   repeat' first
   | (with_reducible exact ih0 _ _ _ _ _)
   | (with_reducible exact spec_l1Num.mono _ _)
   | (with_reducible exact spec_piGoes.mono _ _ _)
   | (with_reducible exact spec_piHas.mono _ _ _)
   | (with_reducible exact LeO.refl _)
   | (with_reducible exact LeO.none _)
   | (with_reducible refine LeO.ite ?_ ?_)
   | (with_reducible refine LeO.bind ?_ (fun _ => ?_))
   | exact ih0 _ _ _ _ _
   | exact spec_l1Num.mono _ _
   | exact spec_piGoes.mono _ _ _
   | exact spec_piHas.mono _ _ _
   | exact LeO.none _
   | refine LeO.ite ?_ ?_
   | refine LeO.bind ?_ (fun _ => ?_)
theorem spec_l1Cur_drawn.mono : ∀ y0 y1 y2 k,LeO (spec_l1Cur_drawn.f k y0 y1 y2) (spec_l1Cur_drawn.f (k + 1) y0 y1 y2) := by
 intro y0 y1 y2 k; have ih0 := spec_l1Cur_drawn.mono_l k
 unfold spec_l1Cur_drawn.f
 repeat' first
   | (with_reducible exact ih0 _ _ _ _ _)
   | (with_reducible exact spec_l1Num.mono _ _)
   | (with_reducible exact spec_piGoes.mono _ _ _)
   | (with_reducible exact spec_piHas.mono _ _ _)
   | (with_reducible exact LeO.refl _)
   | (with_reducible exact LeO.none _)
   | (with_reducible refine LeO.ite ?_ ?_)
   | (with_reducible refine LeO.bind ?_ (fun _ => ?_))
   | exact ih0 _ _ _ _ _
   | exact spec_l1Num.mono _ _
   | exact spec_piGoes.mono _ _ _
   | exact spec_piHas.mono _ _ _
   | exact LeO.none _
   | refine LeO.ite ?_ ?_
   | refine LeO.bind ?_ (fun _ => ?_)
set_option maxHeartbeats 8000000 in
set_option maxRecDepth 100000 in
theorem spec_l1Cur_drawn.calls (k : Nat) (g : Nat) (s0_0 : List Int) (s0_1 : Int) (s0_2 : Int) (r1 : ByteArray) (r2 : Int) (r3 : Int) (w0 w : World) (hI : IsS49 w0 w g s0_0 s0_1 s0_2) (hB : Below w0.heap.size w0 w) (h : spec_l1Cur_drawn.f k s0_0 s0_1 s0_2 = some (r1,r2,r3)) :
  Calls Tryz.prog 56 #[.pointer (some ⟨g,0,none⟩)] w fun e w' => e = .returned (.string r1) ∧ IsS49 w0 w' g s0_0 r2 r3 ∧ Below w0.heap.size w0 w' ∧ KeepBut w w' g none := by
 have HI0 := Aside0.mk hI; have HK := Aside0.mk (KeepBut.refl w g none); have HL := Aside0.mk hB.size; clear hI; have HW0 := Aside0.mk hB.size; have HB := Aside0.mk hB; clear hB; have H : ((spec_l1Cur_pick.f s0_0 s0_1 s0_2 9).bind fun bt101 => ((spec_l1Num.f k (wrap64 (1 + bt101.1))).bind fun t104 => ((spec_l1Cur_pick.f s0_0 bt101.2.1 bt101.2.2 9).bind fun bt105 => (spec_l1Cur_drawn.l0 k t104 bt105.1 s0_0 bt105.2.1 bt105.2.2)))) = some (r1,r2,r3) := h; clear h; replace H := Option.bind_eq_some_iff.mp H; obtain ⟨⟨t101,t102,t103⟩,A20,H⟩ := H; replace H : ((spec_l1Num.f k (wrap64 (1 + t101))).bind fun t104 => ((spec_l1Cur_pick.f s0_0 t102 t103 9).bind fun bt105 => (spec_l1Cur_drawn.l0 k t104 bt105.1 s0_0 bt105.2.1 bt105.2.2))) = some (r1,r2,r3) := H; have A2 := Aside0.mk A20; clear A20; replace H := Option.bind_eq_some_iff.mp H; obtain ⟨t104,A30,H⟩ := H; replace H : ((spec_l1Cur_pick.f s0_0 t102 t103 9).bind fun bt105 => (spec_l1Cur_drawn.l0 k t104 bt105.1 s0_0 bt105.2.1 bt105.2.2)) = some (r1,r2,r3) := H; have A3 := Aside0.mk A30; clear A30; replace H := Option.bind_eq_some_iff.mp H; obtain ⟨⟨t105,t106,t107⟩,A40,H⟩ := H; replace H : (spec_l1Cur_drawn.l0 k t104 t105 s0_0 t106 t107) = some (r1,r2,r3) := H; have A4 := Aside0.mk A40; clear A40; have H' := Aside0.mk H; clear H
 go_enter Tryz.func56,Tryz.ntmps56
 go_wp2_with (first | ((with_reducible refine gate_callee (f := 54) rfl ?_); refine goesL_ (some 7) rfl rfl Tryz.func54 (by kernel_rfl) rfl #[.pointer (some ⟨g,0,none⟩),.int .i64 9] rfl (by (try simp only [List.map_toArray,List.map_cons,List.map_nil]); first | done | rfl | (simp only [List.length_drop,List.length_take]; rfl)) ?_; (with_reducible refine (spec_l1Cur_pick.calls g s0_0 s0_1 s0_2 9 t101 t102 t103 w0 _ ?side1 ?side2 A2.out).mono ?_); (case side1 => repeat (first | (with_reducible first | exact HI0.out | apply IsS49.alloc | apply IsS49.drewN | apply IsS49.drew | apply IsS49.set_1 | apply IsS49.set_2) | exact HI0.out)); (case side2 => repeat (first | (with_reducible first | exact HB.out | apply below_alloc | apply pw_below_drewN | apply below_drew1 | refine below_set ?_ (IsS49.ge HI0.out)) | exact HB.out)); rintro e w5 ⟨rfl,hi,hb,hk⟩; refine ⟨_,rfl,?_⟩; have n0_ := Aside0.mk (KeepBut.trans (by repeat (first | (with_reducible first | exact HK.out | apply KeepBut.set_ | apply keep_drewN | apply keep_drew | apply keep_alloc) | exact HK.out)) hk (.inl rfl)); have n1_ := Aside0.mk (hb); have n2_ := Aside0.mk (hi); clear HK; clear HB; clear HI0; have HK := n0_; have HB := n1_; have HI0 := n2_; clear n0_ n1_ n2_; (try clear hb); (try clear hb2); (try clear hk); (try clear hi)) | ((with_reducible refine gate_callee (f := 34) rfl ?_); refine goesL_ (some 9) rfl rfl Tryz.func34 (by kernel_rfl) rfl #[.int .i64 (wrap64 (1 + t101))] rfl (by (try simp only [List.map_toArray,List.map_cons,List.map_nil]); first | done | rfl | (simp only [List.length_drop,List.length_take]; rfl)) ?_; (with_reducible refine (spec_l1Num.calls k (wrap64 (1 + t101)) t104 _ A3.out).mono ?_); rintro e w6 ⟨rfl,hb⟩; refine ⟨_,rfl,?_⟩; have n0_ := Aside0.mk (IsS49.below (by repeat (first | (with_reducible first | exact HI0.out | apply IsS49.alloc | apply IsS49.drewN | apply IsS49.drew | apply IsS49.set_1 | apply IsS49.set_2) | exact HI0.out)) hb); have n1_ := Aside0.mk (KeepBut.trans (by repeat (first | (with_reducible first | exact HK.out | apply KeepBut.set_ | apply keep_drewN | apply keep_drew | apply keep_alloc) | exact HK.out)) (KeepBut.of_below hb g none) (.inl rfl)); have n2_ := Aside0.mk (below_step (by repeat (first | (with_reducible first | exact HB.out | apply below_alloc | apply pw_below_drewN | apply below_drew1 | refine below_set ?_ (IsS49.ge HI0.out)) | exact HB.out)) hb); clear HI0; clear HK; clear HB; have HI0 := n0_; have HK := n1_; have HB := n2_; clear n0_ n1_ n2_; (try clear hb); (try clear hb2); (try clear hk); (try clear hi)) | ((with_reducible refine gate_callee (f := 54) rfl ?_); refine goesL_ (some 11) rfl rfl Tryz.func54 (by kernel_rfl) rfl #[.pointer (some ⟨g,0,none⟩),.int .i64 9] rfl (by (try simp only [List.map_toArray,List.map_cons,List.map_nil]); first | done | rfl | (simp only [List.length_drop,List.length_take]; rfl)) ?_; (with_reducible refine (spec_l1Cur_pick.calls g s0_0 t102 t103 9 t105 t106 t107 w0 _ ?side1 ?side2 A4.out).mono ?_); (case side1 => repeat (first | (with_reducible first | exact HI0.out | apply IsS49.alloc | apply IsS49.drewN | apply IsS49.drew | apply IsS49.set_1 | apply IsS49.set_2) | exact HI0.out)); (case side2 => repeat (first | (with_reducible first | exact HB.out | apply below_alloc | apply pw_below_drewN | apply below_drew1 | refine below_set ?_ (IsS49.ge HI0.out)) | exact HB.out)); rintro e w7 ⟨rfl,hi,hb,hk⟩; refine ⟨_,rfl,?_⟩; have n0_ := Aside0.mk (KeepBut.trans (by repeat (first | (with_reducible first | exact HK.out | apply KeepBut.set_ | apply keep_drewN | apply keep_drew | apply keep_alloc) | exact HK.out)) hk (.inl rfl)); have n1_ := Aside0.mk (hb); have n2_ := Aside0.mk (hi); clear HK; clear HB; clear HI0; have HK := n0_; have HB := n1_; have HI0 := n2_; clear n0_ n1_ n2_; (try clear hb); (try clear hb2); (try clear hk); (try clear hi)))
 go_loopg [3,4] k (fun kq v3 v4 w' => ∃ (x3_1 : ByteArray) (x4_1 : Int) (x1001_1 : Int) (x1002_1 : Int),v3 = .string x3_1 ∧ v4 = .int .i64 x4_1 ∧ Aside0 (spec_l1Cur_drawn.l0 kq x3_1 x4_1 s0_0 x1001_1 x1002_1 = some (r1,r2,r3)) ∧ Aside0 (kq ≤ k) ∧ Aside0 (IsS49 w0 w' g s0_0 x1001_1 x1002_1) ∧ Aside0 (KeepBut w w' g none) ∧ Aside0 (Below w0.heap.size w0 w'))
 case atStart => exact ⟨(t104),(t105),(t106),(t107),(by first | rfl | (simp; done) | (simp [*]; done)),(by first | rfl | (simp; done) | (simp [*]; done)),H',⟨Nat.le_refl _⟩,⟨by repeat (first | (with_reducible first | exact HI0.out | apply IsS49.alloc | apply IsS49.drewN | apply IsS49.drew | apply IsS49.set_1 | apply IsS49.set_2) | exact HI0.out)⟩,⟨by repeat (first | (with_reducible first | exact HK.out | apply KeepBut.set_ | apply keep_drewN | apply keep_drew | apply keep_alloc) | exact HK.out)⟩,⟨by repeat (first | (with_reducible first | exact HB.out | apply below_alloc | apply pw_below_drewN | apply below_drew1 | refine below_set ?_ (IsS49.ge HI0.out)) | exact HB.out)⟩⟩
 case round =>
  clear H'; try clear p2
  try clear c3
  try clear c5
  try clear p6
  obtain ⟨x3_1,x4_1,x1001_1,x1002_1,rfl,rfl,HA,HK1,HI0,HK,HB⟩ := hrel
  cases gk with
  | zero => exact absurd HA.out (by simp [spec_l1Cur_drawn.l0])
  | succ k1 =>
   have H := HA.out; clear HA; simp only [spec_l1Cur_drawn.l0] at H
   by_cases c8 : x4_1 > 0
   ·
    rw [if_pos c8] at H; have c8b0 : decide (0 < x4_1) = true := decide_eq_true c8; clear c8; replace H := Option.bind_eq_some_iff.mp H; obtain ⟨⟨t108,t109,t110⟩,A90,H⟩ := H; replace H : ((spec_piHas.f k1 x3_1 ((wrap64 (49 + t108)) % 256)).bind fun t111 => (if t111 = true then (spec_l1Cur_drawn.l0 k1 x3_1 (wrap64 (x4_1 - 1)) s0_0 t109 t110) else ((spec_piGoes.f k1 x3_1 ((wrap64 (49 + t108)) % 256)).bind fun t112 => (if t112 = true then (if x3_1.size + (Utf8.encode ((wrap64 (49 + t108)) % 256)).size ≤ 9223372036854775807 then (spec_l1Cur_drawn.l0 k1 (x3_1 ++ (Utf8.encode ((wrap64 (49 + t108)) % 256))) (wrap64 (x4_1 - 1)) s0_0 t109 t110) else (none)) else ((spec_l1Cur_one.f s0_0 t109 t110 6).bind fun bt113 => (if bt113.1 = true then (if x3_1.size + (Utf8.encode ((wrap64 (49 + t108)) % 256)).size ≤ 9223372036854775807 then (spec_l1Cur_drawn.l0 k1 (x3_1 ++ (Utf8.encode ((wrap64 (49 + t108)) % 256))) (wrap64 (x4_1 - 1)) s0_0 bt113.2.1 bt113.2.2) else (none)) else (spec_l1Cur_drawn.l0 k1 x3_1 (wrap64 (x4_1 - 1)) s0_0 bt113.2.1 bt113.2.2))))))) = some (r1,r2,r3) := H; have A9 := Aside0.mk A90; clear A90; replace H := Option.bind_eq_some_iff.mp H; obtain ⟨t111,A100,H⟩ := H; replace H : (if t111 = true then (spec_l1Cur_drawn.l0 k1 x3_1 (wrap64 (x4_1 - 1)) s0_0 t109 t110) else ((spec_piGoes.f k1 x3_1 ((wrap64 (49 + t108)) % 256)).bind fun t112 => (if t112 = true then (if x3_1.size + (Utf8.encode ((wrap64 (49 + t108)) % 256)).size ≤ 9223372036854775807 then (spec_l1Cur_drawn.l0 k1 (x3_1 ++ (Utf8.encode ((wrap64 (49 + t108)) % 256))) (wrap64 (x4_1 - 1)) s0_0 t109 t110) else (none)) else ((spec_l1Cur_one.f s0_0 t109 t110 6).bind fun bt113 => (if bt113.1 = true then (if x3_1.size + (Utf8.encode ((wrap64 (49 + t108)) % 256)).size ≤ 9223372036854775807 then (spec_l1Cur_drawn.l0 k1 (x3_1 ++ (Utf8.encode ((wrap64 (49 + t108)) % 256))) (wrap64 (x4_1 - 1)) s0_0 bt113.2.1 bt113.2.2) else (none)) else (spec_l1Cur_drawn.l0 k1 x3_1 (wrap64 (x4_1 - 1)) s0_0 bt113.2.1 bt113.2.2)))))) = some (r1,r2,r3) := H; have A10 := Aside0.mk A100; clear A100
    by_cases c11 : t111 = true
    ·
     subst c11; have H1 : (spec_l1Cur_drawn.l0 k1 x3_1 (wrap64 (x4_1 - 1)) s0_0 t109 t110) = some (r1,r2,r3) := by rw [if_pos rfl] at H; exact H
     clear H; have H := H1; clear H1; have H' := Aside0.mk H; clear H; go_wp2_with (first | ((with_reducible refine gate_callee (f := 54) rfl ?_); refine goesL_ (some 17) rfl rfl Tryz.func54 (by kernel_rfl) rfl #[.pointer (some ⟨g,0,none⟩),.int .i64 9] rfl (by (try simp only [List.map_toArray,List.map_cons,List.map_nil]); first | done | rfl | (simp only [List.length_drop,List.length_take]; rfl)) ?_; (with_reducible refine (spec_l1Cur_pick.calls g s0_0 x1001_1 x1002_1 9 t108 t109 t110 w0 _ ?side1 ?side2 A9.out).mono ?_); (case side1 => repeat (first | (with_reducible first | exact HI0.out | apply IsS49.alloc | apply IsS49.drewN | apply IsS49.drew | apply IsS49.set_1 | apply IsS49.set_2) | exact HI0.out)); (case side2 => repeat (first | (with_reducible first | exact HB.out | apply below_alloc | apply pw_below_drewN | apply below_drew1 | refine below_set ?_ (IsS49.ge HI0.out)) | exact HB.out)); rintro e w12 ⟨rfl,hi,hb,hk⟩; refine ⟨_,rfl,?_⟩; have n0_ := Aside0.mk (KeepBut.trans (by repeat (first | (with_reducible first | exact HK.out | apply KeepBut.set_ | apply keep_drewN | apply keep_drew | apply keep_alloc) | exact HK.out)) hk (.inl rfl)); have n1_ := Aside0.mk (hb); have n2_ := Aside0.mk (hi); clear HK; clear HB; clear HI0; have HK := n0_; have HB := n1_; have HI0 := n2_; clear n0_ n1_ n2_; (try clear hb); (try clear hb2); (try clear hk); (try clear hi)) | ((with_reducible refine gate_callee (f := 61) rfl ?_); refine goesL_ (some 22) rfl rfl Tryz.func61 (by kernel_rfl) rfl #[.string x3_1,.int .u8 ((wrap64 (49 + t108)) % 256)] rfl (by (try simp only [List.map_toArray,List.map_cons,List.map_nil]); first | done | rfl | (simp only [List.length_drop,List.length_take]; rfl)) ?_; (with_reducible refine (spec_piHas.calls k1 x3_1 ((wrap64 (49 + t108)) % 256) true _ A10.out).mono ?_); rintro e w' ⟨rfl,⟨nd,rfl⟩⟩; refine ⟨_,rfl,?_⟩))
     go_roundg k1
     case measure => have := HK1.out; omega
     case rel => exact ⟨(x3_1),(wrap64 (x4_1 - 1)),(t109),(t110),(by first | rfl | (simp; done) | (simp [*]; done)),(by first | rfl | (simp; done) | (simp [*]; done)),H',⟨by have := HK1.out; omega⟩,⟨by repeat (first | (with_reducible first | exact HI0.out | apply IsS49.alloc | apply IsS49.drewN | apply IsS49.drew | apply IsS49.set_1 | apply IsS49.set_2) | exact HI0.out)⟩,⟨by repeat (first | (with_reducible first | exact HK.out | apply KeepBut.set_ | apply keep_drewN | apply keep_drew | apply keep_alloc) | exact HK.out)⟩,⟨by repeat (first | (with_reducible first | exact HB.out | apply below_alloc | apply pw_below_drewN | apply below_drew1 | refine below_set ?_ (IsS49.ge HI0.out)) | exact HB.out)⟩⟩
    ·
     replace c11 := Bool.eq_false_iff.mpr c11; subst c11; have H1 : ((spec_piGoes.f k1 x3_1 ((wrap64 (49 + t108)) % 256)).bind fun t112 => (if t112 = true then (if x3_1.size + (Utf8.encode ((wrap64 (49 + t108)) % 256)).size ≤ 9223372036854775807 then (spec_l1Cur_drawn.l0 k1 (x3_1 ++ (Utf8.encode ((wrap64 (49 + t108)) % 256))) (wrap64 (x4_1 - 1)) s0_0 t109 t110) else (none)) else ((spec_l1Cur_one.f s0_0 t109 t110 6).bind fun bt113 => (if bt113.1 = true then (if x3_1.size + (Utf8.encode ((wrap64 (49 + t108)) % 256)).size ≤ 9223372036854775807 then (spec_l1Cur_drawn.l0 k1 (x3_1 ++ (Utf8.encode ((wrap64 (49 + t108)) % 256))) (wrap64 (x4_1 - 1)) s0_0 bt113.2.1 bt113.2.2) else (none)) else (spec_l1Cur_drawn.l0 k1 x3_1 (wrap64 (x4_1 - 1)) s0_0 bt113.2.1 bt113.2.2))))) = some (r1,r2,r3) := by rw [if_neg (show ¬ (false = true) by decide)] at H; exact H
     clear H; have H := H1; clear H1; replace H := Option.bind_eq_some_iff.mp H; obtain ⟨t112,A130,H⟩ := H; replace H : (if t112 = true then (if x3_1.size + (Utf8.encode ((wrap64 (49 + t108)) % 256)).size ≤ 9223372036854775807 then (spec_l1Cur_drawn.l0 k1 (x3_1 ++ (Utf8.encode ((wrap64 (49 + t108)) % 256))) (wrap64 (x4_1 - 1)) s0_0 t109 t110) else (none)) else ((spec_l1Cur_one.f s0_0 t109 t110 6).bind fun bt113 => (if bt113.1 = true then (if x3_1.size + (Utf8.encode ((wrap64 (49 + t108)) % 256)).size ≤ 9223372036854775807 then (spec_l1Cur_drawn.l0 k1 (x3_1 ++ (Utf8.encode ((wrap64 (49 + t108)) % 256))) (wrap64 (x4_1 - 1)) s0_0 bt113.2.1 bt113.2.2) else (none)) else (spec_l1Cur_drawn.l0 k1 x3_1 (wrap64 (x4_1 - 1)) s0_0 bt113.2.1 bt113.2.2)))) = some (r1,r2,r3) := H; have A13 := Aside0.mk A130; clear A130
     by_cases c14 : t112 = true
     ·
      subst c14; have H1 : (if x3_1.size + (Utf8.encode ((wrap64 (49 + t108)) % 256)).size ≤ 9223372036854775807 then (spec_l1Cur_drawn.l0 k1 (x3_1 ++ (Utf8.encode ((wrap64 (49 + t108)) % 256))) (wrap64 (x4_1 - 1)) s0_0 t109 t110) else (none)) = some (r1,r2,r3) := by rw [if_pos rfl] at H; exact H
      clear H; have H := H1; clear H1
      by_cases c15 : x3_1.size + (Utf8.encode ((wrap64 (49 + t108)) % 256)).size ≤ 9223372036854775807
      ·
       rw [if_pos c15] at H; have c15b0 := eq_true c15; have c15b1 : decide (x3_1.size + (Utf8.encode ((wrap64 (49 + t108)) % 256)).size ≤ 9223372036854775807) = true := decide_eq_true c15; try have c15b2 : (9223372036854775807 < x3_1.size + (Utf8.encode ((wrap64 (49 + t108)) % 256)).size) = False := eq_false (Nat.not_lt.2 c15)
       have H' := Aside0.mk H; clear H; go_wp2_with (first | ((with_reducible refine gate_callee (f := 54) rfl ?_); refine goesL_ (some 17) rfl rfl Tryz.func54 (by kernel_rfl) rfl #[.pointer (some ⟨g,0,none⟩),.int .i64 9] rfl (by (try simp only [List.map_toArray,List.map_cons,List.map_nil]); first | done | rfl | (simp only [List.length_drop,List.length_take]; rfl)) ?_; (with_reducible refine (spec_l1Cur_pick.calls g s0_0 x1001_1 x1002_1 9 t108 t109 t110 w0 _ ?side1 ?side2 A9.out).mono ?_); (case side1 => repeat (first | (with_reducible first | exact HI0.out | apply IsS49.alloc | apply IsS49.drewN | apply IsS49.drew | apply IsS49.set_1 | apply IsS49.set_2) | exact HI0.out)); (case side2 => repeat (first | (with_reducible first | exact HB.out | apply below_alloc | apply pw_below_drewN | apply below_drew1 | refine below_set ?_ (IsS49.ge HI0.out)) | exact HB.out)); rintro e w16 ⟨rfl,hi,hb,hk⟩; refine ⟨_,rfl,?_⟩; have n0_ := Aside0.mk (KeepBut.trans (by repeat (first | (with_reducible first | exact HK.out | apply KeepBut.set_ | apply keep_drewN | apply keep_drew | apply keep_alloc) | exact HK.out)) hk (.inl rfl)); have n1_ := Aside0.mk (hb); have n2_ := Aside0.mk (hi); clear HK; clear HB; clear HI0; have HK := n0_; have HB := n1_; have HI0 := n2_; clear n0_ n1_ n2_; (try clear hb); (try clear hb2); (try clear hk); (try clear hi)) | ((with_reducible refine gate_callee (f := 61) rfl ?_); refine goesL_ (some 22) rfl rfl Tryz.func61 (by kernel_rfl) rfl #[.string x3_1,.int .u8 ((wrap64 (49 + t108)) % 256)] rfl (by (try simp only [List.map_toArray,List.map_cons,List.map_nil]); first | done | rfl | (simp only [List.length_drop,List.length_take]; rfl)) ?_; (with_reducible refine (spec_piHas.calls k1 x3_1 ((wrap64 (49 + t108)) % 256) false _ A10.out).mono ?_); rintro e w' ⟨rfl,⟨nd,rfl⟩⟩; refine ⟨_,rfl,?_⟩) | (go_at_call 32; (with_reducible refine (spec_piGoes.calls k1 x3_1 ((wrap64 (49 + t108)) % 256) true _ A13.out).mono ?_); rintro e w' ⟨rfl,⟨nd,rfl⟩⟩; have hcv17 : ∀ W : World,(convert 21 9 (.int .i32 ((wrap64 (49 + t108)) % 256))).run Tryz.prog W = .ok (.string (Utf8.encode ((wrap64 (49 + t108)) % 256))) W := fun W => run_convert_int_string W 21 9 .i32 ((wrap64 (49 + t108)) % 256) (by rw [Tryz.underlying21]; rfl) Tryz.underlying9))
       go_roundg k1
       case measure => have := HK1.out; omega
       case rel => exact ⟨(x3_1 ++ (Utf8.encode ((wrap64 (49 + t108)) % 256))),(wrap64 (x4_1 - 1)),(t109),(t110),(by first | rfl | (simp; done) | (simp [*]; done)),(by first | rfl | (simp; done) | (simp [*]; done)),H',⟨by have := HK1.out; omega⟩,⟨by repeat (first | (with_reducible first | exact HI0.out | apply IsS49.alloc | apply IsS49.drewN | apply IsS49.drew | apply IsS49.set_1 | apply IsS49.set_2) | exact HI0.out)⟩,⟨by repeat (first | (with_reducible first | exact HK.out | apply KeepBut.set_ | apply keep_drewN | apply keep_drew | apply keep_alloc) | exact HK.out)⟩,⟨by repeat (first | (with_reducible first | exact HB.out | apply below_alloc | apply pw_below_drewN | apply below_drew1 | refine below_set ?_ (IsS49.ge HI0.out)) | exact HB.out)⟩⟩
      · rw [if_neg c15] at H; exact absurd H (by simp)
     ·
      replace c14 := Bool.eq_false_iff.mpr c14; subst c14; have H1 : ((spec_l1Cur_one.f s0_0 t109 t110 6).bind fun bt113 => (if bt113.1 = true then (if x3_1.size + (Utf8.encode ((wrap64 (49 + t108)) % 256)).size ≤ 9223372036854775807 then (spec_l1Cur_drawn.l0 k1 (x3_1 ++ (Utf8.encode ((wrap64 (49 + t108)) % 256))) (wrap64 (x4_1 - 1)) s0_0 bt113.2.1 bt113.2.2) else (none)) else (spec_l1Cur_drawn.l0 k1 x3_1 (wrap64 (x4_1 - 1)) s0_0 bt113.2.1 bt113.2.2))) = some (r1,r2,r3) := by rw [if_neg (show ¬ (false = true) by decide)] at H; exact H
      clear H; have H := H1; clear H1; replace H := Option.bind_eq_some_iff.mp H; obtain ⟨⟨t113,t114,t115⟩,A180,H⟩ := H; replace H : (if t113 = true then (if x3_1.size + (Utf8.encode ((wrap64 (49 + t108)) % 256)).size ≤ 9223372036854775807 then (spec_l1Cur_drawn.l0 k1 (x3_1 ++ (Utf8.encode ((wrap64 (49 + t108)) % 256))) (wrap64 (x4_1 - 1)) s0_0 t114 t115) else (none)) else (spec_l1Cur_drawn.l0 k1 x3_1 (wrap64 (x4_1 - 1)) s0_0 t114 t115)) = some (r1,r2,r3) := H; have A18 := Aside0.mk A180; clear A180
      by_cases c19 : t113 = true
      ·
       subst c19; have H1 : (if x3_1.size + (Utf8.encode ((wrap64 (49 + t108)) % 256)).size ≤ 9223372036854775807 then (spec_l1Cur_drawn.l0 k1 (x3_1 ++ (Utf8.encode ((wrap64 (49 + t108)) % 256))) (wrap64 (x4_1 - 1)) s0_0 t114 t115) else (none)) = some (r1,r2,r3) := by rw [if_pos rfl] at H; exact H
       clear H; have H := H1; clear H1
       by_cases c20 : x3_1.size + (Utf8.encode ((wrap64 (49 + t108)) % 256)).size ≤ 9223372036854775807
       ·
        rw [if_pos c20] at H; have c20b0 := eq_true c20; have c20b1 : decide (x3_1.size + (Utf8.encode ((wrap64 (49 + t108)) % 256)).size ≤ 9223372036854775807) = true := decide_eq_true c20; try have c20b2 : (9223372036854775807 < x3_1.size + (Utf8.encode ((wrap64 (49 + t108)) % 256)).size) = False := eq_false (Nat.not_lt.2 c20)
        have H' := Aside0.mk H; clear H; go_wp2_with (first | ((with_reducible refine gate_callee (f := 54) rfl ?_); refine goesL_ (some 17) rfl rfl Tryz.func54 (by kernel_rfl) rfl #[.pointer (some ⟨g,0,none⟩),.int .i64 9] rfl (by (try simp only [List.map_toArray,List.map_cons,List.map_nil]); first | done | rfl | (simp only [List.length_drop,List.length_take]; rfl)) ?_; (with_reducible refine (spec_l1Cur_pick.calls g s0_0 x1001_1 x1002_1 9 t108 t109 t110 w0 _ ?side1 ?side2 A9.out).mono ?_); (case side1 => repeat (first | (with_reducible first | exact HI0.out | apply IsS49.alloc | apply IsS49.drewN | apply IsS49.drew | apply IsS49.set_1 | apply IsS49.set_2) | exact HI0.out)); (case side2 => repeat (first | (with_reducible first | exact HB.out | apply below_alloc | apply pw_below_drewN | apply below_drew1 | refine below_set ?_ (IsS49.ge HI0.out)) | exact HB.out)); rintro e w21 ⟨rfl,hi,hb,hk⟩; refine ⟨_,rfl,?_⟩; have n0_ := Aside0.mk (KeepBut.trans (by repeat (first | (with_reducible first | exact HK.out | apply KeepBut.set_ | apply keep_drewN | apply keep_drew | apply keep_alloc) | exact HK.out)) hk (.inl rfl)); have n1_ := Aside0.mk (hb); have n2_ := Aside0.mk (hi); clear HK; clear HB; clear HI0; have HK := n0_; have HB := n1_; have HI0 := n2_; clear n0_ n1_ n2_; (try clear hb); (try clear hb2); (try clear hk); (try clear hi)) | ((with_reducible refine gate_callee (f := 61) rfl ?_); refine goesL_ (some 22) rfl rfl Tryz.func61 (by kernel_rfl) rfl #[.string x3_1,.int .u8 ((wrap64 (49 + t108)) % 256)] rfl (by (try simp only [List.map_toArray,List.map_cons,List.map_nil]); first | done | rfl | (simp only [List.length_drop,List.length_take]; rfl)) ?_; (with_reducible refine (spec_piHas.calls k1 x3_1 ((wrap64 (49 + t108)) % 256) false _ A10.out).mono ?_); rintro e w' ⟨rfl,⟨nd,rfl⟩⟩; refine ⟨_,rfl,?_⟩) | (go_at_call 32; (with_reducible refine (spec_piGoes.calls k1 x3_1 ((wrap64 (49 + t108)) % 256) false _ A13.out).mono ?_); rintro e w' ⟨rfl,⟨nd,rfl⟩⟩) | (go_at_call 70; (with_reducible refine (spec_l1Cur_one.calls g s0_0 t109 t110 6 true t114 t115 w0 _ ?side1 ?side2 A18.out).mono ?_); (case side1 => repeat (first | (with_reducible first | exact HI0.out | apply IsS49.alloc | apply IsS49.drewN | apply IsS49.drew | apply IsS49.set_1 | apply IsS49.set_2) | exact HI0.out)); (case side2 => repeat (first | (with_reducible first | exact HB.out | apply below_alloc | apply pw_below_drewN | apply below_drew1 | refine below_set ?_ (IsS49.ge HI0.out)) | exact HB.out)); rintro e w22 ⟨rfl,hi,hb,hk⟩; have n0_ := Aside0.mk (KeepBut.trans (by repeat (first | (with_reducible first | exact HK.out | apply KeepBut.set_ | apply keep_drewN | apply keep_drew | apply keep_alloc) | exact HK.out)) hk (.inl rfl)); have n1_ := Aside0.mk (hb); have n2_ := Aside0.mk (hi); clear HK; clear HB; clear HI0; have HK := n0_; have HB := n1_; have HI0 := n2_; clear n0_ n1_ n2_; (try clear hb); (try clear hb2); (try clear hk); (try clear hi); have hcv23 : ∀ W : World,(convert 21 9 (.int .i32 ((wrap64 (49 + t108)) % 256))).run Tryz.prog W = .ok (.string (Utf8.encode ((wrap64 (49 + t108)) % 256))) W := fun W => run_convert_int_string W 21 9 .i32 ((wrap64 (49 + t108)) % 256) (by rw [Tryz.underlying21]; rfl) Tryz.underlying9))
        go_roundg k1
        case measure => have := HK1.out; omega
        case rel => exact ⟨(x3_1 ++ (Utf8.encode ((wrap64 (49 + t108)) % 256))),(wrap64 (x4_1 - 1)),(t114),(t115),(by first | rfl | (simp; done) | (simp [*]; done)),(by first | rfl | (simp; done) | (simp [*]; done)),H',⟨by have := HK1.out; omega⟩,⟨by repeat (first | (with_reducible first | exact HI0.out | apply IsS49.alloc | apply IsS49.drewN | apply IsS49.drew | apply IsS49.set_1 | apply IsS49.set_2) | exact HI0.out)⟩,⟨by repeat (first | (with_reducible first | exact HK.out | apply KeepBut.set_ | apply keep_drewN | apply keep_drew | apply keep_alloc) | exact HK.out)⟩,⟨by repeat (first | (with_reducible first | exact HB.out | apply below_alloc | apply pw_below_drewN | apply below_drew1 | refine below_set ?_ (IsS49.ge HI0.out)) | exact HB.out)⟩⟩
       · rw [if_neg c20] at H; exact absurd H (by simp)
      ·
       replace c19 := Bool.eq_false_iff.mpr c19; subst c19; have H1 : (spec_l1Cur_drawn.l0 k1 x3_1 (wrap64 (x4_1 - 1)) s0_0 t114 t115) = some (r1,r2,r3) := by rw [if_neg (show ¬ (false = true) by decide)] at H; exact H
       clear H; have H := H1; clear H1; have H' := Aside0.mk H; clear H; go_wp2_with (first | ((with_reducible refine gate_callee (f := 54) rfl ?_); refine goesL_ (some 17) rfl rfl Tryz.func54 (by kernel_rfl) rfl #[.pointer (some ⟨g,0,none⟩),.int .i64 9] rfl (by (try simp only [List.map_toArray,List.map_cons,List.map_nil]); first | done | rfl | (simp only [List.length_drop,List.length_take]; rfl)) ?_; (with_reducible refine (spec_l1Cur_pick.calls g s0_0 x1001_1 x1002_1 9 t108 t109 t110 w0 _ ?side1 ?side2 A9.out).mono ?_); (case side1 => repeat (first | (with_reducible first | exact HI0.out | apply IsS49.alloc | apply IsS49.drewN | apply IsS49.drew | apply IsS49.set_1 | apply IsS49.set_2) | exact HI0.out)); (case side2 => repeat (first | (with_reducible first | exact HB.out | apply below_alloc | apply pw_below_drewN | apply below_drew1 | refine below_set ?_ (IsS49.ge HI0.out)) | exact HB.out)); rintro e w24 ⟨rfl,hi,hb,hk⟩; refine ⟨_,rfl,?_⟩; have n0_ := Aside0.mk (KeepBut.trans (by repeat (first | (with_reducible first | exact HK.out | apply KeepBut.set_ | apply keep_drewN | apply keep_drew | apply keep_alloc) | exact HK.out)) hk (.inl rfl)); have n1_ := Aside0.mk (hb); have n2_ := Aside0.mk (hi); clear HK; clear HB; clear HI0; have HK := n0_; have HB := n1_; have HI0 := n2_; clear n0_ n1_ n2_; (try clear hb); (try clear hb2); (try clear hk); (try clear hi)) | ((with_reducible refine gate_callee (f := 61) rfl ?_); refine goesL_ (some 22) rfl rfl Tryz.func61 (by kernel_rfl) rfl #[.string x3_1,.int .u8 ((wrap64 (49 + t108)) % 256)] rfl (by (try simp only [List.map_toArray,List.map_cons,List.map_nil]); first | done | rfl | (simp only [List.length_drop,List.length_take]; rfl)) ?_; (with_reducible refine (spec_piHas.calls k1 x3_1 ((wrap64 (49 + t108)) % 256) false _ A10.out).mono ?_); rintro e w' ⟨rfl,⟨nd,rfl⟩⟩; refine ⟨_,rfl,?_⟩) | (go_at_call 32; (with_reducible refine (spec_piGoes.calls k1 x3_1 ((wrap64 (49 + t108)) % 256) false _ A13.out).mono ?_); rintro e w' ⟨rfl,⟨nd,rfl⟩⟩) | (go_at_call 70; (with_reducible refine (spec_l1Cur_one.calls g s0_0 t109 t110 6 false t114 t115 w0 _ ?side1 ?side2 A18.out).mono ?_); (case side1 => repeat (first | (with_reducible first | exact HI0.out | apply IsS49.alloc | apply IsS49.drewN | apply IsS49.drew | apply IsS49.set_1 | apply IsS49.set_2) | exact HI0.out)); (case side2 => repeat (first | (with_reducible first | exact HB.out | apply below_alloc | apply pw_below_drewN | apply below_drew1 | refine below_set ?_ (IsS49.ge HI0.out)) | exact HB.out)); rintro e w25 ⟨rfl,hi,hb,hk⟩; have n0_ := Aside0.mk (KeepBut.trans (by repeat (first | (with_reducible first | exact HK.out | apply KeepBut.set_ | apply keep_drewN | apply keep_drew | apply keep_alloc) | exact HK.out)) hk (.inl rfl)); have n1_ := Aside0.mk (hb); have n2_ := Aside0.mk (hi); clear HK; clear HB; clear HI0; have HK := n0_; have HB := n1_; have HI0 := n2_; clear n0_ n1_ n2_; (try clear hb); (try clear hb2); (try clear hk); (try clear hi)))
       go_roundg k1
       case measure => have := HK1.out; omega
       case rel => exact ⟨(x3_1),(wrap64 (x4_1 - 1)),(t114),(t115),(by first | rfl | (simp; done) | (simp [*]; done)),(by first | rfl | (simp; done) | (simp [*]; done)),H',⟨by have := HK1.out; omega⟩,⟨by repeat (first | (with_reducible first | exact HI0.out | apply IsS49.alloc | apply IsS49.drewN | apply IsS49.drew | apply IsS49.set_1 | apply IsS49.set_2) | exact HI0.out)⟩,⟨by repeat (first | (with_reducible first | exact HK.out | apply KeepBut.set_ | apply keep_drewN | apply keep_drew | apply keep_alloc) | exact HK.out)⟩,⟨by repeat (first | (with_reducible first | exact HB.out | apply below_alloc | apply pw_below_drewN | apply below_drew1 | refine below_set ?_ (IsS49.ge HI0.out)) | exact HB.out)⟩⟩
   ·
    rw [if_neg c8] at H; have c8b0 : decide (0 < x4_1) = false := decide_eq_false c8; clear c8; replace H := Option.bind_eq_some_iff.mp H; obtain ⟨⟨t116,t117,t118⟩,A260,H⟩ := H; replace H : (if t116 = true then ((spec_l1Cur_of.f s0_0 t117 t118 (([(⟨#[]⟩ : ByteArray),(⟨#[48]⟩ : ByteArray),(⟨#[49,49]⟩ : ByteArray),(⟨#[49,51]⟩ : ByteArray),(⟨#[49,50,51,52,53,54,55,56,57,48]⟩ : ByteArray),(⟨#[120]⟩ : ByteArray)] : List ByteArray))).bind fun bt122 => (some (bt122.1,bt122.2.1,bt122.2.2))) else (some (x3_1,t117,t118))) = some (r1,r2,r3) := H; have A26 := Aside0.mk A260; clear A260
    by_cases c27 : t116 = true
    ·
     subst c27; have H1 : ((spec_l1Cur_of.f s0_0 t117 t118 (([(⟨#[]⟩ : ByteArray),(⟨#[48]⟩ : ByteArray),(⟨#[49,49]⟩ : ByteArray),(⟨#[49,51]⟩ : ByteArray),(⟨#[49,50,51,52,53,54,55,56,57,48]⟩ : ByteArray),(⟨#[120]⟩ : ByteArray)] : List ByteArray))).bind fun bt122 => (some (bt122.1,bt122.2.1,bt122.2.2))) = some (r1,r2,r3) := by rw [if_pos rfl] at H; exact H
     clear H; have H := H1; clear H1; obtain ⟨y119,hy119⟩ : ∃ y_ : List ByteArray,y_ = (([(⟨#[]⟩ : ByteArray),(⟨#[48]⟩ : ByteArray),(⟨#[49,49]⟩ : ByteArray),(⟨#[49,51]⟩ : ByteArray),(⟨#[49,50,51,52,53,54,55,56,57,48]⟩ : ByteArray),(⟨#[120]⟩ : ByteArray)] : List ByteArray)) := ⟨_,rfl⟩; replace H : ((spec_l1Cur_of.f s0_0 t117 t118 y119).bind fun bt122 => (some (bt122.1,bt122.2.1,bt122.2.2))) = some (r1,r2,r3) := by first | (rw [hy119]; with_reducible exact H) | (have H2_ := (Option.bind_some _ _).symm.trans H; rw [hy119]; with_reducible exact H2_) | (have H2_ := (Option.bind_some _ _).symm.trans H; with_reducible exact H2_) | with_reducible exact H | (rw [hy119]; exact H) | exact H
     have Ny119 := Aside0.mk hy119; clear hy119; replace H := Option.bind_eq_some_iff.mp H; obtain ⟨⟨t122,t123,t124⟩,A280,H⟩ := H; replace H : (some (t122,t123,t124)) = some (r1,r2,r3) := H; have A28 := Aside0.mk A280; clear A280; simp only [Option.some.injEq,Prod.mk.injEq] at H; obtain ⟨rfl,rfl,rfl⟩ := H; go_wp2_with (first | ((with_reducible refine gate_callee (f := 70) rfl ?_); refine goesL_ (some 39) rfl rfl Tryz.func70 (by kernel_rfl) rfl #[.pointer (some ⟨g,0,none⟩),.int .i64 14] rfl (by (try simp only [List.map_toArray,List.map_cons,List.map_nil]); first | done | rfl | (simp only [List.length_drop,List.length_take]; rfl)) ?_; (with_reducible refine (spec_l1Cur_one.calls g s0_0 x1001_1 x1002_1 14 true t117 t118 w0 _ ?side1 ?side2 A26.out).mono ?_); (case side1 => repeat (first | (with_reducible first | exact HI0.out | apply IsS49.alloc | apply IsS49.drewN | apply IsS49.drew | apply IsS49.set_1 | apply IsS49.set_2) | exact HI0.out)); (case side2 => repeat (first | (with_reducible first | exact HB.out | apply below_alloc | apply pw_below_drewN | apply below_drew1 | refine below_set ?_ (IsS49.ge HI0.out)) | exact HB.out)); rintro e w29 ⟨rfl,hi,hb,hk⟩; refine ⟨_,rfl,?_⟩; have n0_ := Aside0.mk (KeepBut.trans (by repeat (first | (with_reducible first | exact HK.out | apply KeepBut.set_ | apply keep_drewN | apply keep_drew | apply keep_alloc) | exact HK.out)) hk (.inl rfl)); have n1_ := Aside0.mk (hb); have n2_ := Aside0.mk (hi); clear HK; clear HB; clear HI0; have HK := n0_; have HB := n1_; have HI0 := n2_; clear n0_ n1_ n2_; (try clear hb); (try clear hb2); (try clear hk); (try clear hi)) | ((with_reducible refine gate_dst (N := 41) rfl ?_); refine Kd.R_lit Kd.string _ 9 ?hg (N := 41) ?hd (xs := ([(⟨#[]⟩ : ByteArray),(⟨#[48]⟩ : ByteArray),(⟨#[49,49]⟩ : ByteArray),(⟨#[49,51]⟩ : ByteArray),(⟨#[49,50,51,52,53,54,55,56,57,48]⟩ : ByteArray),(⟨#[120]⟩ : ByteArray)] : List ByteArray)) (inner := [.string (⟨#[]⟩ : ByteArray),.string (⟨#[48]⟩ : ByteArray),.string (⟨#[49,49]⟩ : ByteArray),.string (⟨#[49,51]⟩ : ByteArray),.string (⟨#[49,50,51,52,53,54,55,56,57,48]⟩ : ByteArray),.string (⟨#[120]⟩ : ByteArray)]) (ok := fun _ => True) (okp := fun _ => True) ?hr ?hp (fun _ hk => hk) trivial (Below.refl _ _) (Nat.le_refl _) (by simp) ?_; (case hd => rfl); (case hg => rfl); (case hr => first | (go_simp; done) | (go_simp; rfl)); (case hp => exact (Reps.one (show Kd.M Kd.string _ _ _ (⟨#[]⟩ : ByteArray) [.string (⟨#[]⟩ : ByteArray)] from rfl) (Reps.one (show Kd.M Kd.string _ _ _ (⟨#[48]⟩ : ByteArray) [.string (⟨#[48]⟩ : ByteArray)] from rfl) (Reps.one (show Kd.M Kd.string _ _ _ (⟨#[49,49]⟩ : ByteArray) [.string (⟨#[49,49]⟩ : ByteArray)] from rfl) (Reps.one (show Kd.M Kd.string _ _ _ (⟨#[49,51]⟩ : ByteArray) [.string (⟨#[49,51]⟩ : ByteArray)] from rfl) (Reps.one (show Kd.M Kd.string _ _ _ (⟨#[49,50,51,52,53,54,55,56,57,48]⟩ : ByteArray) [.string (⟨#[49,50,51,52,53,54,55,56,57,48]⟩ : ByteArray)] from rfl) (Reps.one (show Kd.M Kd.string _ _ _ (⟨#[120]⟩ : ByteArray) [.string (⟨#[120]⟩ : ByteArray)] from rfl) (Reps.none _ _)))))))); intro v120 w30 ho31 hb hg_ hnew_; clear hg_ hnew_; (first | rw [← Ny119.out] at ho31 | (simp only [Int.reduceToNat] at ho31; rw [← Ny119.out] at ho31)); have n0_ := Aside0.mk (Kd.R_lower ho31 (keep_size (w := w) (g := g) (row := none) (by repeat (first | (with_reducible first | exact HK.out | apply KeepBut.set_ | apply keep_drewN | apply keep_drew | apply keep_alloc) | exact HK.out)))); have n1_ := Aside0.mk (IsS49.below (by repeat (first | (with_reducible first | exact HI0.out | apply IsS49.alloc | apply IsS49.drewN | apply IsS49.drew | apply IsS49.set_1 | apply IsS49.set_2) | exact HI0.out)) hb); have n2_ := Aside0.mk (KeepBut.trans (by repeat (first | (with_reducible first | exact HK.out | apply KeepBut.set_ | apply keep_drewN | apply keep_drew | apply keep_alloc) | exact HK.out)) (KeepBut.of_below hb g none) (.inl rfl)); have n3_ := Aside0.mk (below_step (by repeat (first | (with_reducible first | exact HB.out | apply below_alloc | apply pw_below_drewN | apply below_drew1 | refine below_set ?_ (IsS49.ge HI0.out)) | exact HB.out)) hb); clear HI0; clear HK; clear HB; have HO121 := n0_; have HI0 := n1_; have HK := n2_; have HB := n3_; clear n0_ n1_ n2_ n3_; clear hb ho31; obtain ⟨Ao32,co32,eo32⟩ := Kd.R_slice HO121.out; subst eo32) | ((with_reducible refine gate_callee (f := 35) rfl ?_); refine goesL_ (some 42) rfl rfl Tryz.func35 (by kernel_rfl) rfl #[.pointer (some ⟨g,0,none⟩),.slice Ao32 y119.length co32] rfl (by (try simp only [List.map_toArray,List.map_cons,List.map_nil]); first | done | rfl | (simp only [List.length_drop,List.length_take]; rfl)) ?_; (with_reducible refine (spec_l1Cur_of.calls g s0_0 t117 t118 _ _ y119 t122 t123 t124 w0 _ ?side1 ?side2 ?side3 ?side4 ?side5 A28.out).mono ?_); (case side1 => repeat (first | (with_reducible first | exact HI0.out | apply IsS49.alloc | apply IsS49.drewN | apply IsS49.drew | apply IsS49.set_1 | apply IsS49.set_2) | exact HI0.out)); (case side2 => repeat (first | (with_reducible first | exact HB.out | apply below_alloc | apply pw_below_drewN | apply below_drew1 | refine below_set ?_ (IsS49.ge HI0.out)) | exact HB.out)); (case side3 => repeat (first | exact (Kd.R_reads' HO121.out).2.2 | (with_reducible refine Kd.C_alloc ?_ _) | (with_reducible refine Kd.C_drewN ?_ _) | (with_reducible refine Kd.C_drew ?_))); (case side4 => exact (Kd.R_reads' HO121.out).2.1); (case side5 => exact far_slice (IsS49.own_ne HI0.out HO121.out (by decide))); rintro e w33 ⟨rfl,hi,hb,hk⟩; refine ⟨_,rfl,?_⟩; have n0_ := Aside0.mk (Kd.R_mono (Kd.R_keep (IsS49.apart (show IsS49 w0 _ g s0_0 t117 t118 from by repeat (first | (with_reducible first | exact HI0.out | apply IsS49.alloc | apply IsS49.drewN | apply IsS49.drew | apply IsS49.set_1 | apply IsS49.set_2) | exact HI0.out)) (by (with_reducible repeat (first | apply Kd.R_alloc | apply Kd.R_drewN | apply Kd.R_drew)); exact HO121.out) (by decide)) hk (fun _ h => h.2)) (fun _ h => h.1)); have n1_ := Aside0.mk (KeepBut.trans (by repeat (first | (with_reducible first | exact HK.out | apply KeepBut.set_ | apply keep_drewN | apply keep_drew | apply keep_alloc) | exact HK.out)) hk (.inl rfl)); have n2_ := Aside0.mk (hb); have n3_ := Aside0.mk (hi); clear HO121; clear HK; clear HB; clear HI0; have HO121 := n0_; have HK := n1_; have HB := n2_; have HI0 := n3_; clear n0_ n1_ n2_ n3_; (try clear hb); (try clear hb2); (try clear hk); (try clear hi)))
     go_ret
     exact ⟨by first | rfl | (simp [errW_none,errW_some] <;> rfl) | (simp [*,errW_none,errW_some] <;> rfl),by repeat (first | (with_reducible first | exact HI0.out | apply IsS49.alloc | apply IsS49.drewN | apply IsS49.drew | apply IsS49.set_1 | apply IsS49.set_2) | exact HI0.out),by repeat (first | (with_reducible first | exact HB.out | apply below_alloc | apply pw_below_drewN | apply below_drew1 | refine below_set ?_ (IsS49.ge HI0.out)) | exact HB.out),by repeat (first | (with_reducible first | exact HK.out | apply KeepBut.set_ | apply keep_drewN | apply keep_drew | apply keep_alloc) | exact HK.out)⟩
    ·
     replace c27 := Bool.eq_false_iff.mpr c27; subst c27; have H1 : (some (x3_1,t117,t118)) = some (r1,r2,r3) := by rw [if_neg (show ¬ (false = true) by decide)] at H; exact H
     clear H; have H := H1; clear H1; simp only [Option.some.injEq,Prod.mk.injEq] at H; obtain ⟨rfl,rfl,rfl⟩ := H; go_wp2_with (first | ((with_reducible refine gate_callee (f := 70) rfl ?_); refine goesL_ (some 39) rfl rfl Tryz.func70 (by kernel_rfl) rfl #[.pointer (some ⟨g,0,none⟩),.int .i64 14] rfl (by (try simp only [List.map_toArray,List.map_cons,List.map_nil]); first | done | rfl | (simp only [List.length_drop,List.length_take]; rfl)) ?_; (with_reducible refine (spec_l1Cur_one.calls g s0_0 x1001_1 x1002_1 14 false t117 t118 w0 _ ?side1 ?side2 A26.out).mono ?_); (case side1 => repeat (first | (with_reducible first | exact HI0.out | apply IsS49.alloc | apply IsS49.drewN | apply IsS49.drew | apply IsS49.set_1 | apply IsS49.set_2) | exact HI0.out)); (case side2 => repeat (first | (with_reducible first | exact HB.out | apply below_alloc | apply pw_below_drewN | apply below_drew1 | refine below_set ?_ (IsS49.ge HI0.out)) | exact HB.out)); rintro e w34 ⟨rfl,hi,hb,hk⟩; refine ⟨_,rfl,?_⟩; have n0_ := Aside0.mk (KeepBut.trans (by repeat (first | (with_reducible first | exact HK.out | apply KeepBut.set_ | apply keep_drewN | apply keep_drew | apply keep_alloc) | exact HK.out)) hk (.inl rfl)); have n1_ := Aside0.mk (hb); have n2_ := Aside0.mk (hi); clear HK; clear HB; clear HI0; have HK := n0_; have HB := n1_; have HI0 := n2_; clear n0_ n1_ n2_; (try clear hb); (try clear hb2); (try clear hk); (try clear hi)))
     go_ret
     exact ⟨by first | rfl | (simp [errW_none,errW_some] <;> rfl) | (simp [*,errW_none,errW_some] <;> rfl),by repeat (first | (with_reducible first | exact HI0.out | apply IsS49.alloc | apply IsS49.drewN | apply IsS49.drew | apply IsS49.set_1 | apply IsS49.set_2) | exact HI0.out),by repeat (first | (with_reducible first | exact HB.out | apply below_alloc | apply pw_below_drewN | apply below_drew1 | refine below_set ?_ (IsS49.ge HI0.out)) | exact HB.out),by repeat (first | (with_reducible first | exact HK.out | apply KeepBut.set_ | apply keep_drewN | apply keep_drew | apply keep_alloc) | exact HK.out)⟩

end Go.Proofs.YtfhbclfmnliopaaGreatDoor.P

-- printed by xprint.py
namespace Go.Proofs.YtfhbclfmnliopaaGreatDoor.P
open Go.RowKit Go.Proofs.YtfhbclfmnliopaaGreatDoorW.PrintWords Go.Proofs.YtfhbclfmnliopaaGreatDoorW.PrintLast Go.Proofs.YtfhbclfmnliopaaGreatDoorW.PrintMore
attribute [local go_sem] max2_int min2_int max_two min_two max_three min_three max_four min_four   -- for this text's walks alone
set_option linter.unusedVariables false
set_option linter.unusedSimpArgs false

/-! ### spec_DrawIsDrawn: function 26 -/
def spec_DrawIsDrawn.g (k : Nat) (s0_0 : List Int) (s0_1 : Int) (s0_2 : Int) : Option (ByteArray × Int × Int) := (spec_l1Cur_drawn.f k s0_0 s0_1 s0_2).bind fun bt101 => (some (bt101.1,bt101.2.1,bt101.2.2))
theorem spec_DrawIsDrawn.gmono : ∀ y0 y1 y2 k,LeO (spec_DrawIsDrawn.g k y0 y1 y2) (spec_DrawIsDrawn.g (k + 1) y0 y1 y2) := by
 intro y0 y1 y2 k
 unfold spec_DrawIsDrawn.g
 repeat' first
   | (with_reducible exact spec_l1Cur_drawn.mono _ _ _ _)
   | (with_reducible exact LeO.refl _)
   | (with_reducible exact LeO.none _)
   | (with_reducible refine LeO.ite ?_ ?_)
   | (with_reducible refine LeO.bind ?_ (fun _ => ?_))
   | exact spec_l1Cur_drawn.mono _ _ _ _
   | exact LeO.none _
   | refine LeO.ite ?_ ?_
   | refine LeO.bind ?_ (fun _ => ?_)
def spec_DrawIsDrawn.f (k : Nat) (l0 : List Int) : Option ByteArray := (spec_DrawIsDrawn.g k l0 0 0).bind fun p => some (p.1)
theorem spec_DrawIsDrawn.mono : ∀ y0 k,LeO (spec_DrawIsDrawn.f k y0) (spec_DrawIsDrawn.f (k + 1) y0) := by
 intro y0 k
 unfold spec_DrawIsDrawn.f
 exact LeO.bind (spec_DrawIsDrawn.gmono y0 0 0 k) (fun _ => LeO.refl _)
set_option maxHeartbeats 8000000 in
set_option maxRecDepth 100000 in
theorem spec_DrawIsDrawn.calls (k : Nat) (A0 : Option Addr) (c0 : Nat) (l0 : List Int) (r1 : ByteArray) (w : World) (hr0 : Kd.C (Kd.int .u8) w A0 l0.length l0) (hc0 : l0.length ≤ c0) (h : spec_DrawIsDrawn.f k l0 = some (r1)) :
  Calls Tryz.prog 26 #[.slice A0 l0.length c0] w fun e w' => e = .returned (.string r1) ∧ Below w.heap.size w w' := by
 unfold spec_DrawIsDrawn.f at h
 have h0 := h; clear h; obtain ⟨⟨r1_,s1_,s2_⟩,h,hq⟩ := Option.bind_eq_some_iff.mp h0; clear h0; simp only [Option.some.injEq] at hq; obtain rfl := hq; have HR0 := Aside0.mk hr0; clear hr0; have HBr := Aside0.mk (Below.refl w.heap.size w); have H : ((spec_l1Cur_drawn.f k l0 (0 : Int) (0 : Int)).bind fun bt101 => (some (bt101.1,bt101.2.1,bt101.2.2))) = some (r1_,s1_,s2_) := h; clear h; replace H := Option.bind_eq_some_iff.mp H; obtain ⟨⟨t101,t102,t103⟩,A20,H⟩ := H; replace H : (some (t101,t102,t103)) = some (r1_,s1_,s2_) := H; have A2 := Aside0.mk A20; clear A20; simp only [Option.some.injEq,Prod.mk.injEq] at H; obtain ⟨rfl,rfl,rfl⟩ := H
 go_enter Tryz.func26,Tryz.ntmps26
 go_wp2_with (first | ((with_reducible refine gate_dst (N := 6) rfl ?_); refine box_event ?hg (N := 6) ?hd (cs := #[.slice A0 l0.length c0,.int .i64 0,.int .u64 0]) (t := 49) ?hr ?_; (case hd => rfl); (case hg => rfl); (case hr => first | (go_simp; done) | (go_simp; rfl)); intro g hg wb hbox hb; have HI0 := Aside0.mk (show IsS49 w wb g l0 0 0 from ⟨A0,c0,hbox,by rw [hg]; exact below_size (by repeat (first | (with_reducible first | exact HBr.out | apply below_alloc | apply pw_below_drewN | apply below_drew1) | exact HBr.out)),HR0.out⟩); have HB := Aside0.mk (below_step (by repeat (first | (with_reducible first | exact HBr.out | apply below_alloc | apply pw_below_drewN | apply below_drew1) | exact HBr.out)) hb); have HL := Aside0.mk HB.out.size; have HW0 := Aside0.mk HB.out.size; have HK := Aside0.mk (KeepBut.refl wb g none); clear hb hbox hg) | ((with_reducible refine gate_callee (f := 56) rfl ?_); refine goesL_ (some 8) rfl rfl Tryz.func56 (by kernel_rfl) rfl #[.pointer (some ⟨g,0,none⟩)] rfl (by (try simp only [List.map_toArray,List.map_cons,List.map_nil]); first | done | rfl | (simp only [List.length_drop,List.length_take]; rfl)) ?_; (with_reducible refine (spec_l1Cur_drawn.calls k g l0 (0 : Int) (0 : Int) t101 t102 t103 w _ ?side1 ?side2 A2.out).mono ?_); (case side1 => repeat (first | (with_reducible first | exact HI0.out | apply IsS49.alloc | apply IsS49.drewN | apply IsS49.drew | apply IsS49.set_1 | apply IsS49.set_2) | exact HI0.out)); (case side2 => repeat (first | (with_reducible first | exact HB.out | apply below_alloc | apply pw_below_drewN | apply below_drew1 | refine below_set ?_ (IsS49.ge HI0.out)) | exact HB.out)); rintro e w3 ⟨rfl,hi,hb,hk⟩; refine ⟨_,rfl,?_⟩; have n0_ := Aside0.mk (KeepBut.trans (by repeat (first | (with_reducible first | exact HK.out | apply KeepBut.set_ | apply keep_drewN | apply keep_drew | apply keep_alloc) | exact HK.out)) hk (.inl rfl)); have n1_ := Aside0.mk (hb); have n2_ := Aside0.mk (hi); clear HK; clear HB; clear HI0; have HK := n0_; have HB := n1_; have HI0 := n2_; clear n0_ n1_ n2_; (try clear hb); (try clear hb2); (try clear hk); (try clear hi)))
 go_ret
 exact ⟨by first | rfl | (simp [errW_none,errW_some] <;> rfl) | (simp [*,errW_none,errW_some] <;> rfl),by repeat (first | (with_reducible first | exact HB.out | apply below_alloc | apply pw_below_drewN | apply below_drew1 | refine below_set ?_ (IsS49.ge HI0.out)) | exact HB.out)⟩

end Go.Proofs.YtfhbclfmnliopaaGreatDoor.P

-- printed by xprint.py
namespace Go.Proofs.YtfhbclfmnliopaaGreatDoor.P
open Go.RowKit Go.Proofs.YtfhbclfmnliopaaGreatDoorW.PrintWords Go.Proofs.YtfhbclfmnliopaaGreatDoorW.PrintLast Go.Proofs.YtfhbclfmnliopaaGreatDoorW.PrintMore
attribute [local go_sem] max2_int min2_int max_two min_two max_three min_three max_four min_four   -- for this text's walks alone
set_option linter.unusedVariables false
set_option linter.unusedSimpArgs false

/-! ### spec_DrawNextPoints: function 5 -/
def spec_DrawNextPoints.f (k : Nat) (l0 : List Int) : Option (ByteArray) := (spec_DrawIsDrawn.f k l0).bind fun t101 => (some t101)
theorem spec_DrawNextPoints.mono : ∀ y0 k,LeO (spec_DrawNextPoints.f k y0) (spec_DrawNextPoints.f (k + 1) y0) := by
 intro y0 k
 unfold spec_DrawNextPoints.f
 repeat' first
   | (with_reducible exact spec_DrawIsDrawn.mono _ _)
   | (with_reducible exact LeO.refl _)
   | (with_reducible exact LeO.none _)
   | (with_reducible refine LeO.ite ?_ ?_)
   | (with_reducible refine LeO.bind ?_ (fun _ => ?_))
   | exact spec_DrawIsDrawn.mono _ _
   | exact LeO.none _
   | refine LeO.ite ?_ ?_
   | refine LeO.bind ?_ (fun _ => ?_)
set_option maxHeartbeats 8000000 in
set_option maxRecDepth 100000 in
theorem spec_DrawNextPoints.calls (k : Nat) (A0 : Option Addr) (c0 : Nat) (l0 : List Int) (r : ByteArray) (w : World) (hr0 : Kd.C (Kd.int .u8) w A0 l0.length l0) (hc0 : l0.length ≤ c0) (h : spec_DrawNextPoints.f k l0 = some r) :
  Calls Tryz.prog 5 #[.slice A0 l0.length c0] w fun e w' => e = .returned (.string r) ∧ Below w.heap.size w w' := by
 have HR0 := Aside0.mk hr0; have HC0 := Aside0.mk hc0; clear hr0 hc0; have HB := Aside0.mk (Below.refl w.heap.size w); have H : ((spec_DrawIsDrawn.f k l0).bind fun t101 => (some t101)) = some r := h; clear h; replace H := Option.bind_eq_some_iff.mp H; obtain ⟨t101,A20,H⟩ := H; replace H : (some t101) = some r := H; have A2 := Aside0.mk A20; clear A20; obtain rfl := Option.some.inj H
 go_enter Tryz.func5,Tryz.ntmps5
 go_wp2_with (first | ((with_reducible refine gate_callee (f := 26) rfl ?_); refine goesL_ (some 4) rfl rfl Tryz.func26 (by kernel_rfl) rfl #[.slice A0 l0.length c0] rfl (by (try simp only [List.map_toArray,List.map_cons,List.map_nil]); first | done | rfl | (simp only [List.length_drop,List.length_take]; rfl)) ?_; (with_reducible refine (spec_DrawIsDrawn.calls k _ _ l0 t101 _ ?side1 ?side2 A2.out).mono ?_); (case side1 => repeat (first | exact HR0.out | (with_reducible refine Kd.C_alloc ?_ _) | (with_reducible refine Kd.C_drewN ?_ _) | (with_reducible refine Kd.C_drew ?_))); (case side2 => exact HC0.out); rintro e w3 ⟨rfl,hb⟩; refine ⟨_,rfl,?_⟩; have n0_ := Aside0.mk (below_step (by repeat (first | (with_reducible first | exact HB.out | apply below_alloc | apply pw_below_drewN | apply below_drew1) | exact HB.out)) hb); clear HB; have HB := n0_; clear n0_; (try clear hb); (try clear hb2); (try clear hk); (try clear hi)))
 go_ret
 exact ⟨by first | rfl | (simp [errW_none,errW_some] <;> rfl) | (simp [*,errW_none,errW_some] <;> rfl),by repeat (first | (with_reducible first | exact HB.out | apply below_alloc | apply pw_below_drewN | apply below_drew1) | exact HB.out)⟩

end Go.Proofs.YtfhbclfmnliopaaGreatDoor.P

-- printed by xprint.py
namespace Go.Proofs.YtfhbclfmnliopaaGreatDoor.P
open Go.RowKit Go.Proofs.YtfhbclfmnliopaaGreatDoorW.PrintWords Go.Proofs.YtfhbclfmnliopaaGreatDoorW.PrintLast Go.Proofs.YtfhbclfmnliopaaGreatDoorW.PrintMore
attribute [local go_sem] max2_int min2_int max_two min_two max_three min_three max_four min_four   -- for this text's walks alone
set_option linter.unusedVariables false
set_option linter.unusedSimpArgs false

/-! ### spec_l1Cur_pin: function 53 -/
def spec_l1Cur_pin.l0 : Nat → Int → ByteArray → List Int → Int → Int → Option (ByteArray × Int × Int)
 | 0,_,_,_,_,_ => none
 | k + 1,x1,x5,x1000,x1001,x1002 => if x1 > 0 then ((spec_l1Cur_among.f x1000 x1001 x1002 (([0,1,1,2,3,9] : List Int))).bind fun bt104 => ((spec_l1Num.f k bt104.1).bind fun t107 => (if x5.size + t107.size ≤ 9223372036854775807 then (spec_l1Cur_pin.l0 k (wrap64 (x1 - 1)) (x5 ++ t107) x1000 bt104.2.1 bt104.2.2) else (none)))) else ((spec_l1Cur_one.f x1000 x1001 x1002 16).bind fun bt108 => (if bt108.1 = true then ((spec_l1Cur_of.f x1000 bt108.2.1 bt108.2.2 (([(⟨#[]⟩ : ByteArray),(⟨#[49]⟩ : ByteArray),(⟨#[49,50,120]⟩ : ByteArray),(⟨#[49,50,51,52,53]⟩ : ByteArray),(⟨#[48,48,48,48]⟩ : ByteArray)] : List ByteArray))).bind fun bt114 => (some (bt114.1,bt114.2.1,bt114.2.2))) else (some (x5,bt108.2.1,bt108.2.2))))
def spec_l1Cur_pin.f (k : Nat) (s0_0 : List Int) (s0_1 : Int) (s0_2 : Int) (a1 : Int) : Option (ByteArray × Int × Int) := spec_l1Cur_pin.l0 k a1 (⟨#[]⟩ : ByteArray) s0_0 s0_1 s0_2
theorem spec_l1Cur_pin.mono_l : ∀ k,(∀ y0 y1 y2 y3 y4,LeO (spec_l1Cur_pin.l0 k y0 y1 y2 y3 y4) (spec_l1Cur_pin.l0 (k + 1) y0 y1 y2 y3 y4))
 | 0 => by intros; intro r h; simp [spec_l1Cur_pin.l0] at h
 | k + 1 => by
  have ih0 := spec_l1Cur_pin.mono_l k
  ·
   intro y0 y1 y2 y3 y4
   unfold spec_l1Cur_pin.l0
   repeat' first
   | (with_reducible exact ih0 _ _ _ _ _)
   | (with_reducible exact spec_l1Num.mono _ _)
   | (with_reducible exact LeO.refl _)
   | (with_reducible exact LeO.none _)
   | (with_reducible refine LeO.ite ?_ ?_)
   | (with_reducible refine LeO.bind ?_ (fun _ => ?_))
   | exact ih0 _ _ _ _ _
   | exact spec_l1Num.mono _ _
   | exact LeO.none _
   | refine LeO.ite ?_ ?_
   | refine LeO.bind ?_ (fun _ => ?_)
theorem spec_l1Cur_pin.mono : ∀ y0 y1 y2 y3 k,LeO (spec_l1Cur_pin.f k y0 y1 y2 y3) (spec_l1Cur_pin.f (k + 1) y0 y1 y2 y3) := by
 intro y0 y1 y2 y3 k; have ih0 := spec_l1Cur_pin.mono_l k
 unfold spec_l1Cur_pin.f
 repeat' first
   | (with_reducible exact ih0 _ _ _ _ _)
   | (with_reducible exact spec_l1Num.mono _ _)
   | (with_reducible exact LeO.refl _)
   | (with_reducible exact LeO.none _)
   | (with_reducible refine LeO.ite ?_ ?_)
   | (with_reducible refine LeO.bind ?_ (fun _ => ?_))
   | exact ih0 _ _ _ _ _
   | exact spec_l1Num.mono _ _
   | exact LeO.none _
   | refine LeO.ite ?_ ?_
   | refine LeO.bind ?_ (fun _ => ?_)
set_option maxHeartbeats 8000000 in
set_option maxRecDepth 100000 in
theorem spec_l1Cur_pin.calls (k : Nat) (g : Nat) (s0_0 : List Int) (s0_1 : Int) (s0_2 : Int) (a1 : Int) (r1 : ByteArray) (r2 : Int) (r3 : Int) (w0 w : World) (hI : IsS49 w0 w g s0_0 s0_1 s0_2) (hB : Below w0.heap.size w0 w) (h : spec_l1Cur_pin.f k s0_0 s0_1 s0_2 a1 = some (r1,r2,r3)) :
  Calls Tryz.prog 53 #[.pointer (some ⟨g,0,none⟩),.int .i64 a1] w fun e w' => e = .returned (.string r1) ∧ IsS49 w0 w' g s0_0 r2 r3 ∧ Below w0.heap.size w0 w' ∧ KeepBut w w' g none := by
 have HI0 := Aside0.mk hI; have HK := Aside0.mk (KeepBut.refl w g none); have HL := Aside0.mk hB.size; clear hI; have HW0 := Aside0.mk hB.size; have HB := Aside0.mk hB; clear hB; have H : (spec_l1Cur_pin.l0 k a1 (⟨#[]⟩ : ByteArray) s0_0 s0_1 s0_2) = some (r1,r2,r3) := h; clear h; have H' := Aside0.mk H; clear H
 go_enter Tryz.func53,Tryz.ntmps53
 go_wp2
 go_loopg [1,5] k (fun kq v1 v5 w' => ∃ (x1_1 : Int) (x5_1 : ByteArray) (x1001_1 : Int) (x1002_1 : Int),v1 = .int .i64 x1_1 ∧ v5 = .string x5_1 ∧ Aside0 (spec_l1Cur_pin.l0 kq x1_1 x5_1 s0_0 x1001_1 x1002_1 = some (r1,r2,r3)) ∧ Aside0 (kq ≤ k) ∧ Aside0 (IsS49 w0 w' g s0_0 x1001_1 x1002_1) ∧ Aside0 (KeepBut w w' g none) ∧ Aside0 (Below w0.heap.size w0 w'))
 case atStart => exact ⟨(a1),((⟨#[]⟩ : ByteArray)),(s0_1),(s0_2),(by first | rfl | (simp; done) | (simp [*]; done)),(by first | rfl | (simp; done) | (simp [*]; done)),H',⟨Nat.le_refl _⟩,⟨by repeat (first | (with_reducible first | exact HI0.out | apply IsS49.alloc | apply IsS49.drewN | apply IsS49.drew | apply IsS49.set_1 | apply IsS49.set_2) | exact HI0.out)⟩,⟨by repeat (first | (with_reducible first | exact HK.out | apply KeepBut.set_ | apply keep_drewN | apply keep_drew | apply keep_alloc) | exact HK.out)⟩,⟨by repeat (first | (with_reducible first | exact HB.out | apply below_alloc | apply pw_below_drewN | apply below_drew1 | refine below_set ?_ (IsS49.ge HI0.out)) | exact HB.out)⟩⟩
 case round =>
  clear H'; try clear p2
  obtain ⟨x1_1,x5_1,x1001_1,x1002_1,rfl,rfl,HA,HK1,HI0,HK,HB⟩ := hrel
  cases gk with
  | zero => exact absurd HA.out (by simp [spec_l1Cur_pin.l0])
  | succ k1 =>
   have H := HA.out; clear HA; simp only [spec_l1Cur_pin.l0] at H
   by_cases c3 : x1_1 > 0
   ·
    rw [if_pos c3] at H; have c3b0 : decide (0 < x1_1) = true := decide_eq_true c3; clear c3; obtain ⟨y101,hy101⟩ : ∃ y_ : List Int,y_ = (([0,1,1,2,3,9] : List Int)) := ⟨_,rfl⟩; replace H : ((spec_l1Cur_among.f s0_0 x1001_1 x1002_1 y101).bind fun bt104 => ((spec_l1Num.f k1 bt104.1).bind fun t107 => (if x5_1.size + t107.size ≤ 9223372036854775807 then (spec_l1Cur_pin.l0 k1 (wrap64 (x1_1 - 1)) (x5_1 ++ t107) s0_0 bt104.2.1 bt104.2.2) else (none)))) = some (r1,r2,r3) := by first | (rw [hy101]; with_reducible exact H) | (have H2_ := (Option.bind_some _ _).symm.trans H; rw [hy101]; with_reducible exact H2_) | (have H2_ := (Option.bind_some _ _).symm.trans H; with_reducible exact H2_) | with_reducible exact H | (rw [hy101]; exact H) | exact H
    have Ny101 := Aside0.mk hy101; clear hy101; replace H := Option.bind_eq_some_iff.mp H; obtain ⟨⟨t104,t105,t106⟩,A40,H⟩ := H; replace H : ((spec_l1Num.f k1 t104).bind fun t107 => (if x5_1.size + t107.size ≤ 9223372036854775807 then (spec_l1Cur_pin.l0 k1 (wrap64 (x1_1 - 1)) (x5_1 ++ t107) s0_0 t105 t106) else (none))) = some (r1,r2,r3) := H; have A4 := Aside0.mk A40; clear A40; replace H := Option.bind_eq_some_iff.mp H; obtain ⟨t107,A50,H⟩ := H; replace H : (if x5_1.size + t107.size ≤ 9223372036854775807 then (spec_l1Cur_pin.l0 k1 (wrap64 (x1_1 - 1)) (x5_1 ++ t107) s0_0 t105 t106) else (none)) = some (r1,r2,r3) := H; have A5 := Aside0.mk A50; clear A50
    by_cases c6 : x5_1.size + t107.size ≤ 9223372036854775807
    ·
     rw [if_pos c6] at H; have c6b0 := eq_true c6; have c6b1 : decide (x5_1.size + t107.size ≤ 9223372036854775807) = true := decide_eq_true c6; try have c6b2 : (9223372036854775807 < x5_1.size + t107.size) = False := eq_false (Nat.not_lt.2 c6)
     have H' := Aside0.mk H; clear H; go_wp2_with (first | ((with_reducible refine gate_dst (N := 12) rfl ?_); refine Kd.R_lit (Kd.int .i64) _ 3 ?hg (N := 12) ?hd (xs := ([0,1,1,2,3,9] : List Int)) (inner := [.int .i64 0,.int .i64 1,.int .i64 1,.int .i64 2,.int .i64 3,.int .i64 9]) (ok := fun _ => True) (okp := fun _ => True) ?hr ?hp (fun _ hk => hk) trivial (Below.refl _ _) (Nat.le_refl _) (by simp) ?_; (case hd => rfl); (case hg => rfl); (case hr => first | (go_simp; done) | (go_simp; rfl)); (case hp => exact (Reps.one (show Kd.M (Kd.int .i64) _ _ _ 0 [.int .i64 0] from rfl) (Reps.one (show Kd.M (Kd.int .i64) _ _ _ 1 [.int .i64 1] from rfl) (Reps.one (show Kd.M (Kd.int .i64) _ _ _ 1 [.int .i64 1] from rfl) (Reps.one (show Kd.M (Kd.int .i64) _ _ _ 2 [.int .i64 2] from rfl) (Reps.one (show Kd.M (Kd.int .i64) _ _ _ 3 [.int .i64 3] from rfl) (Reps.one (show Kd.M (Kd.int .i64) _ _ _ 9 [.int .i64 9] from rfl) (Reps.none _ _)))))))); intro v102 w7 ho8 hb hg_ hnew_; clear hg_ hnew_; (first | rw [← Ny101.out] at ho8 | (simp only [Int.reduceToNat] at ho8; rw [← Ny101.out] at ho8)); have n0_ := Aside0.mk (Kd.R_lower ho8 (keep_size (w := w) (g := g) (row := none) (by repeat (first | (with_reducible first | exact HK.out | apply KeepBut.set_ | apply keep_drewN | apply keep_drew | apply keep_alloc) | exact HK.out)))); have n1_ := Aside0.mk (IsS49.below (by repeat (first | (with_reducible first | exact HI0.out | apply IsS49.alloc | apply IsS49.drewN | apply IsS49.drew | apply IsS49.set_1 | apply IsS49.set_2) | exact HI0.out)) hb); have n2_ := Aside0.mk (KeepBut.trans (by repeat (first | (with_reducible first | exact HK.out | apply KeepBut.set_ | apply keep_drewN | apply keep_drew | apply keep_alloc) | exact HK.out)) (KeepBut.of_below hb g none) (.inl rfl)); have n3_ := Aside0.mk (below_step (by repeat (first | (with_reducible first | exact HB.out | apply below_alloc | apply pw_below_drewN | apply below_drew1 | refine below_set ?_ (IsS49.ge HI0.out)) | exact HB.out)) hb); clear HI0; clear HK; clear HB; have HO103 := n0_; have HI0 := n1_; have HK := n2_; have HB := n3_; clear n0_ n1_ n2_ n3_; clear hb ho8; obtain ⟨Ao9,co9,eo9⟩ := Kd.R_slice HO103.out; subst eo9) | ((with_reducible refine gate_callee (f := 36) rfl ?_); refine goesL_ (some 13) rfl rfl Tryz.func36 (by kernel_rfl) rfl #[.pointer (some ⟨g,0,none⟩),.slice Ao9 y101.length co9] rfl (by (try simp only [List.map_toArray,List.map_cons,List.map_nil]); first | done | rfl | (simp only [List.length_drop,List.length_take]; rfl)) ?_; (with_reducible refine (spec_l1Cur_among.calls g s0_0 x1001_1 x1002_1 _ _ y101 t104 t105 t106 w0 _ ?side1 ?side2 ?side3 ?side4 ?side5 A4.out).mono ?_); (case side1 => repeat (first | (with_reducible first | exact HI0.out | apply IsS49.alloc | apply IsS49.drewN | apply IsS49.drew | apply IsS49.set_1 | apply IsS49.set_2) | exact HI0.out)); (case side2 => repeat (first | (with_reducible first | exact HB.out | apply below_alloc | apply pw_below_drewN | apply below_drew1 | refine below_set ?_ (IsS49.ge HI0.out)) | exact HB.out)); (case side3 => repeat (first | exact (Kd.R_reads' HO103.out).2.2 | (with_reducible refine Kd.C_alloc ?_ _) | (with_reducible refine Kd.C_drewN ?_ _) | (with_reducible refine Kd.C_drew ?_))); (case side4 => exact (Kd.R_reads' HO103.out).2.1); (case side5 => exact far_slice (IsS49.own_ne HI0.out HO103.out (by decide))); rintro e w10 ⟨rfl,hi,hb,hk⟩; refine ⟨_,rfl,?_⟩; have n0_ := Aside0.mk (Kd.R_mono (Kd.R_keep (IsS49.apart (show IsS49 w0 _ g s0_0 x1001_1 x1002_1 from by repeat (first | (with_reducible first | exact HI0.out | apply IsS49.alloc | apply IsS49.drewN | apply IsS49.drew | apply IsS49.set_1 | apply IsS49.set_2) | exact HI0.out)) (by (with_reducible repeat (first | apply Kd.R_alloc | apply Kd.R_drewN | apply Kd.R_drew)); exact HO103.out) (by decide)) hk (fun _ h => h.2)) (fun _ h => h.1)); have n1_ := Aside0.mk (KeepBut.trans (by repeat (first | (with_reducible first | exact HK.out | apply KeepBut.set_ | apply keep_drewN | apply keep_drew | apply keep_alloc) | exact HK.out)) hk (.inl rfl)); have n2_ := Aside0.mk (hb); have n3_ := Aside0.mk (hi); clear HO103; clear HK; clear HB; clear HI0; have HO103 := n0_; have HK := n1_; have HB := n2_; have HI0 := n3_; clear n0_ n1_ n2_ n3_; (try clear hb); (try clear hb2); (try clear hk); (try clear hi)) | ((with_reducible refine gate_callee (f := 34) rfl ?_); refine goesL_ (some 14) rfl rfl Tryz.func34 (by kernel_rfl) rfl #[.int .i64 t104] rfl (by (try simp only [List.map_toArray,List.map_cons,List.map_nil]); first | done | rfl | (simp only [List.length_drop,List.length_take]; rfl)) ?_; (with_reducible refine (spec_l1Num.calls k1 t104 t107 _ A5.out).mono ?_); rintro e w11 ⟨rfl,hb⟩; refine ⟨_,rfl,?_⟩; have n0_ := Aside0.mk (Kd.R_below (by (with_reducible repeat (first | apply Kd.R_alloc | apply Kd.R_drewN | apply Kd.R_drew)); exact HO103.out) hb); have n1_ := Aside0.mk (IsS49.below (by repeat (first | (with_reducible first | exact HI0.out | apply IsS49.alloc | apply IsS49.drewN | apply IsS49.drew | apply IsS49.set_1 | apply IsS49.set_2) | exact HI0.out)) hb); have n2_ := Aside0.mk (KeepBut.trans (by repeat (first | (with_reducible first | exact HK.out | apply KeepBut.set_ | apply keep_drewN | apply keep_drew | apply keep_alloc) | exact HK.out)) (KeepBut.of_below hb g none) (.inl rfl)); have n3_ := Aside0.mk (below_step (by repeat (first | (with_reducible first | exact HB.out | apply below_alloc | apply pw_below_drewN | apply below_drew1 | refine below_set ?_ (IsS49.ge HI0.out)) | exact HB.out)) hb); clear HO103; clear HI0; clear HK; clear HB; have HO103 := n0_; have HI0 := n1_; have HK := n2_; have HB := n3_; clear n0_ n1_ n2_ n3_; (try clear hb); (try clear hb2); (try clear hk); (try clear hi)))
     go_roundg k1
     case measure => have := HK1.out; omega
     case rel => exact ⟨(wrap64 (x1_1 - 1)),(x5_1 ++ t107),(t105),(t106),(by first | rfl | (simp; done) | (simp [*]; done)),(by first | rfl | (simp; done) | (simp [*]; done)),H',⟨by have := HK1.out; omega⟩,⟨by repeat (first | (with_reducible first | exact HI0.out | apply IsS49.alloc | apply IsS49.drewN | apply IsS49.drew | apply IsS49.set_1 | apply IsS49.set_2) | exact HI0.out)⟩,⟨by repeat (first | (with_reducible first | exact HK.out | apply KeepBut.set_ | apply keep_drewN | apply keep_drew | apply keep_alloc) | exact HK.out)⟩,⟨by repeat (first | (with_reducible first | exact HB.out | apply below_alloc | apply pw_below_drewN | apply below_drew1 | refine below_set ?_ (IsS49.ge HI0.out)) | exact HB.out)⟩⟩
    · rw [if_neg c6] at H; exact absurd H (by simp)
   ·
    rw [if_neg c3] at H; have c3b0 : decide (0 < x1_1) = false := decide_eq_false c3; clear c3; replace H := Option.bind_eq_some_iff.mp H; obtain ⟨⟨t108,t109,t110⟩,A120,H⟩ := H; replace H : (if t108 = true then ((spec_l1Cur_of.f s0_0 t109 t110 (([(⟨#[]⟩ : ByteArray),(⟨#[49]⟩ : ByteArray),(⟨#[49,50,120]⟩ : ByteArray),(⟨#[49,50,51,52,53]⟩ : ByteArray),(⟨#[48,48,48,48]⟩ : ByteArray)] : List ByteArray))).bind fun bt114 => (some (bt114.1,bt114.2.1,bt114.2.2))) else (some (x5_1,t109,t110))) = some (r1,r2,r3) := H; have A12 := Aside0.mk A120; clear A120
    by_cases c13 : t108 = true
    ·
     subst c13; have H1 : ((spec_l1Cur_of.f s0_0 t109 t110 (([(⟨#[]⟩ : ByteArray),(⟨#[49]⟩ : ByteArray),(⟨#[49,50,120]⟩ : ByteArray),(⟨#[49,50,51,52,53]⟩ : ByteArray),(⟨#[48,48,48,48]⟩ : ByteArray)] : List ByteArray))).bind fun bt114 => (some (bt114.1,bt114.2.1,bt114.2.2))) = some (r1,r2,r3) := by rw [if_pos rfl] at H; exact H
     clear H; have H := H1; clear H1; obtain ⟨y111,hy111⟩ : ∃ y_ : List ByteArray,y_ = (([(⟨#[]⟩ : ByteArray),(⟨#[49]⟩ : ByteArray),(⟨#[49,50,120]⟩ : ByteArray),(⟨#[49,50,51,52,53]⟩ : ByteArray),(⟨#[48,48,48,48]⟩ : ByteArray)] : List ByteArray)) := ⟨_,rfl⟩; replace H : ((spec_l1Cur_of.f s0_0 t109 t110 y111).bind fun bt114 => (some (bt114.1,bt114.2.1,bt114.2.2))) = some (r1,r2,r3) := by first | (rw [hy111]; with_reducible exact H) | (have H2_ := (Option.bind_some _ _).symm.trans H; rw [hy111]; with_reducible exact H2_) | (have H2_ := (Option.bind_some _ _).symm.trans H; with_reducible exact H2_) | with_reducible exact H | (rw [hy111]; exact H) | exact H
     have Ny111 := Aside0.mk hy111; clear hy111; replace H := Option.bind_eq_some_iff.mp H; obtain ⟨⟨t114,t115,t116⟩,A140,H⟩ := H; replace H : (some (t114,t115,t116)) = some (r1,r2,r3) := H; have A14 := Aside0.mk A140; clear A140; simp only [Option.some.injEq,Prod.mk.injEq] at H; obtain ⟨rfl,rfl,rfl⟩ := H; go_wp2_with (first | ((with_reducible refine gate_callee (f := 70) rfl ?_); refine goesL_ (some 17) rfl rfl Tryz.func70 (by kernel_rfl) rfl #[.pointer (some ⟨g,0,none⟩),.int .i64 16] rfl (by (try simp only [List.map_toArray,List.map_cons,List.map_nil]); first | done | rfl | (simp only [List.length_drop,List.length_take]; rfl)) ?_; (with_reducible refine (spec_l1Cur_one.calls g s0_0 x1001_1 x1002_1 16 true t109 t110 w0 _ ?side1 ?side2 A12.out).mono ?_); (case side1 => repeat (first | (with_reducible first | exact HI0.out | apply IsS49.alloc | apply IsS49.drewN | apply IsS49.drew | apply IsS49.set_1 | apply IsS49.set_2) | exact HI0.out)); (case side2 => repeat (first | (with_reducible first | exact HB.out | apply below_alloc | apply pw_below_drewN | apply below_drew1 | refine below_set ?_ (IsS49.ge HI0.out)) | exact HB.out)); rintro e w15 ⟨rfl,hi,hb,hk⟩; refine ⟨_,rfl,?_⟩; have n0_ := Aside0.mk (KeepBut.trans (by repeat (first | (with_reducible first | exact HK.out | apply KeepBut.set_ | apply keep_drewN | apply keep_drew | apply keep_alloc) | exact HK.out)) hk (.inl rfl)); have n1_ := Aside0.mk (hb); have n2_ := Aside0.mk (hi); clear HK; clear HB; clear HI0; have HK := n0_; have HB := n1_; have HI0 := n2_; clear n0_ n1_ n2_; (try clear hb); (try clear hb2); (try clear hk); (try clear hi)) | ((with_reducible refine gate_dst (N := 19) rfl ?_); refine Kd.R_lit Kd.string _ 9 ?hg (N := 19) ?hd (xs := ([(⟨#[]⟩ : ByteArray),(⟨#[49]⟩ : ByteArray),(⟨#[49,50,120]⟩ : ByteArray),(⟨#[49,50,51,52,53]⟩ : ByteArray),(⟨#[48,48,48,48]⟩ : ByteArray)] : List ByteArray)) (inner := [.string (⟨#[]⟩ : ByteArray),.string (⟨#[49]⟩ : ByteArray),.string (⟨#[49,50,120]⟩ : ByteArray),.string (⟨#[49,50,51,52,53]⟩ : ByteArray),.string (⟨#[48,48,48,48]⟩ : ByteArray)]) (ok := fun _ => True) (okp := fun _ => True) ?hr ?hp (fun _ hk => hk) trivial (Below.refl _ _) (Nat.le_refl _) (by simp) ?_; (case hd => rfl); (case hg => rfl); (case hr => first | (go_simp; done) | (go_simp; rfl)); (case hp => exact (Reps.one (show Kd.M Kd.string _ _ _ (⟨#[]⟩ : ByteArray) [.string (⟨#[]⟩ : ByteArray)] from rfl) (Reps.one (show Kd.M Kd.string _ _ _ (⟨#[49]⟩ : ByteArray) [.string (⟨#[49]⟩ : ByteArray)] from rfl) (Reps.one (show Kd.M Kd.string _ _ _ (⟨#[49,50,120]⟩ : ByteArray) [.string (⟨#[49,50,120]⟩ : ByteArray)] from rfl) (Reps.one (show Kd.M Kd.string _ _ _ (⟨#[49,50,51,52,53]⟩ : ByteArray) [.string (⟨#[49,50,51,52,53]⟩ : ByteArray)] from rfl) (Reps.one (show Kd.M Kd.string _ _ _ (⟨#[48,48,48,48]⟩ : ByteArray) [.string (⟨#[48,48,48,48]⟩ : ByteArray)] from rfl) (Reps.none _ _))))))); intro v112 w16 ho17 hb hg_ hnew_; clear hg_ hnew_; (first | rw [← Ny111.out] at ho17 | (simp only [Int.reduceToNat] at ho17; rw [← Ny111.out] at ho17)); have n0_ := Aside0.mk (Kd.R_lower ho17 (keep_size (w := w) (g := g) (row := none) (by repeat (first | (with_reducible first | exact HK.out | apply KeepBut.set_ | apply keep_drewN | apply keep_drew | apply keep_alloc) | exact HK.out)))); have n1_ := Aside0.mk (IsS49.below (by repeat (first | (with_reducible first | exact HI0.out | apply IsS49.alloc | apply IsS49.drewN | apply IsS49.drew | apply IsS49.set_1 | apply IsS49.set_2) | exact HI0.out)) hb); have n2_ := Aside0.mk (KeepBut.trans (by repeat (first | (with_reducible first | exact HK.out | apply KeepBut.set_ | apply keep_drewN | apply keep_drew | apply keep_alloc) | exact HK.out)) (KeepBut.of_below hb g none) (.inl rfl)); have n3_ := Aside0.mk (below_step (by repeat (first | (with_reducible first | exact HB.out | apply below_alloc | apply pw_below_drewN | apply below_drew1 | refine below_set ?_ (IsS49.ge HI0.out)) | exact HB.out)) hb); clear HI0; clear HK; clear HB; have HO113 := n0_; have HI0 := n1_; have HK := n2_; have HB := n3_; clear n0_ n1_ n2_ n3_; clear hb ho17; obtain ⟨Ao18,co18,eo18⟩ := Kd.R_slice HO113.out; subst eo18) | ((with_reducible refine gate_callee (f := 35) rfl ?_); refine goesL_ (some 20) rfl rfl Tryz.func35 (by kernel_rfl) rfl #[.pointer (some ⟨g,0,none⟩),.slice Ao18 y111.length co18] rfl (by (try simp only [List.map_toArray,List.map_cons,List.map_nil]); first | done | rfl | (simp only [List.length_drop,List.length_take]; rfl)) ?_; (with_reducible refine (spec_l1Cur_of.calls g s0_0 t109 t110 _ _ y111 t114 t115 t116 w0 _ ?side1 ?side2 ?side3 ?side4 ?side5 A14.out).mono ?_); (case side1 => repeat (first | (with_reducible first | exact HI0.out | apply IsS49.alloc | apply IsS49.drewN | apply IsS49.drew | apply IsS49.set_1 | apply IsS49.set_2) | exact HI0.out)); (case side2 => repeat (first | (with_reducible first | exact HB.out | apply below_alloc | apply pw_below_drewN | apply below_drew1 | refine below_set ?_ (IsS49.ge HI0.out)) | exact HB.out)); (case side3 => repeat (first | exact (Kd.R_reads' HO113.out).2.2 | (with_reducible refine Kd.C_alloc ?_ _) | (with_reducible refine Kd.C_drewN ?_ _) | (with_reducible refine Kd.C_drew ?_))); (case side4 => exact (Kd.R_reads' HO113.out).2.1); (case side5 => exact far_slice (IsS49.own_ne HI0.out HO113.out (by decide))); rintro e w19 ⟨rfl,hi,hb,hk⟩; refine ⟨_,rfl,?_⟩; have n0_ := Aside0.mk (Kd.R_mono (Kd.R_keep (IsS49.apart (show IsS49 w0 _ g s0_0 t109 t110 from by repeat (first | (with_reducible first | exact HI0.out | apply IsS49.alloc | apply IsS49.drewN | apply IsS49.drew | apply IsS49.set_1 | apply IsS49.set_2) | exact HI0.out)) (by (with_reducible repeat (first | apply Kd.R_alloc | apply Kd.R_drewN | apply Kd.R_drew)); exact HO113.out) (by decide)) hk (fun _ h => h.2)) (fun _ h => h.1)); have n1_ := Aside0.mk (KeepBut.trans (by repeat (first | (with_reducible first | exact HK.out | apply KeepBut.set_ | apply keep_drewN | apply keep_drew | apply keep_alloc) | exact HK.out)) hk (.inl rfl)); have n2_ := Aside0.mk (hb); have n3_ := Aside0.mk (hi); clear HO113; clear HK; clear HB; clear HI0; have HO113 := n0_; have HK := n1_; have HB := n2_; have HI0 := n3_; clear n0_ n1_ n2_ n3_; (try clear hb); (try clear hb2); (try clear hk); (try clear hi)))
     go_ret
     exact ⟨by first | rfl | (simp [errW_none,errW_some] <;> rfl) | (simp [*,errW_none,errW_some] <;> rfl),by repeat (first | (with_reducible first | exact HI0.out | apply IsS49.alloc | apply IsS49.drewN | apply IsS49.drew | apply IsS49.set_1 | apply IsS49.set_2) | exact HI0.out),by repeat (first | (with_reducible first | exact HB.out | apply below_alloc | apply pw_below_drewN | apply below_drew1 | refine below_set ?_ (IsS49.ge HI0.out)) | exact HB.out),by repeat (first | (with_reducible first | exact HK.out | apply KeepBut.set_ | apply keep_drewN | apply keep_drew | apply keep_alloc) | exact HK.out)⟩
    ·
     replace c13 := Bool.eq_false_iff.mpr c13; subst c13; have H1 : (some (x5_1,t109,t110)) = some (r1,r2,r3) := by rw [if_neg (show ¬ (false = true) by decide)] at H; exact H
     clear H; have H := H1; clear H1; simp only [Option.some.injEq,Prod.mk.injEq] at H; obtain ⟨rfl,rfl,rfl⟩ := H; go_wp2_with (first | ((with_reducible refine gate_callee (f := 70) rfl ?_); refine goesL_ (some 17) rfl rfl Tryz.func70 (by kernel_rfl) rfl #[.pointer (some ⟨g,0,none⟩),.int .i64 16] rfl (by (try simp only [List.map_toArray,List.map_cons,List.map_nil]); first | done | rfl | (simp only [List.length_drop,List.length_take]; rfl)) ?_; (with_reducible refine (spec_l1Cur_one.calls g s0_0 x1001_1 x1002_1 16 false t109 t110 w0 _ ?side1 ?side2 A12.out).mono ?_); (case side1 => repeat (first | (with_reducible first | exact HI0.out | apply IsS49.alloc | apply IsS49.drewN | apply IsS49.drew | apply IsS49.set_1 | apply IsS49.set_2) | exact HI0.out)); (case side2 => repeat (first | (with_reducible first | exact HB.out | apply below_alloc | apply pw_below_drewN | apply below_drew1 | refine below_set ?_ (IsS49.ge HI0.out)) | exact HB.out)); rintro e w20 ⟨rfl,hi,hb,hk⟩; refine ⟨_,rfl,?_⟩; have n0_ := Aside0.mk (KeepBut.trans (by repeat (first | (with_reducible first | exact HK.out | apply KeepBut.set_ | apply keep_drewN | apply keep_drew | apply keep_alloc) | exact HK.out)) hk (.inl rfl)); have n1_ := Aside0.mk (hb); have n2_ := Aside0.mk (hi); clear HK; clear HB; clear HI0; have HK := n0_; have HB := n1_; have HI0 := n2_; clear n0_ n1_ n2_; (try clear hb); (try clear hb2); (try clear hk); (try clear hi)))
     go_ret
     exact ⟨by first | rfl | (simp [errW_none,errW_some] <;> rfl) | (simp [*,errW_none,errW_some] <;> rfl),by repeat (first | (with_reducible first | exact HI0.out | apply IsS49.alloc | apply IsS49.drewN | apply IsS49.drew | apply IsS49.set_1 | apply IsS49.set_2) | exact HI0.out),by repeat (first | (with_reducible first | exact HB.out | apply below_alloc | apply pw_below_drewN | apply below_drew1 | refine below_set ?_ (IsS49.ge HI0.out)) | exact HB.out),by repeat (first | (with_reducible first | exact HK.out | apply KeepBut.set_ | apply keep_drewN | apply keep_drew | apply keep_alloc) | exact HK.out)⟩

end Go.Proofs.YtfhbclfmnliopaaGreatDoor.P

-- printed by xprint.py
namespace Go.Proofs.YtfhbclfmnliopaaGreatDoor.P
open Go.RowKit Go.Proofs.YtfhbclfmnliopaaGreatDoorW.PrintWords Go.Proofs.YtfhbclfmnliopaaGreatDoorW.PrintLast Go.Proofs.YtfhbclfmnliopaaGreatDoorW.PrintMore
attribute [local go_sem] max2_int min2_int max_two min_two max_three min_three max_four min_four   -- for this text's walks alone
set_option linter.unusedVariables false
set_option linter.unusedSimpArgs false

/-! ### spec_DrawTurnWheel: function 23 -/
def spec_DrawTurnWheel.g (k : Nat) (s0_0 : List Int) (s0_1 : Int) (s0_2 : Int) : Option (ByteArray × Int × Int × Int × Int) := (spec_l1Cur_pick.f s0_0 s0_1 s0_2 3).bind fun bt101 => ((spec_l1Cur_pin.f k s0_0 bt101.2.1 bt101.2.2 (wrap64 (2 + bt101.1))).bind fun bt104 => ((spec_l1Cur_pick.f s0_0 bt104.2.1 bt104.2.2 (wrap64 ((bt104.1.size : Int) + 1))).bind fun bt107 => ((spec_l1Cur_pick.f s0_0 bt107.2.1 bt107.2.2 9).bind fun bt110 => ((spec_l1Cur_among.f s0_0 bt110.2.1 bt110.2.2 (([0,1,2,9,10,(-1),(-7),(-13),1000,(-1000),1001,(-1001)] : List Int))).bind fun bt116 => (some (bt104.1,wrap64 (bt107.1 - (wrap64 (Int.tdiv bt110.1 8))),bt116.1,bt116.2.1,bt116.2.2))))))
theorem spec_DrawTurnWheel.gmono : ∀ y0 y1 y2 k,LeO (spec_DrawTurnWheel.g k y0 y1 y2) (spec_DrawTurnWheel.g (k + 1) y0 y1 y2) := by
 intro y0 y1 y2 k
 unfold spec_DrawTurnWheel.g
 repeat' first
   | (with_reducible exact spec_l1Cur_pin.mono _ _ _ _ _)
   | (with_reducible exact LeO.refl _)
   | (with_reducible exact LeO.none _)
   | (with_reducible refine LeO.ite ?_ ?_)
   | (with_reducible refine LeO.bind ?_ (fun _ => ?_))
   | exact spec_l1Cur_pin.mono _ _ _ _ _
   | exact LeO.none _
   | refine LeO.ite ?_ ?_
   | refine LeO.bind ?_ (fun _ => ?_)
def spec_DrawTurnWheel.f (k : Nat) (l0 : List Int) : Option (ByteArray × Int × Int) := (spec_DrawTurnWheel.g k l0 0 0).bind fun p => some (p.1,p.2.1,p.2.2.1)
theorem spec_DrawTurnWheel.mono : ∀ y0 k,LeO (spec_DrawTurnWheel.f k y0) (spec_DrawTurnWheel.f (k + 1) y0) := by
 intro y0 k
 unfold spec_DrawTurnWheel.f
 exact LeO.bind (spec_DrawTurnWheel.gmono y0 0 0 k) (fun _ => LeO.refl _)
set_option maxHeartbeats 8000000 in
set_option maxRecDepth 100000 in
theorem spec_DrawTurnWheel.calls (k : Nat) (A0 : Option Addr) (c0 : Nat) (l0 : List Int) (r1 : ByteArray) (r2 : Int) (r3 : Int) (w : World) (hr0 : Kd.C (Kd.int .u8) w A0 l0.length l0) (hc0 : l0.length ≤ c0) (h : spec_DrawTurnWheel.f k l0 = some (r1,r2,r3)) :
  Calls Tryz.prog 23 #[.slice A0 l0.length c0] w fun e w' => e = .returned (.tuple #[.string r1,.int .i64 r2,.int .i64 r3]) ∧ Below w.heap.size w w' := by
 unfold spec_DrawTurnWheel.f at h
 have h0 := h; clear h; obtain ⟨⟨r1_,r2_,r3_,s1_,s2_⟩,h,hq⟩ := Option.bind_eq_some_iff.mp h0; clear h0; simp only [Option.some.injEq,Prod.mk.injEq] at hq; obtain ⟨rfl,rfl,rfl⟩ := hq; have HR0 := Aside0.mk hr0; clear hr0; have HBr := Aside0.mk (Below.refl w.heap.size w); have H : ((spec_l1Cur_pick.f l0 (0 : Int) (0 : Int) 3).bind fun bt101 => ((spec_l1Cur_pin.f k l0 bt101.2.1 bt101.2.2 (wrap64 (2 + bt101.1))).bind fun bt104 => ((spec_l1Cur_pick.f l0 bt104.2.1 bt104.2.2 (wrap64 ((bt104.1.size : Int) + 1))).bind fun bt107 => ((spec_l1Cur_pick.f l0 bt107.2.1 bt107.2.2 9).bind fun bt110 => ((spec_l1Cur_among.f l0 bt110.2.1 bt110.2.2 (([0,1,2,9,10,(-1),(-7),(-13),1000,(-1000),1001,(-1001)] : List Int))).bind fun bt116 => (some (bt104.1,wrap64 (bt107.1 - (wrap64 (Int.tdiv bt110.1 8))),bt116.1,bt116.2.1,bt116.2.2))))))) = some (r1_,r2_,r3_,s1_,s2_) := h; clear h; replace H := Option.bind_eq_some_iff.mp H; obtain ⟨⟨t101,t102,t103⟩,A20,H⟩ := H; replace H : ((spec_l1Cur_pin.f k l0 t102 t103 (wrap64 (2 + t101))).bind fun bt104 => ((spec_l1Cur_pick.f l0 bt104.2.1 bt104.2.2 (wrap64 ((bt104.1.size : Int) + 1))).bind fun bt107 => ((spec_l1Cur_pick.f l0 bt107.2.1 bt107.2.2 9).bind fun bt110 => ((spec_l1Cur_among.f l0 bt110.2.1 bt110.2.2 (([0,1,2,9,10,(-1),(-7),(-13),1000,(-1000),1001,(-1001)] : List Int))).bind fun bt116 => (some (bt104.1,wrap64 (bt107.1 - (wrap64 (Int.tdiv bt110.1 8))),bt116.1,bt116.2.1,bt116.2.2)))))) = some (r1_,r2_,r3_,s1_,s2_) := H; have A2 := Aside0.mk A20; clear A20; replace H := Option.bind_eq_some_iff.mp H; obtain ⟨⟨t104,t105,t106⟩,A30,H⟩ := H; replace H : ((spec_l1Cur_pick.f l0 t105 t106 (wrap64 ((t104.size : Int) + 1))).bind fun bt107 => ((spec_l1Cur_pick.f l0 bt107.2.1 bt107.2.2 9).bind fun bt110 => ((spec_l1Cur_among.f l0 bt110.2.1 bt110.2.2 (([0,1,2,9,10,(-1),(-7),(-13),1000,(-1000),1001,(-1001)] : List Int))).bind fun bt116 => (some (t104,wrap64 (bt107.1 - (wrap64 (Int.tdiv bt110.1 8))),bt116.1,bt116.2.1,bt116.2.2))))) = some (r1_,r2_,r3_,s1_,s2_) := H; have A3 := Aside0.mk A30; clear A30; replace H := Option.bind_eq_some_iff.mp H; obtain ⟨⟨t107,t108,t109⟩,A40,H⟩ := H; replace H : ((spec_l1Cur_pick.f l0 t108 t109 9).bind fun bt110 => ((spec_l1Cur_among.f l0 bt110.2.1 bt110.2.2 (([0,1,2,9,10,(-1),(-7),(-13),1000,(-1000),1001,(-1001)] : List Int))).bind fun bt116 => (some (t104,wrap64 (t107 - (wrap64 (Int.tdiv bt110.1 8))),bt116.1,bt116.2.1,bt116.2.2)))) = some (r1_,r2_,r3_,s1_,s2_) := H; have A4 := Aside0.mk A40; clear A40; replace H := Option.bind_eq_some_iff.mp H; obtain ⟨⟨t110,t111,t112⟩,A50,H⟩ := H; replace H : ((spec_l1Cur_among.f l0 t111 t112 (([0,1,2,9,10,(-1),(-7),(-13),1000,(-1000),1001,(-1001)] : List Int))).bind fun bt116 => (some (t104,wrap64 (t107 - (wrap64 (Int.tdiv t110 8))),bt116.1,bt116.2.1,bt116.2.2))) = some (r1_,r2_,r3_,s1_,s2_) := H; have A5 := Aside0.mk A50; clear A50; obtain ⟨y113,hy113⟩ : ∃ y_ : List Int,y_ = (([0,1,2,9,10,(-1),(-7),(-13),1000,(-1000),1001,(-1001)] : List Int)) := ⟨_,rfl⟩; replace H : ((spec_l1Cur_among.f l0 t111 t112 y113).bind fun bt116 => (some (t104,wrap64 (t107 - (wrap64 (Int.tdiv t110 8))),bt116.1,bt116.2.1,bt116.2.2))) = some (r1_,r2_,r3_,s1_,s2_) := by first | (rw [hy113]; with_reducible exact H) | (have H2_ := (Option.bind_some _ _).symm.trans H; rw [hy113]; with_reducible exact H2_) | (have H2_ := (Option.bind_some _ _).symm.trans H; with_reducible exact H2_) | with_reducible exact H | (rw [hy113]; exact H) | exact H
 have Ny113 := Aside0.mk hy113; clear hy113; replace H := Option.bind_eq_some_iff.mp H; obtain ⟨⟨t116,t117,t118⟩,A60,H⟩ := H; replace H : (some (t104,wrap64 (t107 - (wrap64 (Int.tdiv t110 8))),t116,t117,t118)) = some (r1_,r2_,r3_,s1_,s2_) := H; have A6 := Aside0.mk A60; clear A60; simp only [Option.some.injEq,Prod.mk.injEq] at H; obtain ⟨rfl,rfl,rfl,rfl,rfl⟩ := H
 go_enter Tryz.func23,Tryz.ntmps23
 go_wp2_with (first | ((with_reducible refine gate_dst (N := 9) rfl ?_); refine box_event ?hg (N := 9) ?hd (cs := #[.slice A0 l0.length c0,.int .i64 0,.int .u64 0]) (t := 49) ?hr ?_; (case hd => rfl); (case hg => rfl); (case hr => first | (go_simp; done) | (go_simp; rfl)); intro g hg wb hbox hb; have HI0 := Aside0.mk (show IsS49 w wb g l0 0 0 from ⟨A0,c0,hbox,by rw [hg]; exact below_size (by repeat (first | (with_reducible first | exact HBr.out | apply below_alloc | apply pw_below_drewN | apply below_drew1) | exact HBr.out)),HR0.out⟩); have HB := Aside0.mk (below_step (by repeat (first | (with_reducible first | exact HBr.out | apply below_alloc | apply pw_below_drewN | apply below_drew1) | exact HBr.out)) hb); have HL := Aside0.mk HB.out.size; have HW0 := Aside0.mk HB.out.size; have HK := Aside0.mk (KeepBut.refl wb g none); clear hb hbox hg) | ((with_reducible refine gate_callee (f := 54) rfl ?_); refine goesL_ (some 12) rfl rfl Tryz.func54 (by kernel_rfl) rfl #[.pointer (some ⟨g,0,none⟩),.int .i64 3] rfl (by (try simp only [List.map_toArray,List.map_cons,List.map_nil]); first | done | rfl | (simp only [List.length_drop,List.length_take]; rfl)) ?_; (with_reducible refine (spec_l1Cur_pick.calls g l0 (0 : Int) (0 : Int) 3 t101 t102 t103 w _ ?side1 ?side2 A2.out).mono ?_); (case side1 => repeat (first | (with_reducible first | exact HI0.out | apply IsS49.alloc | apply IsS49.drewN | apply IsS49.drew | apply IsS49.set_1 | apply IsS49.set_2) | exact HI0.out)); (case side2 => repeat (first | (with_reducible first | exact HB.out | apply below_alloc | apply pw_below_drewN | apply below_drew1 | refine below_set ?_ (IsS49.ge HI0.out)) | exact HB.out)); rintro e w7 ⟨rfl,hi,hb,hk⟩; refine ⟨_,rfl,?_⟩; have n0_ := Aside0.mk (KeepBut.trans (by repeat (first | (with_reducible first | exact HK.out | apply KeepBut.set_ | apply keep_drewN | apply keep_drew | apply keep_alloc) | exact HK.out)) hk (.inl rfl)); have n1_ := Aside0.mk (hb); have n2_ := Aside0.mk (hi); clear HK; clear HB; clear HI0; have HK := n0_; have HB := n1_; have HI0 := n2_; clear n0_ n1_ n2_; (try clear hb); (try clear hb2); (try clear hk); (try clear hi)) | ((with_reducible refine gate_callee (f := 53) rfl ?_); refine goesL_ (some 14) rfl rfl Tryz.func53 (by kernel_rfl) rfl #[.pointer (some ⟨g,0,none⟩),.int .i64 (wrap64 (2 + t101))] rfl (by (try simp only [List.map_toArray,List.map_cons,List.map_nil]); first | done | rfl | (simp only [List.length_drop,List.length_take]; rfl)) ?_; (with_reducible refine (spec_l1Cur_pin.calls k g l0 t102 t103 (wrap64 (2 + t101)) t104 t105 t106 w _ ?side1 ?side2 A3.out).mono ?_); (case side1 => repeat (first | (with_reducible first | exact HI0.out | apply IsS49.alloc | apply IsS49.drewN | apply IsS49.drew | apply IsS49.set_1 | apply IsS49.set_2) | exact HI0.out)); (case side2 => repeat (first | (with_reducible first | exact HB.out | apply below_alloc | apply pw_below_drewN | apply below_drew1 | refine below_set ?_ (IsS49.ge HI0.out)) | exact HB.out)); rintro e w8 ⟨rfl,hi,hb,hk⟩; refine ⟨_,rfl,?_⟩; have n0_ := Aside0.mk (KeepBut.trans (by repeat (first | (with_reducible first | exact HK.out | apply KeepBut.set_ | apply keep_drewN | apply keep_drew | apply keep_alloc) | exact HK.out)) hk (.inl rfl)); have n1_ := Aside0.mk (hb); have n2_ := Aside0.mk (hi); clear HK; clear HB; clear HI0; have HK := n0_; have HB := n1_; have HI0 := n2_; clear n0_ n1_ n2_; (try clear hb); (try clear hb2); (try clear hk); (try clear hi)) | ((with_reducible refine gate_callee (f := 54) rfl ?_); refine goesL_ (some 20) rfl rfl Tryz.func54 (by kernel_rfl) rfl #[.pointer (some ⟨g,0,none⟩),.int .i64 (wrap64 ((t104.size : Int) + 1))] rfl (by (try simp only [List.map_toArray,List.map_cons,List.map_nil]); first | done | rfl | (simp only [List.length_drop,List.length_take]; rfl)) ?_; (with_reducible refine (spec_l1Cur_pick.calls g l0 t105 t106 (wrap64 ((t104.size : Int) + 1)) t107 t108 t109 w _ ?side1 ?side2 A4.out).mono ?_); (case side1 => repeat (first | (with_reducible first | exact HI0.out | apply IsS49.alloc | apply IsS49.drewN | apply IsS49.drew | apply IsS49.set_1 | apply IsS49.set_2) | exact HI0.out)); (case side2 => repeat (first | (with_reducible first | exact HB.out | apply below_alloc | apply pw_below_drewN | apply below_drew1 | refine below_set ?_ (IsS49.ge HI0.out)) | exact HB.out)); rintro e w9 ⟨rfl,hi,hb,hk⟩; refine ⟨_,rfl,?_⟩; have n0_ := Aside0.mk (KeepBut.trans (by repeat (first | (with_reducible first | exact HK.out | apply KeepBut.set_ | apply keep_drewN | apply keep_drew | apply keep_alloc) | exact HK.out)) hk (.inl rfl)); have n1_ := Aside0.mk (hb); have n2_ := Aside0.mk (hi); clear HK; clear HB; clear HI0; have HK := n0_; have HB := n1_; have HI0 := n2_; clear n0_ n1_ n2_; (try clear hb); (try clear hb2); (try clear hk); (try clear hi)) | ((with_reducible refine gate_callee (f := 54) rfl ?_); refine goesL_ (some 22) rfl rfl Tryz.func54 (by kernel_rfl) rfl #[.pointer (some ⟨g,0,none⟩),.int .i64 9] rfl (by (try simp only [List.map_toArray,List.map_cons,List.map_nil]); first | done | rfl | (simp only [List.length_drop,List.length_take]; rfl)) ?_; (with_reducible refine (spec_l1Cur_pick.calls g l0 t108 t109 9 t110 t111 t112 w _ ?side1 ?side2 A5.out).mono ?_); (case side1 => repeat (first | (with_reducible first | exact HI0.out | apply IsS49.alloc | apply IsS49.drewN | apply IsS49.drew | apply IsS49.set_1 | apply IsS49.set_2) | exact HI0.out)); (case side2 => repeat (first | (with_reducible first | exact HB.out | apply below_alloc | apply pw_below_drewN | apply below_drew1 | refine below_set ?_ (IsS49.ge HI0.out)) | exact HB.out)); rintro e w10 ⟨rfl,hi,hb,hk⟩; refine ⟨_,rfl,?_⟩; have n0_ := Aside0.mk (KeepBut.trans (by repeat (first | (with_reducible first | exact HK.out | apply KeepBut.set_ | apply keep_drewN | apply keep_drew | apply keep_alloc) | exact HK.out)) hk (.inl rfl)); have n1_ := Aside0.mk (hb); have n2_ := Aside0.mk (hi); clear HK; clear HB; clear HI0; have HK := n0_; have HB := n1_; have HI0 := n2_; clear n0_ n1_ n2_; (try clear hb); (try clear hb2); (try clear hk); (try clear hi)) | ((with_reducible refine gate_dst (N := 26) rfl ?_); refine Kd.R_lit (Kd.int .i64) _ 3 ?hg (N := 26) ?hd (xs := ([0,1,2,9,10,(-1),(-7),(-13),1000,(-1000),1001,(-1001)] : List Int)) (inner := [.int .i64 0,.int .i64 1,.int .i64 2,.int .i64 9,.int .i64 10,.int .i64 (-1),.int .i64 (-7),.int .i64 (-13),.int .i64 1000,.int .i64 (-1000),.int .i64 1001,.int .i64 (-1001)]) (ok := fun _ => True) (okp := fun _ => True) ?hr ?hp (fun _ hk => hk) trivial (Below.refl _ _) (Nat.le_refl _) (by simp) ?_; (case hd => rfl); (case hg => rfl); (case hr => first | (go_simp; done) | (go_simp; rfl)); (case hp => exact (Reps.one (show Kd.M (Kd.int .i64) _ _ _ 0 [.int .i64 0] from rfl) (Reps.one (show Kd.M (Kd.int .i64) _ _ _ 1 [.int .i64 1] from rfl) (Reps.one (show Kd.M (Kd.int .i64) _ _ _ 2 [.int .i64 2] from rfl) (Reps.one (show Kd.M (Kd.int .i64) _ _ _ 9 [.int .i64 9] from rfl) (Reps.one (show Kd.M (Kd.int .i64) _ _ _ 10 [.int .i64 10] from rfl) (Reps.one (show Kd.M (Kd.int .i64) _ _ _ (-1) [.int .i64 (-1)] from rfl) (Reps.one (show Kd.M (Kd.int .i64) _ _ _ (-7) [.int .i64 (-7)] from rfl) (Reps.one (show Kd.M (Kd.int .i64) _ _ _ (-13) [.int .i64 (-13)] from rfl) (Reps.one (show Kd.M (Kd.int .i64) _ _ _ 1000 [.int .i64 1000] from rfl) (Reps.one (show Kd.M (Kd.int .i64) _ _ _ (-1000) [.int .i64 (-1000)] from rfl) (Reps.one (show Kd.M (Kd.int .i64) _ _ _ 1001 [.int .i64 1001] from rfl) (Reps.one (show Kd.M (Kd.int .i64) _ _ _ (-1001) [.int .i64 (-1001)] from rfl) (Reps.none _ _)))))))))))))); intro v114 w11 ho12 hb hg_ hnew_; clear hg_ hnew_; (first | rw [← Ny113.out] at ho12 | (simp only [Int.reduceToNat] at ho12; rw [← Ny113.out] at ho12)); have n0_ := Aside0.mk (Kd.R_lower ho12 (keep_size (w := wb) (g := g) (row := none) (by repeat (first | (with_reducible first | exact HK.out | apply KeepBut.set_ | apply keep_drewN | apply keep_drew | apply keep_alloc) | exact HK.out)))); have n1_ := Aside0.mk (IsS49.below (by repeat (first | (with_reducible first | exact HI0.out | apply IsS49.alloc | apply IsS49.drewN | apply IsS49.drew | apply IsS49.set_1 | apply IsS49.set_2) | exact HI0.out)) hb); have n2_ := Aside0.mk (KeepBut.trans (by repeat (first | (with_reducible first | exact HK.out | apply KeepBut.set_ | apply keep_drewN | apply keep_drew | apply keep_alloc) | exact HK.out)) (KeepBut.of_below hb g none) (.inl rfl)); have n3_ := Aside0.mk (below_step (by repeat (first | (with_reducible first | exact HB.out | apply below_alloc | apply pw_below_drewN | apply below_drew1 | refine below_set ?_ (IsS49.ge HI0.out)) | exact HB.out)) hb); clear HI0; clear HK; clear HB; have HO115 := n0_; have HI0 := n1_; have HK := n2_; have HB := n3_; clear n0_ n1_ n2_ n3_; clear hb ho12; obtain ⟨Ao13,co13,eo13⟩ := Kd.R_slice HO115.out; subst eo13) | ((with_reducible refine gate_callee (f := 36) rfl ?_); refine goesL_ (some 27) rfl rfl Tryz.func36 (by kernel_rfl) rfl #[.pointer (some ⟨g,0,none⟩),.slice Ao13 y113.length co13] rfl (by (try simp only [List.map_toArray,List.map_cons,List.map_nil]); first | done | rfl | (simp only [List.length_drop,List.length_take]; rfl)) ?_; (with_reducible refine (spec_l1Cur_among.calls g l0 t111 t112 _ _ y113 t116 t117 t118 w _ ?side1 ?side2 ?side3 ?side4 ?side5 A6.out).mono ?_); (case side1 => repeat (first | (with_reducible first | exact HI0.out | apply IsS49.alloc | apply IsS49.drewN | apply IsS49.drew | apply IsS49.set_1 | apply IsS49.set_2) | exact HI0.out)); (case side2 => repeat (first | (with_reducible first | exact HB.out | apply below_alloc | apply pw_below_drewN | apply below_drew1 | refine below_set ?_ (IsS49.ge HI0.out)) | exact HB.out)); (case side3 => repeat (first | exact (Kd.R_reads' HO115.out).2.2 | (with_reducible refine Kd.C_alloc ?_ _) | (with_reducible refine Kd.C_drewN ?_ _) | (with_reducible refine Kd.C_drew ?_))); (case side4 => exact (Kd.R_reads' HO115.out).2.1); (case side5 => exact far_slice (IsS49.own_ne HI0.out HO115.out (by decide))); rintro e w14 ⟨rfl,hi,hb,hk⟩; refine ⟨_,rfl,?_⟩; have n0_ := Aside0.mk (Kd.R_mono (Kd.R_keep (IsS49.apart (show IsS49 w _ g l0 t111 t112 from by repeat (first | (with_reducible first | exact HI0.out | apply IsS49.alloc | apply IsS49.drewN | apply IsS49.drew | apply IsS49.set_1 | apply IsS49.set_2) | exact HI0.out)) (by (with_reducible repeat (first | apply Kd.R_alloc | apply Kd.R_drewN | apply Kd.R_drew)); exact HO115.out) (by decide)) hk (fun _ h => h.2)) (fun _ h => h.1)); have n1_ := Aside0.mk (KeepBut.trans (by repeat (first | (with_reducible first | exact HK.out | apply KeepBut.set_ | apply keep_drewN | apply keep_drew | apply keep_alloc) | exact HK.out)) hk (.inl rfl)); have n2_ := Aside0.mk (hb); have n3_ := Aside0.mk (hi); clear HO115; clear HK; clear HB; clear HI0; have HO115 := n0_; have HK := n1_; have HB := n2_; have HI0 := n3_; clear n0_ n1_ n2_ n3_; (try clear hb); (try clear hb2); (try clear hk); (try clear hi)))
 go_ret3
 exact ⟨by first | rfl | (simp [errW_none,errW_some] <;> rfl) | (simp [*,errW_none,errW_some] <;> rfl),by repeat (first | (with_reducible first | exact HB.out | apply below_alloc | apply pw_below_drewN | apply below_drew1 | refine below_set ?_ (IsS49.ge HI0.out)) | exact HB.out)⟩

end Go.Proofs.YtfhbclfmnliopaaGreatDoor.P

-- printed by xprint.py
namespace Go.Proofs.YtfhbclfmnliopaaGreatDoor.P
open Go.RowKit Go.Proofs.YtfhbclfmnliopaaGreatDoorW.PrintWords Go.Proofs.YtfhbclfmnliopaaGreatDoorW.PrintLast Go.Proofs.YtfhbclfmnliopaaGreatDoorW.PrintMore
attribute [local go_sem] max2_int min2_int max_two min_two max_three min_three max_four min_four   -- for this text's walks alone
set_option linter.unusedVariables false
set_option linter.unusedSimpArgs false

/-! ### spec_DrawHitsOf: function 46 -/
def spec_DrawHitsOf.g (k : Nat) (s0_0 : List Int) (s0_1 : Int) (s0_2 : Int) : Option (ByteArray × ByteArray × Int × Int) := (spec_l1Cur_pick.f s0_0 s0_1 s0_2 3).bind fun bt101 => ((spec_l1Cur_pin.f k s0_0 bt101.2.1 bt101.2.2 (wrap64 (2 + bt101.1))).bind fun bt104 => ((spec_l1Cur_pin.f k s0_0 bt104.2.1 bt104.2.2 (wrap64 (2 + bt101.1))).bind fun bt107 => (some (bt104.1,bt107.1,bt107.2.1,bt107.2.2))))
theorem spec_DrawHitsOf.gmono : ∀ y0 y1 y2 k,LeO (spec_DrawHitsOf.g k y0 y1 y2) (spec_DrawHitsOf.g (k + 1) y0 y1 y2) := by
 intro y0 y1 y2 k
 unfold spec_DrawHitsOf.g
 repeat' first
   | (with_reducible exact spec_l1Cur_pin.mono _ _ _ _ _)
   | (with_reducible exact LeO.refl _)
   | (with_reducible exact LeO.none _)
   | (with_reducible refine LeO.ite ?_ ?_)
   | (with_reducible refine LeO.bind ?_ (fun _ => ?_))
   | exact spec_l1Cur_pin.mono _ _ _ _ _
   | exact LeO.none _
   | refine LeO.ite ?_ ?_
   | refine LeO.bind ?_ (fun _ => ?_)
def spec_DrawHitsOf.f (k : Nat) (l0 : List Int) : Option (ByteArray × ByteArray) := (spec_DrawHitsOf.g k l0 0 0).bind fun p => some (p.1,p.2.1)
theorem spec_DrawHitsOf.mono : ∀ y0 k,LeO (spec_DrawHitsOf.f k y0) (spec_DrawHitsOf.f (k + 1) y0) := by
 intro y0 k
 unfold spec_DrawHitsOf.f
 exact LeO.bind (spec_DrawHitsOf.gmono y0 0 0 k) (fun _ => LeO.refl _)
set_option maxHeartbeats 8000000 in
set_option maxRecDepth 100000 in
theorem spec_DrawHitsOf.calls (k : Nat) (A0 : Option Addr) (c0 : Nat) (l0 : List Int) (r1 : ByteArray) (r2 : ByteArray) (w : World) (hr0 : Kd.C (Kd.int .u8) w A0 l0.length l0) (hc0 : l0.length ≤ c0) (h : spec_DrawHitsOf.f k l0 = some (r1,r2)) :
  Calls Tryz.prog 46 #[.slice A0 l0.length c0] w fun e w' => e = .returned (.tuple #[.string r1,.string r2]) ∧ Below w.heap.size w w' := by
 unfold spec_DrawHitsOf.f at h
 have h0 := h; clear h; obtain ⟨⟨r1_,r2_,s1_,s2_⟩,h,hq⟩ := Option.bind_eq_some_iff.mp h0; clear h0; simp only [Option.some.injEq,Prod.mk.injEq] at hq; obtain ⟨rfl,rfl⟩ := hq; have HR0 := Aside0.mk hr0; clear hr0; have HBr := Aside0.mk (Below.refl w.heap.size w); have H : ((spec_l1Cur_pick.f l0 (0 : Int) (0 : Int) 3).bind fun bt101 => ((spec_l1Cur_pin.f k l0 bt101.2.1 bt101.2.2 (wrap64 (2 + bt101.1))).bind fun bt104 => ((spec_l1Cur_pin.f k l0 bt104.2.1 bt104.2.2 (wrap64 (2 + bt101.1))).bind fun bt107 => (some (bt104.1,bt107.1,bt107.2.1,bt107.2.2))))) = some (r1_,r2_,s1_,s2_) := h; clear h; replace H := Option.bind_eq_some_iff.mp H; obtain ⟨⟨t101,t102,t103⟩,A20,H⟩ := H; replace H : ((spec_l1Cur_pin.f k l0 t102 t103 (wrap64 (2 + t101))).bind fun bt104 => ((spec_l1Cur_pin.f k l0 bt104.2.1 bt104.2.2 (wrap64 (2 + t101))).bind fun bt107 => (some (bt104.1,bt107.1,bt107.2.1,bt107.2.2)))) = some (r1_,r2_,s1_,s2_) := H; have A2 := Aside0.mk A20; clear A20; replace H := Option.bind_eq_some_iff.mp H; obtain ⟨⟨t104,t105,t106⟩,A30,H⟩ := H; replace H : ((spec_l1Cur_pin.f k l0 t105 t106 (wrap64 (2 + t101))).bind fun bt107 => (some (t104,bt107.1,bt107.2.1,bt107.2.2))) = some (r1_,r2_,s1_,s2_) := H; have A3 := Aside0.mk A30; clear A30; replace H := Option.bind_eq_some_iff.mp H; obtain ⟨⟨t107,t108,t109⟩,A40,H⟩ := H; replace H : (some (t104,t107,t108,t109)) = some (r1_,r2_,s1_,s2_) := H; have A4 := Aside0.mk A40; clear A40; simp only [Option.some.injEq,Prod.mk.injEq] at H; obtain ⟨rfl,rfl,rfl,rfl⟩ := H
 go_enter Tryz.func46,Tryz.ntmps46
 go_wp2_with (first | ((with_reducible refine gate_dst (N := 8) rfl ?_); refine box_event ?hg (N := 8) ?hd (cs := #[.slice A0 l0.length c0,.int .i64 0,.int .u64 0]) (t := 49) ?hr ?_; (case hd => rfl); (case hg => rfl); (case hr => first | (go_simp; done) | (go_simp; rfl)); intro g hg wb hbox hb; have HI0 := Aside0.mk (show IsS49 w wb g l0 0 0 from ⟨A0,c0,hbox,by rw [hg]; exact below_size (by repeat (first | (with_reducible first | exact HBr.out | apply below_alloc | apply pw_below_drewN | apply below_drew1) | exact HBr.out)),HR0.out⟩); have HB := Aside0.mk (below_step (by repeat (first | (with_reducible first | exact HBr.out | apply below_alloc | apply pw_below_drewN | apply below_drew1) | exact HBr.out)) hb); have HL := Aside0.mk HB.out.size; have HW0 := Aside0.mk HB.out.size; have HK := Aside0.mk (KeepBut.refl wb g none); clear hb hbox hg) | ((with_reducible refine gate_callee (f := 54) rfl ?_); refine goesL_ (some 10) rfl rfl Tryz.func54 (by kernel_rfl) rfl #[.pointer (some ⟨g,0,none⟩),.int .i64 3] rfl (by (try simp only [List.map_toArray,List.map_cons,List.map_nil]); first | done | rfl | (simp only [List.length_drop,List.length_take]; rfl)) ?_; (with_reducible refine (spec_l1Cur_pick.calls g l0 (0 : Int) (0 : Int) 3 t101 t102 t103 w _ ?side1 ?side2 A2.out).mono ?_); (case side1 => repeat (first | (with_reducible first | exact HI0.out | apply IsS49.alloc | apply IsS49.drewN | apply IsS49.drew | apply IsS49.set_1 | apply IsS49.set_2) | exact HI0.out)); (case side2 => repeat (first | (with_reducible first | exact HB.out | apply below_alloc | apply pw_below_drewN | apply below_drew1 | refine below_set ?_ (IsS49.ge HI0.out)) | exact HB.out)); rintro e w5 ⟨rfl,hi,hb,hk⟩; refine ⟨_,rfl,?_⟩; have n0_ := Aside0.mk (KeepBut.trans (by repeat (first | (with_reducible first | exact HK.out | apply KeepBut.set_ | apply keep_drewN | apply keep_drew | apply keep_alloc) | exact HK.out)) hk (.inl rfl)); have n1_ := Aside0.mk (hb); have n2_ := Aside0.mk (hi); clear HK; clear HB; clear HI0; have HK := n0_; have HB := n1_; have HI0 := n2_; clear n0_ n1_ n2_; (try clear hb); (try clear hb2); (try clear hk); (try clear hi)) | ((with_reducible refine gate_callee (f := 53) rfl ?_); refine goesL_ (some 14) rfl rfl Tryz.func53 (by kernel_rfl) rfl #[.pointer (some ⟨g,0,none⟩),.int .i64 (wrap64 (2 + t101))] rfl (by (try simp only [List.map_toArray,List.map_cons,List.map_nil]); first | done | rfl | (simp only [List.length_drop,List.length_take]; rfl)) ?_; (with_reducible refine (spec_l1Cur_pin.calls k g l0 t102 t103 (wrap64 (2 + t101)) t104 t105 t106 w _ ?side1 ?side2 A3.out).mono ?_); (case side1 => repeat (first | (with_reducible first | exact HI0.out | apply IsS49.alloc | apply IsS49.drewN | apply IsS49.drew | apply IsS49.set_1 | apply IsS49.set_2) | exact HI0.out)); (case side2 => repeat (first | (with_reducible first | exact HB.out | apply below_alloc | apply pw_below_drewN | apply below_drew1 | refine below_set ?_ (IsS49.ge HI0.out)) | exact HB.out)); rintro e w6 ⟨rfl,hi,hb,hk⟩; refine ⟨_,rfl,?_⟩; have n0_ := Aside0.mk (KeepBut.trans (by repeat (first | (with_reducible first | exact HK.out | apply KeepBut.set_ | apply keep_drewN | apply keep_drew | apply keep_alloc) | exact HK.out)) hk (.inl rfl)); have n1_ := Aside0.mk (hb); have n2_ := Aside0.mk (hi); clear HK; clear HB; clear HI0; have HK := n0_; have HB := n1_; have HI0 := n2_; clear n0_ n1_ n2_; (try clear hb); (try clear hb2); (try clear hk); (try clear hi)) | ((with_reducible refine gate_callee (f := 53) rfl ?_); refine goesL_ (some 17) rfl rfl Tryz.func53 (by kernel_rfl) rfl #[.pointer (some ⟨g,0,none⟩),.int .i64 (wrap64 (2 + t101))] rfl (by (try simp only [List.map_toArray,List.map_cons,List.map_nil]); first | done | rfl | (simp only [List.length_drop,List.length_take]; rfl)) ?_; (with_reducible refine (spec_l1Cur_pin.calls k g l0 t105 t106 (wrap64 (2 + t101)) t107 t108 t109 w _ ?side1 ?side2 A4.out).mono ?_); (case side1 => repeat (first | (with_reducible first | exact HI0.out | apply IsS49.alloc | apply IsS49.drewN | apply IsS49.drew | apply IsS49.set_1 | apply IsS49.set_2) | exact HI0.out)); (case side2 => repeat (first | (with_reducible first | exact HB.out | apply below_alloc | apply pw_below_drewN | apply below_drew1 | refine below_set ?_ (IsS49.ge HI0.out)) | exact HB.out)); rintro e w7 ⟨rfl,hi,hb,hk⟩; refine ⟨_,rfl,?_⟩; have n0_ := Aside0.mk (KeepBut.trans (by repeat (first | (with_reducible first | exact HK.out | apply KeepBut.set_ | apply keep_drewN | apply keep_drew | apply keep_alloc) | exact HK.out)) hk (.inl rfl)); have n1_ := Aside0.mk (hb); have n2_ := Aside0.mk (hi); clear HK; clear HB; clear HI0; have HK := n0_; have HB := n1_; have HI0 := n2_; clear n0_ n1_ n2_; (try clear hb); (try clear hb2); (try clear hk); (try clear hi)))
 go_ret2
 exact ⟨by first | rfl | (simp [errW_none,errW_some] <;> rfl) | (simp [*,errW_none,errW_some] <;> rfl),by repeat (first | (with_reducible first | exact HB.out | apply below_alloc | apply pw_below_drewN | apply below_drew1 | refine below_set ?_ (IsS49.ge HI0.out)) | exact HB.out)⟩

end Go.Proofs.YtfhbclfmnliopaaGreatDoor.P

-- printed by xprint.py
namespace Go.Proofs.YtfhbclfmnliopaaGreatDoor.P
open Go.RowKit Go.Proofs.YtfhbclfmnliopaaGreatDoorW.PrintWords Go.Proofs.YtfhbclfmnliopaaGreatDoorW.PrintLast Go.Proofs.YtfhbclfmnliopaaGreatDoorW.PrintMore
attribute [local go_sem] max2_int min2_int max_two min_two max_three min_three max_four min_four   -- for this text's walks alone
set_option linter.unusedVariables false
set_option linter.unusedSimpArgs false

/-! ### spec_DrawWheelTurns: function 20 -/
def spec_DrawWheelTurns.f (k : Nat) (l0 : List Int) : Option (ByteArray × ByteArray) := (spec_DrawHitsOf.f k l0).bind fun bt101 => (some (bt101.1,bt101.2))
theorem spec_DrawWheelTurns.mono : ∀ y0 k,LeO (spec_DrawWheelTurns.f k y0) (spec_DrawWheelTurns.f (k + 1) y0) := by
 intro y0 k
 unfold spec_DrawWheelTurns.f
 repeat' first
   | (with_reducible exact spec_DrawHitsOf.mono _ _)
   | (with_reducible exact LeO.refl _)
   | (with_reducible exact LeO.none _)
   | (with_reducible refine LeO.ite ?_ ?_)
   | (with_reducible refine LeO.bind ?_ (fun _ => ?_))
   | exact spec_DrawHitsOf.mono _ _
   | exact LeO.none _
   | refine LeO.ite ?_ ?_
   | refine LeO.bind ?_ (fun _ => ?_)
set_option maxHeartbeats 8000000 in
set_option maxRecDepth 100000 in
theorem spec_DrawWheelTurns.calls (k : Nat) (A0 : Option Addr) (c0 : Nat) (l0 : List Int) (r1 : ByteArray) (r2 : ByteArray) (w : World) (hr0 : Kd.C (Kd.int .u8) w A0 l0.length l0) (hc0 : l0.length ≤ c0) (h : spec_DrawWheelTurns.f k l0 = some (r1,r2)) :
  Calls Tryz.prog 20 #[.slice A0 l0.length c0] w fun e w' => e = .returned (.tuple #[.string r1,.string r2]) ∧ Below w.heap.size w w' := by
 have HR0 := Aside0.mk hr0; have HC0 := Aside0.mk hc0; clear hr0 hc0; have HB := Aside0.mk (Below.refl w.heap.size w); have H : ((spec_DrawHitsOf.f k l0).bind fun bt101 => (some (bt101.1,bt101.2))) = some (r1,r2) := h; clear h; replace H := Option.bind_eq_some_iff.mp H; obtain ⟨⟨t101,t102⟩,A20,H⟩ := H; replace H : (some (t101,t102)) = some (r1,r2) := H; have A2 := Aside0.mk A20; clear A20; simp only [Option.some.injEq,Prod.mk.injEq] at H; obtain ⟨rfl,rfl⟩ := H
 go_enter Tryz.func20,Tryz.ntmps20
 go_wp2_with (first | ((with_reducible refine gate_callee (f := 46) rfl ?_); refine goesL_ (some 5) rfl rfl Tryz.func46 (by kernel_rfl) rfl #[.slice A0 l0.length c0] rfl (by (try simp only [List.map_toArray,List.map_cons,List.map_nil]); first | done | rfl | (simp only [List.length_drop,List.length_take]; rfl)) ?_; (with_reducible refine (spec_DrawHitsOf.calls k _ _ l0 t101 t102 _ ?side1 ?side2 A2.out).mono ?_); (case side1 => repeat (first | exact HR0.out | (with_reducible refine Kd.C_alloc ?_ _) | (with_reducible refine Kd.C_drewN ?_ _) | (with_reducible refine Kd.C_drew ?_))); (case side2 => exact HC0.out); rintro e w3 ⟨rfl,hb⟩; refine ⟨_,rfl,?_⟩; have n0_ := Aside0.mk (below_step (by repeat (first | (with_reducible first | exact HB.out | apply below_alloc | apply pw_below_drewN | apply below_drew1) | exact HB.out)) hb); clear HB; have HB := n0_; clear n0_; (try clear hb); (try clear hb2); (try clear hk); (try clear hi)))
 go_ret2
 exact ⟨by first | rfl | (simp [errW_none,errW_some] <;> rfl) | (simp [*,errW_none,errW_some] <;> rfl),by repeat (first | (with_reducible first | exact HB.out | apply below_alloc | apply pw_below_drewN | apply below_drew1) | exact HB.out)⟩

end Go.Proofs.YtfhbclfmnliopaaGreatDoor.P

-- printed by xprint.py
namespace Go.Proofs.YtfhbclfmnliopaaGreatDoor.P
open Go.RowKit Go.Proofs.YtfhbclfmnliopaaGreatDoorW.PrintWords Go.Proofs.YtfhbclfmnliopaaGreatDoorW.PrintLast Go.Proofs.YtfhbclfmnliopaaGreatDoorW.PrintMore
attribute [local go_sem] max2_int min2_int max_two min_two max_three min_three max_four min_four   -- for this text's walks alone
set_option linter.unusedVariables false
set_option linter.unusedSimpArgs false

/-! ### spec_piFirst: function 44 -/
mutual
def spec_piFirst.l0 : Nat → ByteArray → Int → Int → Option (ByteArray × Bool)
 | 0,_,_,_ => none
 | k + 1,x0,x1,x6 => if x6 ≤ 57 then ((spec_piGoes.f k x0 x6).bind fun t101 => (if t101 = true then (if x0.size + (Utf8.encode (wrap32 (x6))).size ≤ 9223372036854775807 then ((spec_piFirst.f k (x0 ++ (Utf8.encode (wrap32 (x6)))) (wrap64 (x1 - 1))).bind fun bt102 => (if bt102.2 = true then (some (bt102.1,true)) else (spec_piFirst.l0 k x0 x1 ((x6 + 1) % 256)))) else (none)) else (spec_piFirst.l0 k x0 x1 ((x6 + 1) % 256)))) else (some ((⟨#[]⟩ : ByteArray),false))
def spec_piFirst.f : Nat → ByteArray → Int → Option (ByteArray × Bool)
 | 0,_,_ => none
 | k + 1,a0,a1 => if a1 = 0 then (some (a0,true)) else (spec_piFirst.l0 k a0 a1 49)
end
theorem spec_piFirst.mono_l : ∀ k,(∀ y0 y1,LeO (spec_piFirst.f k y0 y1) (spec_piFirst.f (k + 1) y0 y1)) ∧ (∀ y0 y1 y2,LeO (spec_piFirst.l0 k y0 y1 y2) (spec_piFirst.l0 (k + 1) y0 y1 y2))
 | 0 => ⟨by intros; intro r h; simp [spec_piFirst.f] at h,by intros; intro r h; simp [spec_piFirst.l0] at h⟩
 | k + 1 => by
  obtain ⟨ih0,ih1⟩ := spec_piFirst.mono_l k; refine ⟨?_,?_⟩
  ·
   intro y0 y1
   unfold spec_piFirst.f
   repeat' first
   | (with_reducible exact ih0 _ _)
   | (with_reducible exact ih1 _ _ _)
   | (with_reducible exact spec_piGoes.mono _ _ _)
   | (with_reducible exact LeO.refl _)
   | (with_reducible exact LeO.none _)
   | (with_reducible refine LeO.ite ?_ ?_)
   | (with_reducible refine LeO.bind ?_ (fun _ => ?_))
   | exact ih0 _ _
   | exact ih1 _ _ _
   | exact spec_piGoes.mono _ _ _
   | exact LeO.none _
   | refine LeO.ite ?_ ?_
   | refine LeO.bind ?_ (fun _ => ?_)
  ·
   intro y0 y1 y2
   unfold spec_piFirst.l0
   repeat' first
   | (with_reducible exact ih0 _ _)
   | (with_reducible exact ih1 _ _ _)
   | (with_reducible exact spec_piGoes.mono _ _ _)
   | (with_reducible exact LeO.refl _)
   | (with_reducible exact LeO.none _)
   | (with_reducible refine LeO.ite ?_ ?_)
   | (with_reducible refine LeO.bind ?_ (fun _ => ?_))
   | exact ih0 _ _
   | exact ih1 _ _ _
   | exact spec_piGoes.mono _ _ _
   | exact LeO.none _
   | refine LeO.ite ?_ ?_
   | refine LeO.bind ?_ (fun _ => ?_)
theorem spec_piFirst.mono : ∀ y0 y1 k,LeO (spec_piFirst.f k y0 y1) (spec_piFirst.f (k + 1) y0 y1) := by
 intro y0 y1 k; obtain ⟨ih0,ih1⟩ := spec_piFirst.mono_l k; exact ih0 y0 y1
set_option maxHeartbeats 8000000 in
set_option maxRecDepth 100000 in
theorem spec_piFirst.calls (k : Nat) : ∀ (a0 : ByteArray) (a1 : Int) (r1 : ByteArray) (r2 : Bool) (w : World) (h : spec_piFirst.f k a0 a1 = some (r1,r2)),
  Calls Tryz.prog 44 #[.string a0,.int .i64 a1] w fun e w' => e = .returned (.tuple #[.string r1,.bool r2]) ∧ Drawn0 w w' := by
 induction k using Nat.strongRecOn with
 | _ k ih =>
 intro a0 a1 r1 r2 w h
 cases k with
 | zero => exact absurd h (by simp [spec_piFirst.f])
 | succ k =>
 simp only [spec_piFirst.f] at h; have H : (if a1 = 0 then (some (a0,true)) else (spec_piFirst.l0 k a0 a1 49)) = some (r1,r2) := h; clear h
 by_cases c3 : a1 = 0
 ·
  rw [if_pos c3] at H; have c3b0 : (a1 == 0) = true := beq_iff_eq.mpr c3; have c3b1 : (a1 != 0) = false := bne_eq_false_iff_eq.mpr c3; clear c3; simp only [Option.some.injEq,Prod.mk.injEq] at H; obtain ⟨rfl,rfl⟩ := H
  go_enter Tryz.func44,Tryz.ntmps44
  go_wp2
  go_ret2
  exact ⟨by first | rfl | (simp; done) | (simp [*]; done),by repeat (first | exact Drawn0.refl _ | apply Drawn0.step)⟩
 ·
  rw [if_neg c3] at H; have c3b0 : (a1 == 0) = false := beq_eq_false_iff_ne.mpr c3; have c3b1 : (a1 != 0) = true := bne_iff_ne.mpr c3; have H' := Aside0.mk H; clear H
  go_enter Tryz.func44,Tryz.ntmps44
  go_wp2
  go_loopg [6] k (fun kq v6 w' => ∃ (x6_1 : Int),v6 = .int .u8 x6_1 ∧ Aside0 (spec_piFirst.l0 kq a0 a1 x6_1 = some (r1,r2)) ∧ Aside0 (kq ≤ k) ∧ Drawn0 w w')
  case atStart => exact ⟨(49),(by first | rfl | (simp; done) | (simp [*]; done)),H',⟨Nat.le_refl _⟩,by repeat (first | exact Drawn0.refl _ | apply Drawn0.step)⟩
  case round =>
   clear H'; try clear p2
   try clear c3
   try clear c3b0
   try clear c3b1
   obtain ⟨x6_1,rfl,HA,HK1,⟨m1,rfl⟩⟩ := hrel
   cases gk with
   | zero => exact absurd HA.out (by simp [spec_piFirst.l0])
   | succ k1 =>
    have H := HA.out; clear HA; simp only [spec_piFirst.l0] at H
    by_cases c4 : x6_1 ≤ 57
    ·
     rw [if_pos c4] at H; have c4b0 : decide (x6_1 ≤ 57) = true := decide_eq_true c4; clear c4; replace H := Option.bind_eq_some_iff.mp H; obtain ⟨t101,A50,H⟩ := H; replace H : (if t101 = true then (if a0.size + (Utf8.encode (wrap32 (x6_1))).size ≤ 9223372036854775807 then ((spec_piFirst.f k1 (a0 ++ (Utf8.encode (wrap32 (x6_1)))) (wrap64 (a1 - 1))).bind fun bt102 => (if bt102.2 = true then (some (bt102.1,true)) else (spec_piFirst.l0 k1 a0 a1 ((x6_1 + 1) % 256)))) else (none)) else (spec_piFirst.l0 k1 a0 a1 ((x6_1 + 1) % 256))) = some (r1,r2) := H; have A5 := Aside0.mk A50; clear A50
     by_cases c6 : t101 = true
     ·
      subst c6; have H1 : (if a0.size + (Utf8.encode (wrap32 (x6_1))).size ≤ 9223372036854775807 then ((spec_piFirst.f k1 (a0 ++ (Utf8.encode (wrap32 (x6_1)))) (wrap64 (a1 - 1))).bind fun bt102 => (if bt102.2 = true then (some (bt102.1,true)) else (spec_piFirst.l0 k1 a0 a1 ((x6_1 + 1) % 256)))) else (none)) = some (r1,r2) := by rw [if_pos rfl] at H; exact H
      clear H; have H := H1; clear H1
      by_cases c7 : a0.size + (Utf8.encode (wrap32 (x6_1))).size ≤ 9223372036854775807
      ·
       rw [if_pos c7] at H; have c7b0 := eq_true c7; have c7b1 : decide (a0.size + (Utf8.encode (wrap32 (x6_1))).size ≤ 9223372036854775807) = true := decide_eq_true c7; try have c7b2 : (9223372036854775807 < a0.size + (Utf8.encode (wrap32 (x6_1))).size) = False := eq_false (Nat.not_lt.2 c7)
       replace H := Option.bind_eq_some_iff.mp H; obtain ⟨⟨t102,t103⟩,A80,H⟩ := H; replace H : (if t103 = true then (some (t102,true)) else (spec_piFirst.l0 k1 a0 a1 ((x6_1 + 1) % 256))) = some (r1,r2) := H; have A8 := Aside0.mk A80; clear A80
       by_cases c9 : t103 = true
       ·
        subst c9; have H1 : (some (t102,true)) = some (r1,r2) := by rw [if_pos rfl] at H; exact H
        clear H; have H := H1; clear H1; simp only [Option.some.injEq,Prod.mk.injEq] at H; obtain ⟨rfl,rfl⟩ := H; go_wp2_with (first | ((with_reducible refine gate_callee (f := 32) rfl ?_); refine goesL_ (some 18) rfl rfl Tryz.func32 (by kernel_rfl) rfl #[.string a0,.int .u8 x6_1] rfl (by (try simp only [List.map_toArray,List.map_cons,List.map_nil]); first | done | rfl | (simp only [List.length_drop,List.length_take]; rfl)) ?_; (with_reducible refine (spec_piGoes.calls k1 a0 x6_1 true _ A5.out).mono ?_); rintro e w' ⟨rfl,⟨nd,rfl⟩⟩; refine ⟨_,rfl,?_⟩; have hcv10 : ∀ W : World,(convert 21 9 (.int .i32 (wrap32 (x6_1)))).run Tryz.prog W = .ok (.string (Utf8.encode (wrap32 (x6_1)))) W := fun W => run_convert_int_string W 21 9 .i32 (wrap32 (x6_1)) (by rw [Tryz.underlying21]; rfl) Tryz.underlying9) | ((with_reducible refine gate_callee (f := 44) rfl ?_); refine goesL_ (some 27) rfl rfl Tryz.func44 (by kernel_rfl) rfl #[.string (a0 ++ (Utf8.encode (wrap32 (x6_1)))),.int .i64 (wrap64 (a1 - 1))] rfl (by (try simp only [List.map_toArray,List.map_cons,List.map_nil]); first | done | rfl | (simp only [List.length_drop,List.length_take]; rfl)) ?_; (with_reducible refine (ih k1 (by have := HK1.out; omega) (a0 ++ (Utf8.encode (wrap32 (x6_1)))) (wrap64 (a1 - 1)) t102 true _ A8.out).mono ?_); rintro e w' ⟨rfl,⟨nd,rfl⟩⟩; refine ⟨_,rfl,?_⟩))
        go_ret2
        exact ⟨by first | rfl | (simp; done) | (simp [*]; done),by repeat (first | exact Drawn0.refl _ | apply Drawn0.step)⟩
       ·
        replace c9 := Bool.eq_false_iff.mpr c9; subst c9; have H1 : (spec_piFirst.l0 k1 a0 a1 ((x6_1 + 1) % 256)) = some (r1,r2) := by rw [if_neg (show ¬ (false = true) by decide)] at H; exact H
        clear H; have H := H1; clear H1; have H' := Aside0.mk H; clear H; go_wp2_with (first | ((with_reducible refine gate_callee (f := 32) rfl ?_); refine goesL_ (some 18) rfl rfl Tryz.func32 (by kernel_rfl) rfl #[.string a0,.int .u8 x6_1] rfl (by (try simp only [List.map_toArray,List.map_cons,List.map_nil]); first | done | rfl | (simp only [List.length_drop,List.length_take]; rfl)) ?_; (with_reducible refine (spec_piGoes.calls k1 a0 x6_1 true _ A5.out).mono ?_); rintro e w' ⟨rfl,⟨nd,rfl⟩⟩; refine ⟨_,rfl,?_⟩; have hcv11 : ∀ W : World,(convert 21 9 (.int .i32 (wrap32 (x6_1)))).run Tryz.prog W = .ok (.string (Utf8.encode (wrap32 (x6_1)))) W := fun W => run_convert_int_string W 21 9 .i32 (wrap32 (x6_1)) (by rw [Tryz.underlying21]; rfl) Tryz.underlying9) | ((with_reducible refine gate_callee (f := 44) rfl ?_); refine goesL_ (some 27) rfl rfl Tryz.func44 (by kernel_rfl) rfl #[.string (a0 ++ (Utf8.encode (wrap32 (x6_1)))),.int .i64 (wrap64 (a1 - 1))] rfl (by (try simp only [List.map_toArray,List.map_cons,List.map_nil]); first | done | rfl | (simp only [List.length_drop,List.length_take]; rfl)) ?_; (with_reducible refine (ih k1 (by have := HK1.out; omega) (a0 ++ (Utf8.encode (wrap32 (x6_1)))) (wrap64 (a1 - 1)) t102 false _ A8.out).mono ?_); rintro e w' ⟨rfl,⟨nd,rfl⟩⟩; refine ⟨_,rfl,?_⟩))
        go_roundg k1
        case measure => have := HK1.out; omega
        case rel => exact ⟨((x6_1 + 1) % 256),(by first | rfl | (simp; done) | (simp [*]; done)),H',⟨by have := HK1.out; omega⟩,by repeat (first | exact Drawn0.refl _ | apply Drawn0.step)⟩
      · rw [if_neg c7] at H; exact absurd H (by simp)
     ·
      replace c6 := Bool.eq_false_iff.mpr c6; subst c6; have H1 : (spec_piFirst.l0 k1 a0 a1 ((x6_1 + 1) % 256)) = some (r1,r2) := by rw [if_neg (show ¬ (false = true) by decide)] at H; exact H
      clear H; have H := H1; clear H1; have H' := Aside0.mk H; clear H; go_wp2_with (first | ((with_reducible refine gate_callee (f := 32) rfl ?_); refine goesL_ (some 18) rfl rfl Tryz.func32 (by kernel_rfl) rfl #[.string a0,.int .u8 x6_1] rfl (by (try simp only [List.map_toArray,List.map_cons,List.map_nil]); first | done | rfl | (simp only [List.length_drop,List.length_take]; rfl)) ?_; (with_reducible refine (spec_piGoes.calls k1 a0 x6_1 false _ A5.out).mono ?_); rintro e w' ⟨rfl,⟨nd,rfl⟩⟩; refine ⟨_,rfl,?_⟩))
      go_roundg k1
      case measure => have := HK1.out; omega
      case rel => exact ⟨((x6_1 + 1) % 256),(by first | rfl | (simp; done) | (simp [*]; done)),H',⟨by have := HK1.out; omega⟩,by repeat (first | exact Drawn0.refl _ | apply Drawn0.step)⟩
    ·
     rw [if_neg c4] at H; have c4b0 : decide (x6_1 ≤ 57) = false := decide_eq_false c4; clear c4; simp only [Option.some.injEq,Prod.mk.injEq] at H; obtain ⟨rfl,rfl⟩ := H; go_wp2
     go_ret2
     exact ⟨by first | rfl | (simp; done) | (simp [*]; done),by repeat (first | exact Drawn0.refl _ | apply Drawn0.step)⟩

end Go.Proofs.YtfhbclfmnliopaaGreatDoor.P

-- printed by xprint.py
namespace Go.Proofs.YtfhbclfmnliopaaGreatDoor.P
open Go.RowKit Go.Proofs.YtfhbclfmnliopaaGreatDoorW.PrintWords Go.Proofs.YtfhbclfmnliopaaGreatDoorW.PrintLast Go.Proofs.YtfhbclfmnliopaaGreatDoorW.PrintMore
attribute [local go_sem] max2_int min2_int max_two min_two max_three min_three max_four min_four   -- for this text's walks alone
set_option linter.unusedVariables false
set_option linter.unusedSimpArgs false

/-! ### spec_FirstDrawn: function 16 -/
def spec_FirstDrawn.f (k : Nat) (a0 : ByteArray) (a1 : Int) : Option (ByteArray × Bool) := (spec_piStart.f k a0 a1).bind fun t101 => (if t101 = true then ((spec_piFirst.f k a0 (wrap64 (a1 - 1))).bind fun bt102 => (some (bt102.1,bt102.2))) else (some ((⟨#[]⟩ : ByteArray),false)))
theorem spec_FirstDrawn.mono : ∀ y0 y1 k,LeO (spec_FirstDrawn.f k y0 y1) (spec_FirstDrawn.f (k + 1) y0 y1) := by
 intro y0 y1 k
 unfold spec_FirstDrawn.f
 repeat' first
   | (with_reducible exact spec_piFirst.mono _ _ _)
   | (with_reducible exact spec_piStart.mono _ _ _)
   | (with_reducible exact LeO.refl _)
   | (with_reducible exact LeO.none _)
   | (with_reducible refine LeO.ite ?_ ?_)
   | (with_reducible refine LeO.bind ?_ (fun _ => ?_))
   | exact spec_piFirst.mono _ _ _
   | exact spec_piStart.mono _ _ _
   | exact LeO.none _
   | refine LeO.ite ?_ ?_
   | refine LeO.bind ?_ (fun _ => ?_)
set_option maxHeartbeats 8000000 in
set_option maxRecDepth 100000 in
theorem spec_FirstDrawn.calls (k : Nat) (a0 : ByteArray) (a1 : Int) (r1 : ByteArray) (r2 : Bool) (w : World) (h : spec_FirstDrawn.f k a0 a1 = some (r1,r2)) :
  Calls Tryz.prog 16 #[.string a0,.int .i64 a1] w fun e w' => e = .returned (.tuple #[.string r1,.bool r2]) ∧ Drawn0 w w' := by
 have H : ((spec_piStart.f k a0 a1).bind fun t101 => (if t101 = true then ((spec_piFirst.f k a0 (wrap64 (a1 - 1))).bind fun bt102 => (some (bt102.1,bt102.2))) else (some ((⟨#[]⟩ : ByteArray),false)))) = some (r1,r2) := h; clear h; replace H := Option.bind_eq_some_iff.mp H; obtain ⟨t101,A30,H⟩ := H; replace H : (if t101 = true then ((spec_piFirst.f k a0 (wrap64 (a1 - 1))).bind fun bt102 => (some (bt102.1,bt102.2))) else (some ((⟨#[]⟩ : ByteArray),false))) = some (r1,r2) := H; have A3 := Aside0.mk A30; clear A30
 by_cases c4 : t101 = true
 ·
  subst c4; have H1 : ((spec_piFirst.f k a0 (wrap64 (a1 - 1))).bind fun bt102 => (some (bt102.1,bt102.2))) = some (r1,r2) := by rw [if_pos rfl] at H; exact H
  clear H; have H := H1; clear H1; replace H := Option.bind_eq_some_iff.mp H; obtain ⟨⟨t102,t103⟩,A50,H⟩ := H; replace H : (some (t102,t103)) = some (r1,r2) := H; have A5 := Aside0.mk A50; clear A50; simp only [Option.some.injEq,Prod.mk.injEq] at H; obtain ⟨rfl,rfl⟩ := H
  go_enter Tryz.func16,Tryz.ntmps16
  go_wp2_with (first | ((with_reducible refine gate_callee (f := 40) rfl ?_); refine goesL_ (some 8) rfl rfl Tryz.func40 (by kernel_rfl) rfl #[.string a0,.int .i64 a1] rfl (by (try simp only [List.map_toArray,List.map_cons,List.map_nil]); first | done | rfl | (simp only [List.length_drop,List.length_take]; rfl)) ?_; (with_reducible refine (spec_piStart.calls k a0 a1 true _ A3.out).mono ?_); rintro e w' ⟨rfl,⟨nd,rfl⟩⟩; refine ⟨_,rfl,?_⟩) | ((with_reducible refine gate_callee (f := 44) rfl ?_); refine goesL_ (some 13) rfl rfl Tryz.func44 (by kernel_rfl) rfl #[.string a0,.int .i64 (wrap64 (a1 - 1))] rfl (by (try simp only [List.map_toArray,List.map_cons,List.map_nil]); first | done | rfl | (simp only [List.length_drop,List.length_take]; rfl)) ?_; (with_reducible refine (spec_piFirst.calls k a0 (wrap64 (a1 - 1)) t102 t103 _ A5.out).mono ?_); rintro e w' ⟨rfl,⟨nd,rfl⟩⟩; refine ⟨_,rfl,?_⟩))
  go_ret2
  exact ⟨by first | rfl | (simp; done) | (simp [*]; done),by repeat (first | exact Drawn0.refl _ | apply Drawn0.step)⟩
 ·
  replace c4 := Bool.eq_false_iff.mpr c4; subst c4; have H1 : (some ((⟨#[]⟩ : ByteArray),false)) = some (r1,r2) := by rw [if_neg (show ¬ (false = true) by decide)] at H; exact H
  clear H; have H := H1; clear H1; simp only [Option.some.injEq,Prod.mk.injEq] at H; obtain ⟨rfl,rfl⟩ := H
  go_enter Tryz.func16,Tryz.ntmps16
  go_wp2_with (first | ((with_reducible refine gate_callee (f := 40) rfl ?_); refine goesL_ (some 8) rfl rfl Tryz.func40 (by kernel_rfl) rfl #[.string a0,.int .i64 a1] rfl (by (try simp only [List.map_toArray,List.map_cons,List.map_nil]); first | done | rfl | (simp only [List.length_drop,List.length_take]; rfl)) ?_; (with_reducible refine (spec_piStart.calls k a0 a1 false _ A3.out).mono ?_); rintro e w' ⟨rfl,⟨nd,rfl⟩⟩; refine ⟨_,rfl,?_⟩))
  go_ret2
  exact ⟨by first | rfl | (simp; done) | (simp [*]; done),by repeat (first | exact Drawn0.refl _ | apply Drawn0.step)⟩

end Go.Proofs.YtfhbclfmnliopaaGreatDoor.P

-- printed by xprint.py
namespace Go.Proofs.YtfhbclfmnliopaaGreatDoor.P
open Go.RowKit Go.Proofs.YtfhbclfmnliopaaGreatDoorW.PrintWords Go.Proofs.YtfhbclfmnliopaaGreatDoorW.PrintLast Go.Proofs.YtfhbclfmnliopaaGreatDoorW.PrintMore
attribute [local go_sem] max2_int min2_int max_two min_two max_three min_three max_four min_four   -- for this text's walks alone
set_option linter.unusedVariables false
set_option linter.unusedSimpArgs false

/-! ### spec_piDrawn: function 31 -/
def spec_piDrawn.l0 : Nat → ByteArray → Int → Option (Bool)
 | 0,_,_ => none
 | k + 1,x0,x3 => if x3 < (x0.size : Int) then (if 0 ≤ x3 then (if x3 ≤ (x0.size : Int) then ((spec_piGoes.f k (x0.extract 0 (x3 : Int).toNat) (bt x0 x3)).bind fun t101 => (if t101 = true then (spec_piDrawn.l0 k x0 (wrap64 (x3 + 1))) else (some false))) else (none)) else (none)) else (some true)
def spec_piDrawn.f (k : Nat) (a0 : ByteArray) : Option (Bool) := spec_piDrawn.l0 k a0 1
theorem spec_piDrawn.mono_l : ∀ k,(∀ y0 y1,LeO (spec_piDrawn.l0 k y0 y1) (spec_piDrawn.l0 (k + 1) y0 y1))
 | 0 => by intros; intro r h; simp [spec_piDrawn.l0] at h
 | k + 1 => by
  have ih0 := spec_piDrawn.mono_l k
  ·
   intro y0 y1
   unfold spec_piDrawn.l0
   repeat' first
   | (with_reducible exact ih0 _ _)
   | (with_reducible exact spec_piGoes.mono _ _ _)
   | (with_reducible exact LeO.refl _)
   | (with_reducible exact LeO.none _)
   | (with_reducible refine LeO.ite ?_ ?_)
   | (with_reducible refine LeO.bind ?_ (fun _ => ?_))
   | exact ih0 _ _
   | exact spec_piGoes.mono _ _ _
   | exact LeO.none _
   | refine LeO.ite ?_ ?_
   | refine LeO.bind ?_ (fun _ => ?_)
theorem spec_piDrawn.mono : ∀ y0 k,LeO (spec_piDrawn.f k y0) (spec_piDrawn.f (k + 1) y0) := by
 intro y0 k; have ih0 := spec_piDrawn.mono_l k
 unfold spec_piDrawn.f
 repeat' first
   | (with_reducible exact ih0 _ _)
   | (with_reducible exact spec_piGoes.mono _ _ _)
   | (with_reducible exact LeO.refl _)
   | (with_reducible exact LeO.none _)
   | (with_reducible refine LeO.ite ?_ ?_)
   | (with_reducible refine LeO.bind ?_ (fun _ => ?_))
   | exact ih0 _ _
   | exact spec_piGoes.mono _ _ _
   | exact LeO.none _
   | refine LeO.ite ?_ ?_
   | refine LeO.bind ?_ (fun _ => ?_)
set_option maxHeartbeats 8000000 in
set_option maxRecDepth 100000 in
theorem spec_piDrawn.calls (k : Nat) (a0 : ByteArray) (r : Bool) (w : World) (h : spec_piDrawn.f k a0 = some r) :
  Calls Tryz.prog 31 #[.string a0] w fun e w' => e = .returned (.bool r) ∧ Drawn0 w w' := by
 have H : (spec_piDrawn.l0 k a0 1) = some r := h; clear h; have H' := Aside0.mk H; clear H
 go_enter Tryz.func31,Tryz.ntmps31
 go_wp2
 repeat (go_quiet (fail); try go_wp2)
 go_loopg [3] k (fun kq v3 w' => ∃ (x3_1 : Int),v3 = .int .i64 x3_1 ∧ Aside0 (spec_piDrawn.l0 kq a0 x3_1 = some r) ∧ Aside0 (kq ≤ k) ∧ Drawn0 w w')
 case atStart => exact ⟨(1),(by first | rfl | (simp; done) | (simp [*]; done)),H',⟨Nat.le_refl _⟩,by repeat (first | exact Drawn0.refl _ | apply Drawn0.step)⟩
 case round =>
  clear H'; obtain ⟨x3_1,rfl,HA,HK1,⟨m1,rfl⟩⟩ := hrel
  cases gk with
  | zero => exact absurd HA.out (by simp [spec_piDrawn.l0])
  | succ k1 =>
   have H := HA.out; clear HA; simp only [spec_piDrawn.l0] at H
   by_cases c2 : x3_1 < (a0.size : Int)
   ·
    rw [if_pos c2] at H; have c2b0 : decide (x3_1 < (a0.size : Int)) = true := decide_eq_true c2; clear c2
    by_cases c3 : 0 ≤ x3_1
    ·
     rw [if_pos c3] at H; have c3b0 := eq_true c3; have c3b1 : decide (0 ≤ x3_1) = true := decide_eq_true c3; clear c3
     by_cases c4 : x3_1 ≤ (a0.size : Int)
     ·
      rw [if_pos c4] at H; have c4b0 := eq_true c4; have c4b1 : decide (x3_1 ≤ (a0.size : Int)) = true := decide_eq_true c4; clear c4; replace H := Option.bind_eq_some_iff.mp H; obtain ⟨t101,A60,H⟩ := H; replace H : (if t101 = true then (spec_piDrawn.l0 k1 a0 (wrap64 (x3_1 + 1))) else (some false)) = some r := H; have A6 := Aside0.mk A60; clear A60
      by_cases c7 : t101 = true
      ·
       subst c7; have H1 : (spec_piDrawn.l0 k1 a0 (wrap64 (x3_1 + 1))) = some r := by rw [if_pos rfl] at H; exact H
       clear H; have H := H1; clear H1; have H' := Aside0.mk H; clear H; have p5 : 0 ≤ (x3_1 : Int) := of_decide_eq_true (by first | (with_reducible assumption) | assumption); have q5 : x3_1 < (a0.size : Int) := of_decide_eq_true (by first | (with_reducible assumption) | assumption); have hx5 := bt_at a0 x3_1; replace p5 := eq_true p5; replace q5 := eq_true q5; go_wp2_with (first | (go_at_call 32; (with_reducible refine (spec_piGoes.calls k1 (a0.extract 0 (x3_1 : Int).toNat) (bt a0 x3_1) true _ A6.out).mono ?_); rintro e w' ⟨rfl,⟨nd,rfl⟩⟩; (try first | exact ⟨rfl,_,World.drewN_drewN _ _ _⟩ | exact ⟨rfl,_,Eq.trans (World.drewN_drewN _ _ _) (congrArg (World.drewN _) (Nat.add_assoc _ _ _))⟩)))
       repeat (go_quiet (first | (go_at_call 32; (with_reducible refine (spec_piGoes.calls k1 (a0.extract 0 (x3_1 : Int).toNat) (bt a0 x3_1) true _ A6.out).mono ?_); rintro e w' ⟨rfl,⟨nd,rfl⟩⟩; (try first | exact ⟨rfl,_,World.drewN_drewN _ _ _⟩ | exact ⟨rfl,_,Eq.trans (World.drewN_drewN _ _ _) (congrArg (World.drewN _) (Nat.add_assoc _ _ _))⟩))); try go_wp2_with (first | (go_at_call 32; (with_reducible refine (spec_piGoes.calls k1 (a0.extract 0 (x3_1 : Int).toNat) (bt a0 x3_1) true _ A6.out).mono ?_); rintro e w' ⟨rfl,⟨nd,rfl⟩⟩; (try first | exact ⟨rfl,_,World.drewN_drewN _ _ _⟩ | exact ⟨rfl,_,Eq.trans (World.drewN_drewN _ _ _) (congrArg (World.drewN _) (Nat.add_assoc _ _ _))⟩))))
       go_roundg k1
       case measure => have := HK1.out; omega
       case rel => exact ⟨(wrap64 (x3_1 + 1)),(by first | rfl | (simp; done) | (simp [*]; done)),H',⟨by have := HK1.out; omega⟩,by repeat (first | exact Drawn0.refl _ | apply Drawn0.step)⟩
      ·
       replace c7 := Bool.eq_false_iff.mpr c7; subst c7; have H1 : (some false) = some r := by rw [if_neg (show ¬ (false = true) by decide)] at H; exact H
       clear H; have H := H1; clear H1; obtain rfl := Option.some.inj H; have p5 : 0 ≤ (x3_1 : Int) := of_decide_eq_true (by first | (with_reducible assumption) | assumption); have q5 : x3_1 < (a0.size : Int) := of_decide_eq_true (by first | (with_reducible assumption) | assumption); have hx5 := bt_at a0 x3_1; replace p5 := eq_true p5; replace q5 := eq_true q5; go_wp2_with (first | (go_at_call 32; (with_reducible refine (spec_piGoes.calls k1 (a0.extract 0 (x3_1 : Int).toNat) (bt a0 x3_1) false _ A6.out).mono ?_); rintro e w' ⟨rfl,⟨nd,rfl⟩⟩; (try first | exact ⟨rfl,_,World.drewN_drewN _ _ _⟩ | exact ⟨rfl,_,Eq.trans (World.drewN_drewN _ _ _) (congrArg (World.drewN _) (Nat.add_assoc _ _ _))⟩)))
       repeat (go_quiet (first | (go_at_call 32; (with_reducible refine (spec_piGoes.calls k1 (a0.extract 0 (x3_1 : Int).toNat) (bt a0 x3_1) false _ A6.out).mono ?_); rintro e w' ⟨rfl,⟨nd,rfl⟩⟩; (try first | exact ⟨rfl,_,World.drewN_drewN _ _ _⟩ | exact ⟨rfl,_,Eq.trans (World.drewN_drewN _ _ _) (congrArg (World.drewN _) (Nat.add_assoc _ _ _))⟩))); try go_wp2_with (first | (go_at_call 32; (with_reducible refine (spec_piGoes.calls k1 (a0.extract 0 (x3_1 : Int).toNat) (bt a0 x3_1) false _ A6.out).mono ?_); rintro e w' ⟨rfl,⟨nd,rfl⟩⟩; (try first | exact ⟨rfl,_,World.drewN_drewN _ _ _⟩ | exact ⟨rfl,_,Eq.trans (World.drewN_drewN _ _ _) (congrArg (World.drewN _) (Nat.add_assoc _ _ _))⟩))))
       go_ret
       exact ⟨by first | rfl | (simp; done) | (simp [*]; done),by repeat (first | exact Drawn0.refl _ | apply Drawn0.step)⟩
     · rw [if_neg c4] at H; exact absurd H (by simp)
    · rw [if_neg c3] at H; exact absurd H (by simp)
   ·
    rw [if_neg c2] at H; have c2b0 : decide (x3_1 < (a0.size : Int)) = false := decide_eq_false c2; clear c2; obtain rfl := Option.some.inj H; go_wp2
    repeat (go_quiet (fail); try go_wp2)
    go_ret
    exact ⟨by first | rfl | (simp; done) | (simp [*]; done),by repeat (first | exact Drawn0.refl _ | apply Drawn0.step)⟩

end Go.Proofs.YtfhbclfmnliopaaGreatDoor.P

-- printed by xprint.py
namespace Go.Proofs.YtfhbclfmnliopaaGreatDoor.P
open Go.RowKit Go.Proofs.YtfhbclfmnliopaaGreatDoorW.PrintWords Go.Proofs.YtfhbclfmnliopaaGreatDoorW.PrintLast Go.Proofs.YtfhbclfmnliopaaGreatDoorW.PrintMore
attribute [local go_sem] max2_int min2_int max_two min_two max_three min_three max_four min_four   -- for this text's walks alone
set_option linter.unusedVariables false
set_option linter.unusedSimpArgs false

/-! ### spec_IsDrawn: function 9 -/
def spec_IsDrawn.f (k : Nat) (a0 : ByteArray) : Option (Bool × Bool) := (spec_piPattern.f k a0).bind fun t101 => (if t101 = true then ((spec_piDrawn.f k a0).bind fun t102 => (some (t102,true))) else (some (false,false)))
theorem spec_IsDrawn.mono : ∀ y0 k,LeO (spec_IsDrawn.f k y0) (spec_IsDrawn.f (k + 1) y0) := by
 intro y0 k
 unfold spec_IsDrawn.f
 repeat' first
   | (with_reducible exact spec_piDrawn.mono _ _)
   | (with_reducible exact spec_piPattern.mono _ _)
   | (with_reducible exact LeO.refl _)
   | (with_reducible exact LeO.none _)
   | (with_reducible refine LeO.ite ?_ ?_)
   | (with_reducible refine LeO.bind ?_ (fun _ => ?_))
   | exact spec_piDrawn.mono _ _
   | exact spec_piPattern.mono _ _
   | exact LeO.none _
   | refine LeO.ite ?_ ?_
   | refine LeO.bind ?_ (fun _ => ?_)
set_option maxHeartbeats 8000000 in
set_option maxRecDepth 100000 in
theorem spec_IsDrawn.calls (k : Nat) (a0 : ByteArray) (r1 : Bool) (r2 : Bool) (w : World) (h : spec_IsDrawn.f k a0 = some (r1,r2)) :
  Calls Tryz.prog 9 #[.string a0] w fun e w' => e = .returned (.tuple #[.bool r1,.bool r2]) ∧ Drawn0 w w' := by
 have H : ((spec_piPattern.f k a0).bind fun t101 => (if t101 = true then ((spec_piDrawn.f k a0).bind fun t102 => (some (t102,true))) else (some (false,false)))) = some (r1,r2) := h; clear h; replace H := Option.bind_eq_some_iff.mp H; obtain ⟨t101,A20,H⟩ := H; replace H : (if t101 = true then ((spec_piDrawn.f k a0).bind fun t102 => (some (t102,true))) else (some (false,false))) = some (r1,r2) := H; have A2 := Aside0.mk A20; clear A20
 by_cases c3 : t101 = true
 ·
  subst c3; have H1 : ((spec_piDrawn.f k a0).bind fun t102 => (some (t102,true))) = some (r1,r2) := by rw [if_pos rfl] at H; exact H
  clear H; have H := H1; clear H1; replace H := Option.bind_eq_some_iff.mp H; obtain ⟨t102,A40,H⟩ := H; replace H : (some (t102,true)) = some (r1,r2) := H; have A4 := Aside0.mk A40; clear A40; simp only [Option.some.injEq,Prod.mk.injEq] at H; obtain ⟨rfl,rfl⟩ := H
  go_enter Tryz.func9,Tryz.ntmps9
  go_wp2_with (first | ((with_reducible refine gate_callee (f := 30) rfl ?_); refine goesL_ (some 5) rfl rfl Tryz.func30 (by kernel_rfl) rfl #[.string a0] rfl (by (try simp only [List.map_toArray,List.map_cons,List.map_nil]); first | done | rfl | (simp only [List.length_drop,List.length_take]; rfl)) ?_; (with_reducible refine (spec_piPattern.calls k a0 true _ A2.out).mono ?_); rintro e w' ⟨rfl,⟨nd,rfl⟩⟩; refine ⟨_,rfl,?_⟩) | ((with_reducible refine gate_callee (f := 31) rfl ?_); refine goesL_ (some 8) rfl rfl Tryz.func31 (by kernel_rfl) rfl #[.string a0] rfl (by (try simp only [List.map_toArray,List.map_cons,List.map_nil]); first | done | rfl | (simp only [List.length_drop,List.length_take]; rfl)) ?_; (with_reducible refine (spec_piDrawn.calls k a0 t102 _ A4.out).mono ?_); rintro e w' ⟨rfl,⟨nd,rfl⟩⟩; refine ⟨_,rfl,?_⟩))
  go_ret2
  exact ⟨by first | rfl | (simp; done) | (simp [*]; done),by repeat (first | exact Drawn0.refl _ | apply Drawn0.step)⟩
 ·
  replace c3 := Bool.eq_false_iff.mpr c3; subst c3; have H1 : (some (false,false)) = some (r1,r2) := by rw [if_neg (show ¬ (false = true) by decide)] at H; exact H
  clear H; have H := H1; clear H1; simp only [Option.some.injEq,Prod.mk.injEq] at H; obtain ⟨rfl,rfl⟩ := H
  go_enter Tryz.func9,Tryz.ntmps9
  go_wp2_with (first | ((with_reducible refine gate_callee (f := 30) rfl ?_); refine goesL_ (some 5) rfl rfl Tryz.func30 (by kernel_rfl) rfl #[.string a0] rfl (by (try simp only [List.map_toArray,List.map_cons,List.map_nil]); first | done | rfl | (simp only [List.length_drop,List.length_take]; rfl)) ?_; (with_reducible refine (spec_piPattern.calls k a0 false _ A2.out).mono ?_); rintro e w' ⟨rfl,⟨nd,rfl⟩⟩; refine ⟨_,rfl,?_⟩))
  go_ret2
  exact ⟨by first | rfl | (simp; done) | (simp [*]; done),by repeat (first | exact Drawn0.refl _ | apply Drawn0.step)⟩

end Go.Proofs.YtfhbclfmnliopaaGreatDoor.P

-- printed by xprint.py
namespace Go.Proofs.YtfhbclfmnliopaaGreatDoor.P
open Go.RowKit Go.Proofs.YtfhbclfmnliopaaGreatDoorW.PrintWords Go.Proofs.YtfhbclfmnliopaaGreatDoorW.PrintLast Go.Proofs.YtfhbclfmnliopaaGreatDoorW.PrintMore
attribute [local go_sem] max2_int min2_int max_two min_two max_three min_three max_four min_four   -- for this text's walks alone
set_option linter.unusedVariables false
set_option linter.unusedSimpArgs false

/-! ### spec_MirrorDrawn: function 11 -/
def spec_MirrorDrawn.l0 : Nat → ByteArray → ByteArray → Int → Option (ByteArray × Bool)
 | 0,_,_,_ => none
 | k + 1,x0,x4,x5 => if x5 < (x0.size : Int) then (if 0 ≤ x5 then ((spec_l1Num.f k (((((((bt x0 x5) - 49) % 256) - ((((bt x0 x5) - 49) % 256) % 3)) + 2) - ((((bt x0 x5) - 49) % 256) % 3)) + 1)).bind fun t102 => (if x4.size + t102.size ≤ 9223372036854775807 then (spec_MirrorDrawn.l0 k x0 (x4 ++ t102) (wrap64 (x5 + 1))) else (none))) else (none)) else (some (x4,true))
def spec_MirrorDrawn.f (k : Nat) (a0 : ByteArray) : Option (ByteArray × Bool) := (spec_piPattern.f k a0).bind fun t101 => (if t101 = true then (spec_MirrorDrawn.l0 k a0 (⟨#[]⟩ : ByteArray) 0) else (some ((⟨#[]⟩ : ByteArray),false)))
theorem spec_MirrorDrawn.mono_l : ∀ k,(∀ y0 y1 y2,LeO (spec_MirrorDrawn.l0 k y0 y1 y2) (spec_MirrorDrawn.l0 (k + 1) y0 y1 y2))
 | 0 => by intros; intro r h; simp [spec_MirrorDrawn.l0] at h
 | k + 1 => by
  have ih0 := spec_MirrorDrawn.mono_l k
  ·
   intro y0 y1 y2
   unfold spec_MirrorDrawn.l0
   repeat' first
   | (with_reducible exact ih0 _ _ _)
   | (with_reducible exact spec_l1Num.mono _ _)
   | (with_reducible exact spec_piPattern.mono _ _)
   | (with_reducible exact LeO.refl _)
   | (with_reducible exact LeO.none _)
   | (with_reducible refine LeO.ite ?_ ?_)
   | (with_reducible refine LeO.bind ?_ (fun _ => ?_))
   | exact ih0 _ _ _
   | exact spec_l1Num.mono _ _
   | exact spec_piPattern.mono _ _
   | exact LeO.none _
   | refine LeO.ite ?_ ?_
   | refine LeO.bind ?_ (fun _ => ?_)
theorem spec_MirrorDrawn.mono : ∀ y0 k,LeO (spec_MirrorDrawn.f k y0) (spec_MirrorDrawn.f (k + 1) y0) := by
 intro y0 k; have ih0 := spec_MirrorDrawn.mono_l k
 unfold spec_MirrorDrawn.f
 repeat' first
   | (with_reducible exact ih0 _ _ _)
   | (with_reducible exact spec_l1Num.mono _ _)
   | (with_reducible exact spec_piPattern.mono _ _)
   | (with_reducible exact LeO.refl _)
   | (with_reducible exact LeO.none _)
   | (with_reducible refine LeO.ite ?_ ?_)
   | (with_reducible refine LeO.bind ?_ (fun _ => ?_))
   | exact ih0 _ _ _
   | exact spec_l1Num.mono _ _
   | exact spec_piPattern.mono _ _
   | exact LeO.none _
   | refine LeO.ite ?_ ?_
   | refine LeO.bind ?_ (fun _ => ?_)
set_option maxHeartbeats 8000000 in
set_option maxRecDepth 100000 in
theorem spec_MirrorDrawn.calls (k : Nat) (a0 : ByteArray) (r1 : ByteArray) (r2 : Bool) (w : World) (h : spec_MirrorDrawn.f k a0 = some (r1,r2)) :
  Calls Tryz.prog 11 #[.string a0] w fun e w' => e = .returned (.tuple #[.string r1,.bool r2]) ∧ Below w.heap.size w w' := by
 have HB := Aside0.mk (Below.refl w.heap.size w); have H : ((spec_piPattern.f k a0).bind fun t101 => (if t101 = true then (spec_MirrorDrawn.l0 k a0 (⟨#[]⟩ : ByteArray) 0) else (some ((⟨#[]⟩ : ByteArray),false)))) = some (r1,r2) := h; clear h; replace H := Option.bind_eq_some_iff.mp H; obtain ⟨t101,A20,H⟩ := H; replace H : (if t101 = true then (spec_MirrorDrawn.l0 k a0 (⟨#[]⟩ : ByteArray) 0) else (some ((⟨#[]⟩ : ByteArray),false))) = some (r1,r2) := H; have A2 := Aside0.mk A20; clear A20
 by_cases c3 : t101 = true
 ·
  subst c3; have H1 : (spec_MirrorDrawn.l0 k a0 (⟨#[]⟩ : ByteArray) 0) = some (r1,r2) := by rw [if_pos rfl] at H; exact H
  clear H; have H := H1; clear H1; have H' := Aside0.mk H; clear H
  go_enter Tryz.func11,Tryz.ntmps11
  go_wp2_with (first | ((with_reducible refine gate_callee (f := 30) rfl ?_); refine goesL_ (some 8) rfl rfl Tryz.func30 (by kernel_rfl) rfl #[.string a0] rfl (by (try simp only [List.map_toArray,List.map_cons,List.map_nil]); first | done | rfl | (simp only [List.length_drop,List.length_take]; rfl)) ?_; (with_reducible refine (spec_piPattern.calls k a0 true _ A2.out).mono ?_); rintro e w' ⟨rfl,⟨nd,rfl⟩⟩; refine ⟨_,rfl,?_⟩))
  go_loopg [4,5] k (fun kq v4 v5 w' => ∃ (x4_1 : ByteArray) (x5_1 : Int),v4 = .string x4_1 ∧ v5 = .int .i64 x5_1 ∧ Aside0 (spec_MirrorDrawn.l0 kq a0 x4_1 x5_1 = some (r1,r2)) ∧ Aside0 (kq ≤ k) ∧ Aside0 (Below w.heap.size w w'))
  case atStart => exact ⟨((⟨#[]⟩ : ByteArray)),(0),(by first | rfl | (simp; done) | (simp [*]; done)),(by first | rfl | (simp; done) | (simp [*]; done)),H',⟨Nat.le_refl _⟩,⟨by repeat (first | (with_reducible first | exact HB.out | apply below_alloc | apply pw_below_drewN | apply below_drew1) | exact HB.out)⟩⟩
  case round =>
   clear H'; try clear c1
   try clear p2
   try clear c3
   obtain ⟨x4_1,x5_1,rfl,rfl,HA,HK1,HB⟩ := hrel
   cases gk with
   | zero => exact absurd HA.out (by simp [spec_MirrorDrawn.l0])
   | succ k1 =>
    have H := HA.out; clear HA; simp only [spec_MirrorDrawn.l0] at H
    by_cases c4 : x5_1 < (a0.size : Int)
    ·
     rw [if_pos c4] at H; have c4b0 : decide (x5_1 < (a0.size : Int)) = true := decide_eq_true c4; clear c4
     by_cases c5 : 0 ≤ x5_1
     ·
      rw [if_pos c5] at H; have c5b0 : decide (0 ≤ x5_1) = true := decide_eq_true c5; clear c5; replace H := Option.bind_eq_some_iff.mp H; obtain ⟨t102,A70,H⟩ := H; replace H : (if x4_1.size + t102.size ≤ 9223372036854775807 then (spec_MirrorDrawn.l0 k1 a0 (x4_1 ++ t102) (wrap64 (x5_1 + 1))) else (none)) = some (r1,r2) := H; have A7 := Aside0.mk A70; clear A70
      by_cases c8 : x4_1.size + t102.size ≤ 9223372036854775807
      ·
       rw [if_pos c8] at H; have c8b0 := eq_true c8; have c8b1 : decide (x4_1.size + t102.size ≤ 9223372036854775807) = true := decide_eq_true c8; try have c8b2 : (9223372036854775807 < x4_1.size + t102.size) = False := eq_false (Nat.not_lt.2 c8)
       have H' := Aside0.mk H; clear H; have p6 : 0 ≤ (x5_1 : Int) := of_decide_eq_true (by first | (with_reducible assumption) | assumption); have q6 : x5_1 < (a0.size : Int) := of_decide_eq_true (by first | (with_reducible assumption) | assumption); have hx6 := bt_at a0 x5_1; replace p6 := eq_true p6; replace q6 := eq_true q6; go_wp2_with (first | ((with_reducible refine gate_callee (f := 34) rfl ?_); refine goesL_ (some 31) rfl rfl Tryz.func34 (by kernel_rfl) rfl #[.int .i64 (((((((bt a0 x5_1) - 49) % 256) - ((((bt a0 x5_1) - 49) % 256) % 3)) + 2) - ((((bt a0 x5_1) - 49) % 256) % 3)) + 1)] rfl (by (try simp only [List.map_toArray,List.map_cons,List.map_nil]); first | done | rfl | (simp only [List.length_drop,List.length_take]; rfl)) ?_; (with_reducible refine (spec_l1Num.calls k1 (((((((bt a0 x5_1) - 49) % 256) - ((((bt a0 x5_1) - 49) % 256) % 3)) + 2) - ((((bt a0 x5_1) - 49) % 256) % 3)) + 1) t102 _ A7.out).mono ?_); rintro e w9 ⟨rfl,hb⟩; refine ⟨_,rfl,?_⟩; have n0_ := Aside0.mk (below_step (by repeat (first | (with_reducible first | exact HB.out | apply below_alloc | apply pw_below_drewN | apply below_drew1) | exact HB.out)) hb); clear HB; have HB := n0_; clear n0_; (try clear hb); (try clear hb2); (try clear hk); (try clear hi)))
       go_roundg k1
       case measure => have := HK1.out; omega
       case rel => exact ⟨(x4_1 ++ t102),(wrap64 (x5_1 + 1)),(by first | rfl | (simp; done) | (simp [*]; done)),(by first | rfl | (simp; done) | (simp [*]; done)),H',⟨by have := HK1.out; omega⟩,⟨by repeat (first | (with_reducible first | exact HB.out | apply below_alloc | apply pw_below_drewN | apply below_drew1) | exact HB.out)⟩⟩
      · rw [if_neg c8] at H; exact absurd H (by simp)
     · rw [if_neg c5] at H; exact absurd H (by simp)
    ·
     rw [if_neg c4] at H; have c4b0 : decide (x5_1 < (a0.size : Int)) = false := decide_eq_false c4; clear c4; simp only [Option.some.injEq,Prod.mk.injEq] at H; obtain ⟨rfl,rfl⟩ := H; go_wp2
     go_ret2
     exact ⟨by first | rfl | (simp [errW_none,errW_some] <;> rfl) | (simp [*,errW_none,errW_some] <;> rfl),by repeat (first | (with_reducible first | exact HB.out | apply below_alloc | apply pw_below_drewN | apply below_drew1) | exact HB.out)⟩
 ·
  replace c3 := Bool.eq_false_iff.mpr c3; subst c3; have H1 : (some ((⟨#[]⟩ : ByteArray),false)) = some (r1,r2) := by rw [if_neg (show ¬ (false = true) by decide)] at H; exact H
  clear H; have H := H1; clear H1; simp only [Option.some.injEq,Prod.mk.injEq] at H; obtain ⟨rfl,rfl⟩ := H
  go_enter Tryz.func11,Tryz.ntmps11
  go_wp2_with (first | ((with_reducible refine gate_callee (f := 30) rfl ?_); refine goesL_ (some 8) rfl rfl Tryz.func30 (by kernel_rfl) rfl #[.string a0] rfl (by (try simp only [List.map_toArray,List.map_cons,List.map_nil]); first | done | rfl | (simp only [List.length_drop,List.length_take]; rfl)) ?_; (with_reducible refine (spec_piPattern.calls k a0 false _ A2.out).mono ?_); rintro e w' ⟨rfl,⟨nd,rfl⟩⟩; refine ⟨_,rfl,?_⟩))
  go_ret2
  exact ⟨by first | rfl | (simp [errW_none,errW_some] <;> rfl) | (simp [*,errW_none,errW_some] <;> rfl),by repeat (first | (with_reducible first | exact HB.out | apply below_alloc | apply pw_below_drewN | apply below_drew1) | exact HB.out)⟩

end Go.Proofs.YtfhbclfmnliopaaGreatDoor.P

-- printed by xprint.py
namespace Go.Proofs.YtfhbclfmnliopaaGreatDoor.P
open Go.RowKit Go.Proofs.YtfhbclfmnliopaaGreatDoorW.PrintWords Go.Proofs.YtfhbclfmnliopaaGreatDoorW.PrintLast Go.Proofs.YtfhbclfmnliopaaGreatDoorW.PrintMore
attribute [local go_sem] max2_int min2_int max_two min_two max_three min_three max_four min_four   -- for this text's walks alone
set_option linter.unusedVariables false
set_option linter.unusedSimpArgs false

/-! ### spec_NextPoints: function 7 -/
mutual
def spec_NextPoints.j0 : Nat → ByteArray → Bool → Option (ByteArray × Bool)
 | 0,_,_ => none
 | k + 1,x0,x13 => if x13 = true then (some ((⟨#[]⟩ : ByteArray),false)) else (spec_NextPoints.l0 k x0 (⟨#[]⟩ : ByteArray) 49)
def spec_NextPoints.l0 : Nat → ByteArray → ByteArray → Int → Option (ByteArray × Bool)
 | 0,_,_,_ => none
 | k + 1,x0,x4,x5 => if x5 ≤ 57 then ((spec_piGoes.f k x0 x5).bind fun t103 => (if t103 = true then (if x4.size + (Utf8.encode (wrap32 (x5))).size ≤ 9223372036854775807 then (spec_NextPoints.l0 k x0 (x4 ++ (Utf8.encode (wrap32 (x5)))) ((x5 + 1) % 256)) else (none)) else (spec_NextPoints.l0 k x0 x4 ((x5 + 1) % 256)))) else (some (x4,true))
end
def spec_NextPoints.f (k : Nat) (a0 : ByteArray) : Option (ByteArray × Bool) := (spec_piPattern.f k a0).bind fun t101 => (if t101 = true then ((spec_piDrawn.f k a0).bind fun t102 => (spec_NextPoints.j0 k a0 (!t102))) else (spec_NextPoints.j0 k a0 true))
theorem spec_NextPoints.mono_l : ∀ k,(∀ y0 y1,LeO (spec_NextPoints.j0 k y0 y1) (spec_NextPoints.j0 (k + 1) y0 y1)) ∧ (∀ y0 y1 y2,LeO (spec_NextPoints.l0 k y0 y1 y2) (spec_NextPoints.l0 (k + 1) y0 y1 y2))
 | 0 => ⟨by intros; intro r h; simp [spec_NextPoints.j0] at h,by intros; intro r h; simp [spec_NextPoints.l0] at h⟩
 | k + 1 => by
  obtain ⟨ih0,ih1⟩ := spec_NextPoints.mono_l k; refine ⟨?_,?_⟩
  ·
   intro y0 y1
   unfold spec_NextPoints.j0
   repeat' first
   | (with_reducible exact ih0 _ _)
   | (with_reducible exact ih1 _ _ _)
   | (with_reducible exact spec_piDrawn.mono _ _)
   | (with_reducible exact spec_piGoes.mono _ _ _)
   | (with_reducible exact spec_piPattern.mono _ _)
   | (with_reducible exact LeO.refl _)
   | (with_reducible exact LeO.none _)
   | (with_reducible refine LeO.ite ?_ ?_)
   | (with_reducible refine LeO.bind ?_ (fun _ => ?_))
   | exact ih0 _ _
   | exact ih1 _ _ _
   | exact spec_piDrawn.mono _ _
   | exact spec_piGoes.mono _ _ _
   | exact spec_piPattern.mono _ _
   | exact LeO.none _
   | refine LeO.ite ?_ ?_
   | refine LeO.bind ?_ (fun _ => ?_)
  ·
   intro y0 y1 y2
   unfold spec_NextPoints.l0
   repeat' first
   | (with_reducible exact ih0 _ _)
   | (with_reducible exact ih1 _ _ _)
   | (with_reducible exact spec_piDrawn.mono _ _)
   | (with_reducible exact spec_piGoes.mono _ _ _)
   | (with_reducible exact spec_piPattern.mono _ _)
   | (with_reducible exact LeO.refl _)
   | (with_reducible exact LeO.none _)
   | (with_reducible refine LeO.ite ?_ ?_)
   | (with_reducible refine LeO.bind ?_ (fun _ => ?_))
   | exact ih0 _ _
   | exact ih1 _ _ _
   | exact spec_piDrawn.mono _ _
   | exact spec_piGoes.mono _ _ _
   | exact spec_piPattern.mono _ _
   | exact LeO.none _
   | refine LeO.ite ?_ ?_
   | refine LeO.bind ?_ (fun _ => ?_)
theorem spec_NextPoints.mono : ∀ y0 k,LeO (spec_NextPoints.f k y0) (spec_NextPoints.f (k + 1) y0) := by
 intro y0 k; obtain ⟨ih0,ih1⟩ := spec_NextPoints.mono_l k
 unfold spec_NextPoints.f
 repeat' first
   | (with_reducible exact ih0 _ _)
   | (with_reducible exact ih1 _ _ _)
   | (with_reducible exact spec_piDrawn.mono _ _)
   | (with_reducible exact spec_piGoes.mono _ _ _)
   | (with_reducible exact spec_piPattern.mono _ _)
   | (with_reducible exact LeO.refl _)
   | (with_reducible exact LeO.none _)
   | (with_reducible refine LeO.ite ?_ ?_)
   | (with_reducible refine LeO.bind ?_ (fun _ => ?_))
   | exact ih0 _ _
   | exact ih1 _ _ _
   | exact spec_piDrawn.mono _ _
   | exact spec_piGoes.mono _ _ _
   | exact spec_piPattern.mono _ _
   | exact LeO.none _
   | refine LeO.ite ?_ ?_
   | refine LeO.bind ?_ (fun _ => ?_)
set_option maxHeartbeats 8000000 in
set_option maxRecDepth 100000 in
theorem spec_NextPoints.calls (k : Nat) (a0 : ByteArray) (r1 : ByteArray) (r2 : Bool) (w : World) (h : spec_NextPoints.f k a0 = some (r1,r2)) :
  Calls Tryz.prog 7 #[.string a0] w fun e w' => e = .returned (.tuple #[.string r1,.bool r2]) ∧ Drawn0 w w' := by
 have H : ((spec_piPattern.f k a0).bind fun t101 => (if t101 = true then ((spec_piDrawn.f k a0).bind fun t102 => (spec_NextPoints.j0 k a0 (!t102))) else (spec_NextPoints.j0 k a0 true))) = some (r1,r2) := h; clear h; have HC2 := Aside0.mk H; clear H
 go_enter Tryz.func7,Tryz.ntmps7
 go_upto_region 1 with (fail)
 go_cut [13] (fun v13 wc => ∃ (kq : Nat) (x13_1 : Bool),v13 = .bool x13_1 ∧ Aside0 (spec_NextPoints.j0 kq a0 x13_1 = some (r1,r2)) ∧ Aside0 (kq ≤ k) ∧ Drawn0 w wc)
 case first =>
  have H := HC2.out; clear HC2; replace H := Option.bind_eq_some_iff.mp H; obtain ⟨t101,A30,H⟩ := H; replace H : (if t101 = true then ((spec_piDrawn.f k a0).bind fun t102 => (spec_NextPoints.j0 k a0 (!t102))) else (spec_NextPoints.j0 k a0 true)) = some (r1,r2) := H; have A3 := Aside0.mk A30; clear A30
  by_cases c4 : t101 = true
  ·
   subst c4; have H1 : ((spec_piDrawn.f k a0).bind fun t102 => (spec_NextPoints.j0 k a0 (!t102))) = some (r1,r2) := by rw [if_pos rfl] at H; exact H
   clear H; have H := H1; clear H1; replace H := Option.bind_eq_some_iff.mp H; obtain ⟨t102,A50,H⟩ := H; replace H : (spec_NextPoints.j0 k a0 (!t102)) = some (r1,r2) := H; have A5 := Aside0.mk A50; clear A50; have H' := Aside0.mk H; clear H; go_wp2_with (first | ((with_reducible refine gate_callee (f := 30) rfl ?_); refine goesL_ (some 7) rfl rfl Tryz.func30 (by kernel_rfl) rfl #[.string a0] rfl (by (try simp only [List.map_toArray,List.map_cons,List.map_nil]); first | done | rfl | (simp only [List.length_drop,List.length_take]; rfl)) ?_; (with_reducible refine (spec_piPattern.calls k a0 true _ A3.out).mono ?_); rintro e w' ⟨rfl,⟨nd,rfl⟩⟩; refine ⟨_,rfl,?_⟩) | (go_at_call 31; (with_reducible refine (spec_piDrawn.calls k a0 t102 _ A5.out).mono ?_); rintro e w' ⟨rfl,⟨nd,rfl⟩⟩))
   go_meet
   case rel => exact ⟨_,(!t102),(by first | rfl | (simp; done) | (simp [*]; done)),H',⟨by first | omega | exact Nat.le_refl _⟩,by repeat (first | exact Drawn0.refl _ | apply Drawn0.step)⟩
  ·
   replace c4 := Bool.eq_false_iff.mpr c4; subst c4; have H1 : (spec_NextPoints.j0 k a0 true) = some (r1,r2) := by rw [if_neg (show ¬ (false = true) by decide)] at H; exact H
   clear H; have H := H1; clear H1; have H' := Aside0.mk H; clear H; go_wp2_with (first | ((with_reducible refine gate_callee (f := 30) rfl ?_); refine goesL_ (some 7) rfl rfl Tryz.func30 (by kernel_rfl) rfl #[.string a0] rfl (by (try simp only [List.map_toArray,List.map_cons,List.map_nil]); first | done | rfl | (simp only [List.length_drop,List.length_take]; rfl)) ?_; (with_reducible refine (spec_piPattern.calls k a0 false _ A3.out).mono ?_); rintro e w' ⟨rfl,⟨nd,rfl⟩⟩; refine ⟨_,rfl,?_⟩))
   go_meet
   case rel => exact ⟨_,(true),(by first | rfl | (simp; done) | (simp [*]; done)),H',⟨by first | omega | exact Nat.le_refl _⟩,by repeat (first | exact Drawn0.refl _ | apply Drawn0.step)⟩
 case rest =>
  clear HC2; try clear p2
  try clear c3
  try clear c4
  obtain ⟨kq,x13_1,rfl,HA,HJ1,⟨mc1,rfl⟩⟩ := hcut
  cases kq with
  | zero => exact absurd HA.out (by simp [spec_NextPoints.j0])
  | succ kj1 =>
   have H := HA.out; clear HA; simp only [spec_NextPoints.j0] at H
   by_cases c6 : x13_1 = true
   ·
    subst c6; have H1 : (some ((⟨#[]⟩ : ByteArray),false)) = some (r1,r2) := by rw [if_pos rfl] at H; exact H
    clear H; have H := H1; clear H1; simp only [Option.some.injEq,Prod.mk.injEq] at H; obtain ⟨rfl,rfl⟩ := H; go_wp2
    go_ret2
    exact ⟨by first | rfl | (simp; done) | (simp [*]; done),by repeat (first | exact Drawn0.refl _ | apply Drawn0.step)⟩
   ·
    replace c6 := Bool.eq_false_iff.mpr c6; subst c6; have H1 : (spec_NextPoints.l0 kj1 a0 (⟨#[]⟩ : ByteArray) 49) = some (r1,r2) := by rw [if_neg (show ¬ (false = true) by decide)] at H; exact H
    clear H; have H := H1; clear H1; have H' := Aside0.mk H; clear H; go_wp2
    go_loopg [4,5] kj1 (fun kq v4 v5 w' => ∃ (x4_2 : ByteArray) (x5_2 : Int),v4 = .string x4_2 ∧ v5 = .int .u8 x5_2 ∧ Aside0 (spec_NextPoints.l0 kq a0 x4_2 x5_2 = some (r1,r2)) ∧ Aside0 (kq ≤ kj1) ∧ Drawn0 w w')
    case atStart => exact ⟨((⟨#[]⟩ : ByteArray)),(49),(by first | rfl | (simp; done) | (simp [*]; done)),(by first | rfl | (simp; done) | (simp [*]; done)),H',⟨Nat.le_refl _⟩,by repeat (first | exact Drawn0.refl _ | apply Drawn0.step)⟩
    case round =>
     clear H'; try clear c1
     try clear p2
     try clear c3
     try clear c4
     try clear c6
     try clear p2
     obtain ⟨x4_2,x5_2,rfl,rfl,HA,HK2,⟨m2,rfl⟩⟩ := hrel
     cases gk with
     | zero => exact absurd HA.out (by simp [spec_NextPoints.l0])
     | succ k2 =>
      have H := HA.out; clear HA; simp only [spec_NextPoints.l0] at H
      by_cases c7 : x5_2 ≤ 57
      ·
       rw [if_pos c7] at H; have c7b0 : decide (x5_2 ≤ 57) = true := decide_eq_true c7; clear c7; replace H := Option.bind_eq_some_iff.mp H; obtain ⟨t103,A80,H⟩ := H; replace H : (if t103 = true then (if x4_2.size + (Utf8.encode (wrap32 (x5_2))).size ≤ 9223372036854775807 then (spec_NextPoints.l0 k2 a0 (x4_2 ++ (Utf8.encode (wrap32 (x5_2)))) ((x5_2 + 1) % 256)) else (none)) else (spec_NextPoints.l0 k2 a0 x4_2 ((x5_2 + 1) % 256))) = some (r1,r2) := H; have A8 := Aside0.mk A80; clear A80
       by_cases c9 : t103 = true
       ·
        subst c9; have H1 : (if x4_2.size + (Utf8.encode (wrap32 (x5_2))).size ≤ 9223372036854775807 then (spec_NextPoints.l0 k2 a0 (x4_2 ++ (Utf8.encode (wrap32 (x5_2)))) ((x5_2 + 1) % 256)) else (none)) = some (r1,r2) := by rw [if_pos rfl] at H; exact H
        clear H; have H := H1; clear H1
        by_cases c10 : x4_2.size + (Utf8.encode (wrap32 (x5_2))).size ≤ 9223372036854775807
        ·
         rw [if_pos c10] at H; have c10b0 := eq_true c10; have c10b1 : decide (x4_2.size + (Utf8.encode (wrap32 (x5_2))).size ≤ 9223372036854775807) = true := decide_eq_true c10; try have c10b2 : (9223372036854775807 < x4_2.size + (Utf8.encode (wrap32 (x5_2))).size) = False := eq_false (Nat.not_lt.2 c10)
         have H' := Aside0.mk H; clear H; go_wp2_with (first | ((with_reducible refine gate_callee (f := 32) rfl ?_); refine goesL_ (some 20) rfl rfl Tryz.func32 (by kernel_rfl) rfl #[.string a0,.int .u8 x5_2] rfl (by (try simp only [List.map_toArray,List.map_cons,List.map_nil]); first | done | rfl | (simp only [List.length_drop,List.length_take]; rfl)) ?_; (with_reducible refine (spec_piGoes.calls k2 a0 x5_2 true _ A8.out).mono ?_); rintro e w' ⟨rfl,⟨nd,rfl⟩⟩; refine ⟨_,rfl,?_⟩; have hcv11 : ∀ W : World,(convert 21 9 (.int .i32 (wrap32 (x5_2)))).run Tryz.prog W = .ok (.string (Utf8.encode (wrap32 (x5_2)))) W := fun W => run_convert_int_string W 21 9 .i32 (wrap32 (x5_2)) (by rw [Tryz.underlying21]; rfl) Tryz.underlying9))
         go_roundg k2
         case measure => have := HJ1.out; have := HK2.out; omega
         case rel => exact ⟨(x4_2 ++ (Utf8.encode (wrap32 (x5_2)))),((x5_2 + 1) % 256),(by first | rfl | (simp; done) | (simp [*]; done)),(by first | rfl | (simp; done) | (simp [*]; done)),H',⟨by have := HJ1.out; have := HK2.out; omega⟩,by repeat (first | exact Drawn0.refl _ | apply Drawn0.step)⟩
        · rw [if_neg c10] at H; exact absurd H (by simp)
       ·
        replace c9 := Bool.eq_false_iff.mpr c9; subst c9; have H1 : (spec_NextPoints.l0 k2 a0 x4_2 ((x5_2 + 1) % 256)) = some (r1,r2) := by rw [if_neg (show ¬ (false = true) by decide)] at H; exact H
        clear H; have H := H1; clear H1; have H' := Aside0.mk H; clear H; go_wp2_with (first | ((with_reducible refine gate_callee (f := 32) rfl ?_); refine goesL_ (some 20) rfl rfl Tryz.func32 (by kernel_rfl) rfl #[.string a0,.int .u8 x5_2] rfl (by (try simp only [List.map_toArray,List.map_cons,List.map_nil]); first | done | rfl | (simp only [List.length_drop,List.length_take]; rfl)) ?_; (with_reducible refine (spec_piGoes.calls k2 a0 x5_2 false _ A8.out).mono ?_); rintro e w' ⟨rfl,⟨nd,rfl⟩⟩; refine ⟨_,rfl,?_⟩))
        go_roundg k2
        case measure => have := HJ1.out; have := HK2.out; omega
        case rel => exact ⟨(x4_2),((x5_2 + 1) % 256),(by first | rfl | (simp; done) | (simp [*]; done)),(by first | rfl | (simp; done) | (simp [*]; done)),H',⟨by have := HJ1.out; have := HK2.out; omega⟩,by repeat (first | exact Drawn0.refl _ | apply Drawn0.step)⟩
      ·
       rw [if_neg c7] at H; have c7b0 : decide (x5_2 ≤ 57) = false := decide_eq_false c7; clear c7; simp only [Option.some.injEq,Prod.mk.injEq] at H; obtain ⟨rfl,rfl⟩ := H; go_wp2
       go_ret2
       exact ⟨by first | rfl | (simp; done) | (simp [*]; done),by repeat (first | exact Drawn0.refl _ | apply Drawn0.step)⟩

end Go.Proofs.YtfhbclfmnliopaaGreatDoor.P

-- printed by xprint.py
namespace Go.Proofs.YtfhbclfmnliopaaGreatDoor.P
open Go.RowKit Go.Proofs.YtfhbclfmnliopaaGreatDoorW.PrintWords Go.Proofs.YtfhbclfmnliopaaGreatDoorW.PrintLast Go.Proofs.YtfhbclfmnliopaaGreatDoorW.PrintMore
attribute [local go_sem] max2_int min2_int max_two min_two max_three min_three max_four min_four   -- for this text's walks alone
set_option linter.unusedVariables false
set_option linter.unusedSimpArgs false

/-! ### spec_piDigits: function 68 -/
def spec_piDigits.l0 : Nat → ByteArray → Int → Option (Bool)
 | 0,_,_ => none
 | k + 1,x0,x7 => if x7 < (x0.size : Int) then (if 0 ≤ x7 then (if (bt x0 x7) < 48 then (some false) else (if (bt x0 x7) > 57 then (some false) else (spec_piDigits.l0 k x0 (wrap64 (x7 + 1))))) else (none)) else (some true)
def spec_piDigits.f (k : Nat) (a0 : ByteArray) (a1 : Int) (a2 : Int) : Option (Bool) := (spec_l1In.f (a0.size : Int) a1 a2).bind fun t101 => (if t101 = true then (spec_piDigits.l0 k a0 0) else (some false))
theorem spec_piDigits.mono_l : ∀ k,(∀ y0 y1,LeO (spec_piDigits.l0 k y0 y1) (spec_piDigits.l0 (k + 1) y0 y1))
 | 0 => by intros; intro r h; simp [spec_piDigits.l0] at h
 | k + 1 => by
  have ih0 := spec_piDigits.mono_l k
  ·
   intro y0 y1
   unfold spec_piDigits.l0
   repeat' first
   | (with_reducible exact ih0 _ _)
   | (with_reducible exact LeO.refl _)
   | (with_reducible exact LeO.none _)
   | (with_reducible refine LeO.ite ?_ ?_)
   | (with_reducible refine LeO.bind ?_ (fun _ => ?_))
   | exact ih0 _ _
   | exact LeO.none _
   | refine LeO.ite ?_ ?_
   | refine LeO.bind ?_ (fun _ => ?_)
theorem spec_piDigits.mono : ∀ y0 y1 y2 k,LeO (spec_piDigits.f k y0 y1 y2) (spec_piDigits.f (k + 1) y0 y1 y2) := by
 intro y0 y1 y2 k; have ih0 := spec_piDigits.mono_l k
 unfold spec_piDigits.f
 repeat' first
   | (with_reducible exact ih0 _ _)
   | (with_reducible exact LeO.refl _)
   | (with_reducible exact LeO.none _)
   | (with_reducible refine LeO.ite ?_ ?_)
   | (with_reducible refine LeO.bind ?_ (fun _ => ?_))
   | exact ih0 _ _
   | exact LeO.none _
   | refine LeO.ite ?_ ?_
   | refine LeO.bind ?_ (fun _ => ?_)
set_option maxHeartbeats 8000000 in
set_option maxRecDepth 100000 in
theorem spec_piDigits.calls (k : Nat) (a0 : ByteArray) (a1 : Int) (a2 : Int) (r : Bool) (w : World) (h : spec_piDigits.f k a0 a1 a2 = some r) :
  Calls Tryz.prog 68 #[.string a0,.int .i64 a1,.int .i64 a2] w fun e w' => e = .returned (.bool r) ∧ Drawn0 w w' := by
 have H : ((spec_l1In.f (a0.size : Int) a1 a2).bind fun t101 => (if t101 = true then (spec_piDigits.l0 k a0 0) else (some false))) = some r := h; clear h; replace H := Option.bind_eq_some_iff.mp H; obtain ⟨t101,A40,H⟩ := H; replace H : (if t101 = true then (spec_piDigits.l0 k a0 0) else (some false)) = some r := H; have A4 := Aside0.mk A40; clear A40
 by_cases c5 : t101 = true
 ·
  subst c5; have H1 : (spec_piDigits.l0 k a0 0) = some r := by rw [if_pos rfl] at H; exact H
  clear H; have H := H1; clear H1; have H' := Aside0.mk H; clear H
  go_enter Tryz.func68,Tryz.ntmps68
  go_wp2_with (first | ((with_reducible refine gate_callee (f := 45) rfl ?_); refine goesL_ (some 12) rfl rfl Tryz.func45 (by kernel_rfl) rfl #[.int .i64 (a0.size : Int),.int .i64 a1,.int .i64 a2] rfl (by (try simp only [List.map_toArray,List.map_cons,List.map_nil]); first | done | rfl | (simp only [List.length_drop,List.length_take]; rfl)) ?_; (with_reducible refine (spec_l1In.calls (a0.size : Int) a1 a2 true _ A4.out).mono ?_); rintro e w' ⟨rfl,⟨nd,rfl⟩⟩; refine ⟨_,rfl,?_⟩))
  go_loopg [7] k (fun kq v7 w' => ∃ (x7_1 : Int),v7 = .int .i64 x7_1 ∧ Aside0 (spec_piDigits.l0 kq a0 x7_1 = some r) ∧ Aside0 (kq ≤ k) ∧ Drawn0 w w')
  case atStart => exact ⟨(0),(by first | rfl | (simp; done) | (simp [*]; done)),H',⟨Nat.le_refl _⟩,by repeat (first | exact Drawn0.refl _ | apply Drawn0.step)⟩
  case round =>
   clear H'; try clear p2
   try clear c4
   try clear c5
   obtain ⟨x7_1,rfl,HA,HK1,⟨m1,rfl⟩⟩ := hrel
   cases gk with
   | zero => exact absurd HA.out (by simp [spec_piDigits.l0])
   | succ k1 =>
    have H := HA.out; clear HA; simp only [spec_piDigits.l0] at H
    by_cases c6 : x7_1 < (a0.size : Int)
    ·
     rw [if_pos c6] at H; have c6b0 : decide (x7_1 < (a0.size : Int)) = true := decide_eq_true c6; clear c6
     by_cases c7 : 0 ≤ x7_1
     ·
      rw [if_pos c7] at H; have c7b0 : decide (0 ≤ x7_1) = true := decide_eq_true c7; clear c7
      by_cases c9 : (bt a0 x7_1) < 48
      ·
       rw [if_pos c9] at H; have c9b0 : decide ((bt a0 x7_1) < 48) = true := decide_eq_true c9; clear c9; obtain rfl := Option.some.inj H; have p8 : 0 ≤ (x7_1 : Int) := of_decide_eq_true (by first | (with_reducible assumption) | assumption); have q8 : x7_1 < (a0.size : Int) := of_decide_eq_true (by first | (with_reducible assumption) | assumption); have hx8 := bt_at a0 x7_1; replace p8 := eq_true p8; replace q8 := eq_true q8; go_wp2
       go_ret
       exact ⟨by first | rfl | (simp; done) | (simp [*]; done),by repeat (first | exact Drawn0.refl _ | apply Drawn0.step)⟩
      ·
       rw [if_neg c9] at H; have c9b0 : decide ((bt a0 x7_1) < 48) = false := decide_eq_false c9; clear c9
       by_cases c11 : (bt a0 x7_1) > 57
       ·
        rw [if_pos c11] at H; have c11b0 : decide (57 < (bt a0 x7_1)) = true := decide_eq_true c11; clear c11; obtain rfl := Option.some.inj H; have p8 : 0 ≤ (x7_1 : Int) := of_decide_eq_true (by first | (with_reducible assumption) | assumption); have q8 : x7_1 < (a0.size : Int) := of_decide_eq_true (by first | (with_reducible assumption) | assumption); have hx8 := bt_at a0 x7_1; replace p8 := eq_true p8; replace q8 := eq_true q8; have p10 : 0 ≤ (x7_1 : Int) := of_decide_eq_true (by first | (with_reducible assumption) | assumption); have q10 : x7_1 < (a0.size : Int) := of_decide_eq_true (by first | (with_reducible assumption) | assumption); have hx10 := bt_at a0 x7_1; replace p10 := eq_true p10; replace q10 := eq_true q10; go_wp2
        go_ret
        exact ⟨by first | rfl | (simp; done) | (simp [*]; done),by repeat (first | exact Drawn0.refl _ | apply Drawn0.step)⟩
       ·
        rw [if_neg c11] at H; have c11b0 : decide (57 < (bt a0 x7_1)) = false := decide_eq_false c11; clear c11; have H' := Aside0.mk H; clear H; have p8 : 0 ≤ (x7_1 : Int) := of_decide_eq_true (by first | (with_reducible assumption) | assumption); have q8 : x7_1 < (a0.size : Int) := of_decide_eq_true (by first | (with_reducible assumption) | assumption); have hx8 := bt_at a0 x7_1; replace p8 := eq_true p8; replace q8 := eq_true q8; have p10 : 0 ≤ (x7_1 : Int) := of_decide_eq_true (by first | (with_reducible assumption) | assumption); have q10 : x7_1 < (a0.size : Int) := of_decide_eq_true (by first | (with_reducible assumption) | assumption); have hx10 := bt_at a0 x7_1; replace p10 := eq_true p10; replace q10 := eq_true q10; go_wp2
        go_roundg k1
        case measure => have := HK1.out; omega
        case rel => exact ⟨(wrap64 (x7_1 + 1)),(by first | rfl | (simp; done) | (simp [*]; done)),H',⟨by have := HK1.out; omega⟩,by repeat (first | exact Drawn0.refl _ | apply Drawn0.step)⟩
     · rw [if_neg c7] at H; exact absurd H (by simp)
    ·
     rw [if_neg c6] at H; have c6b0 : decide (x7_1 < (a0.size : Int)) = false := decide_eq_false c6; clear c6; obtain rfl := Option.some.inj H; go_wp2
     go_ret
     exact ⟨by first | rfl | (simp; done) | (simp [*]; done),by repeat (first | exact Drawn0.refl _ | apply Drawn0.step)⟩
 ·
  replace c5 := Bool.eq_false_iff.mpr c5; subst c5; have H1 : (some false) = some r := by rw [if_neg (show ¬ (false = true) by decide)] at H; exact H
  clear H; have H := H1; clear H1; obtain rfl := Option.some.inj H
  go_enter Tryz.func68,Tryz.ntmps68
  go_wp2_with (first | ((with_reducible refine gate_callee (f := 45) rfl ?_); refine goesL_ (some 12) rfl rfl Tryz.func45 (by kernel_rfl) rfl #[.int .i64 (a0.size : Int),.int .i64 a1,.int .i64 a2] rfl (by (try simp only [List.map_toArray,List.map_cons,List.map_nil]); first | done | rfl | (simp only [List.length_drop,List.length_take]; rfl)) ?_; (with_reducible refine (spec_l1In.calls (a0.size : Int) a1 a2 false _ A4.out).mono ?_); rintro e w' ⟨rfl,⟨nd,rfl⟩⟩; refine ⟨_,rfl,?_⟩))
  go_ret
  exact ⟨by first | rfl | (simp; done) | (simp [*]; done),by repeat (first | exact Drawn0.refl _ | apply Drawn0.step)⟩

end Go.Proofs.YtfhbclfmnliopaaGreatDoor.P

-- printed by xprint.py
namespace Go.Proofs.YtfhbclfmnliopaaGreatDoor.P
open Go.RowKit Go.Proofs.YtfhbclfmnliopaaGreatDoorW.PrintWords Go.Proofs.YtfhbclfmnliopaaGreatDoorW.PrintLast Go.Proofs.YtfhbclfmnliopaaGreatDoorW.PrintMore
attribute [local go_sem] max2_int min2_int max_two min_two max_three min_three max_four min_four   -- for this text's walks alone
set_option linter.unusedVariables false
set_option linter.unusedSimpArgs false

/-! ### spec_piPin: function 50 -/
def spec_piPin.f (k : Nat) (a0 : ByteArray) : Option (Bool) := (spec_piDigits.f k a0 2 4).bind fun t101 => (some t101)
theorem spec_piPin.mono : ∀ y0 k,LeO (spec_piPin.f k y0) (spec_piPin.f (k + 1) y0) := by
 intro y0 k
 unfold spec_piPin.f
 repeat' first
   | (with_reducible exact spec_piDigits.mono _ _ _ _)
   | (with_reducible exact LeO.refl _)
   | (with_reducible exact LeO.none _)
   | (with_reducible refine LeO.ite ?_ ?_)
   | (with_reducible refine LeO.bind ?_ (fun _ => ?_))
   | exact spec_piDigits.mono _ _ _ _
   | exact LeO.none _
   | refine LeO.ite ?_ ?_
   | refine LeO.bind ?_ (fun _ => ?_)
set_option maxHeartbeats 8000000 in
set_option maxRecDepth 100000 in
theorem spec_piPin.calls (k : Nat) (a0 : ByteArray) (r : Bool) (w : World) (h : spec_piPin.f k a0 = some r) :
  Calls Tryz.prog 50 #[.string a0] w fun e w' => e = .returned (.bool r) ∧ Drawn0 w w' := by
 have H : ((spec_piDigits.f k a0 2 4).bind fun t101 => (some t101)) = some r := h; clear h; replace H := Option.bind_eq_some_iff.mp H; obtain ⟨t101,A20,H⟩ := H; replace H : (some t101) = some r := H; have A2 := Aside0.mk A20; clear A20; obtain rfl := Option.some.inj H
 go_enter Tryz.func50,Tryz.ntmps50
 go_wp2_with (first | ((with_reducible refine gate_callee (f := 68) rfl ?_); refine goesL_ (some 4) rfl rfl Tryz.func68 (by kernel_rfl) rfl #[.string a0,.int .i64 2,.int .i64 4] rfl (by (try simp only [List.map_toArray,List.map_cons,List.map_nil]); first | done | rfl | (simp only [List.length_drop,List.length_take]; rfl)) ?_; (with_reducible refine (spec_piDigits.calls k a0 2 4 t101 _ A2.out).mono ?_); rintro e w' ⟨rfl,⟨nd,rfl⟩⟩; refine ⟨_,rfl,?_⟩))
 go_ret
 exact ⟨by first | rfl | (simp; done) | (simp [*]; done),by repeat (first | exact Drawn0.refl _ | apply Drawn0.step)⟩

end Go.Proofs.YtfhbclfmnliopaaGreatDoor.P

-- printed by xprint.py
namespace Go.Proofs.YtfhbclfmnliopaaGreatDoor.P
open Go.RowKit Go.Proofs.YtfhbclfmnliopaaGreatDoorW.PrintWords Go.Proofs.YtfhbclfmnliopaaGreatDoorW.PrintLast Go.Proofs.YtfhbclfmnliopaaGreatDoorW.PrintMore
attribute [local go_sem] max2_int min2_int max_two min_two max_three min_three max_four min_four   -- for this text's walks alone
set_option linter.unusedVariables false
set_option linter.unusedSimpArgs false

/-! ### spec_TurnWheel: function 25 -/
def spec_TurnWheel.f (k : Nat) (a0 : ByteArray) (a1 : Int) (a2 : Int) : Option (ByteArray × Bool) := (spec_piPin.f k a0).bind fun t101 => (if t101 = true then ((spec_l1In.f a1 0 (wrap64 ((a0.size : Int) - 1))).bind fun t102 => (if t102 = true then ((spec_l1In.f a2 (-1000) 1000).bind fun t103 => (if t103 = true then (if 0 ≤ a1 then (if a1 < (a0.size : Int) then (if a1 ≤ (a0.size : Int) then ((spec_l1Num.f k (Int.tmod (wrap64 ((wrap64 ((((bt a0 a1) - 48) % 256) + a2)) + 1000)) 10)).bind fun t104 => (if (a0.extract 0 (a1 : Int).toNat).size + t104.size ≤ 9223372036854775807 then (if 0 ≤ (wrap64 (a1 + 1)) then (if (wrap64 (a1 + 1)) ≤ (a0.size : Int) then (if ((a0.extract 0 (a1 : Int).toNat) ++ t104).size + (a0.extract ((wrap64 (a1 + 1)) : Int).toNat a0.size).size ≤ 9223372036854775807 then (some (((a0.extract 0 (a1 : Int).toNat) ++ t104) ++ (a0.extract ((wrap64 (a1 + 1)) : Int).toNat a0.size),true)) else (none)) else (none)) else (none)) else (none))) else (none)) else (none)) else (none)) else (some ((⟨#[]⟩ : ByteArray),false)))) else (some ((⟨#[]⟩ : ByteArray),false)))) else (some ((⟨#[]⟩ : ByteArray),false)))
theorem spec_TurnWheel.mono : ∀ y0 y1 y2 k,LeO (spec_TurnWheel.f k y0 y1 y2) (spec_TurnWheel.f (k + 1) y0 y1 y2) := by
 intro y0 y1 y2 k
 unfold spec_TurnWheel.f
 repeat' first
   | (with_reducible exact spec_l1Num.mono _ _)
   | (with_reducible exact spec_piPin.mono _ _)
   | (with_reducible exact LeO.refl _)
   | (with_reducible exact LeO.none _)
   | (with_reducible refine LeO.ite ?_ ?_)
   | (with_reducible refine LeO.bind ?_ (fun _ => ?_))
   | exact spec_l1Num.mono _ _
   | exact spec_piPin.mono _ _
   | exact LeO.none _
   | refine LeO.ite ?_ ?_
   | refine LeO.bind ?_ (fun _ => ?_)
def spec_TurnWheel.T4 : Bool × List (List Nat × List Nat) := (true,[([],[]),([],[]),([0,1],[0,1]),([],[]),([3],[3]),([2,4],[2,4]),([],[]),([],[]),([7],[7]),([6,8],[6,8]),([5,9],[5,9]),([10,4,0,1,2,3,4,5,6,7,8,9,10],[10]),([11,0,1,2,3,4,5,6,7,8,9,10,11],[])])
def spec_TurnWheel.B4 : List Nat := [0,0,3,0,8,31,0,0,128,448,1023,2047,4095]
theorem spec_TurnWheel.tab4 : rtab .any (opsOf Tryz.f25 4) = spec_TurnWheel.T4 := by kernel_rfl
theorem spec_TurnWheel.bits4 : waitsOk spec_TurnWheel.T4.2 spec_TurnWheel.B4 = true := by kernel_rfl
set_option maxHeartbeats 8000000 in
set_option maxRecDepth 100000 in
theorem spec_TurnWheel.calls (k : Nat) (a0 : ByteArray) (a1 : Int) (a2 : Int) (r1 : ByteArray) (r2 : Bool) (w : World) (h : spec_TurnWheel.f k a0 a1 a2 = some (r1,r2)) :
  Calls Tryz.prog 25 #[.string a0,.int .i64 a1,.int .i64 a2] w fun e w' => e = .returned (.tuple #[.string r1,.bool r2]) ∧ Below w.heap.size w w' := by
 have HB := Aside0.mk (Below.refl w.heap.size w); have H : ((spec_piPin.f k a0).bind fun t101 => (if t101 = true then ((spec_l1In.f a1 0 (wrap64 ((a0.size : Int) - 1))).bind fun t102 => (if t102 = true then ((spec_l1In.f a2 (-1000) 1000).bind fun t103 => (if t103 = true then (if 0 ≤ a1 then (if a1 < (a0.size : Int) then (if a1 ≤ (a0.size : Int) then ((spec_l1Num.f k (Int.tmod (wrap64 ((wrap64 ((((bt a0 a1) - 48) % 256) + a2)) + 1000)) 10)).bind fun t104 => (if (a0.extract 0 (a1 : Int).toNat).size + t104.size ≤ 9223372036854775807 then (if 0 ≤ (wrap64 (a1 + 1)) then (if (wrap64 (a1 + 1)) ≤ (a0.size : Int) then (if ((a0.extract 0 (a1 : Int).toNat) ++ t104).size + (a0.extract ((wrap64 (a1 + 1)) : Int).toNat a0.size).size ≤ 9223372036854775807 then (some (((a0.extract 0 (a1 : Int).toNat) ++ t104) ++ (a0.extract ((wrap64 (a1 + 1)) : Int).toNat a0.size),true)) else (none)) else (none)) else (none)) else (none))) else (none)) else (none)) else (none)) else (some ((⟨#[]⟩ : ByteArray),false)))) else (some ((⟨#[]⟩ : ByteArray),false)))) else (some ((⟨#[]⟩ : ByteArray),false)))) = some (r1,r2) := h; clear h; replace H := Option.bind_eq_some_iff.mp H; obtain ⟨t101,A40,H⟩ := H; replace H : (if t101 = true then ((spec_l1In.f a1 0 (wrap64 ((a0.size : Int) - 1))).bind fun t102 => (if t102 = true then ((spec_l1In.f a2 (-1000) 1000).bind fun t103 => (if t103 = true then (if 0 ≤ a1 then (if a1 < (a0.size : Int) then (if a1 ≤ (a0.size : Int) then ((spec_l1Num.f k (Int.tmod (wrap64 ((wrap64 ((((bt a0 a1) - 48) % 256) + a2)) + 1000)) 10)).bind fun t104 => (if (a0.extract 0 (a1 : Int).toNat).size + t104.size ≤ 9223372036854775807 then (if 0 ≤ (wrap64 (a1 + 1)) then (if (wrap64 (a1 + 1)) ≤ (a0.size : Int) then (if ((a0.extract 0 (a1 : Int).toNat) ++ t104).size + (a0.extract ((wrap64 (a1 + 1)) : Int).toNat a0.size).size ≤ 9223372036854775807 then (some (((a0.extract 0 (a1 : Int).toNat) ++ t104) ++ (a0.extract ((wrap64 (a1 + 1)) : Int).toNat a0.size),true)) else (none)) else (none)) else (none)) else (none))) else (none)) else (none)) else (none)) else (some ((⟨#[]⟩ : ByteArray),false)))) else (some ((⟨#[]⟩ : ByteArray),false)))) else (some ((⟨#[]⟩ : ByteArray),false))) = some (r1,r2) := H; have A4 := Aside0.mk A40; clear A40
 by_cases c5 : t101 = true
 ·
  subst c5; have H1 : ((spec_l1In.f a1 0 (wrap64 ((a0.size : Int) - 1))).bind fun t102 => (if t102 = true then ((spec_l1In.f a2 (-1000) 1000).bind fun t103 => (if t103 = true then (if 0 ≤ a1 then (if a1 < (a0.size : Int) then (if a1 ≤ (a0.size : Int) then ((spec_l1Num.f k (Int.tmod (wrap64 ((wrap64 ((((bt a0 a1) - 48) % 256) + a2)) + 1000)) 10)).bind fun t104 => (if (a0.extract 0 (a1 : Int).toNat).size + t104.size ≤ 9223372036854775807 then (if 0 ≤ (wrap64 (a1 + 1)) then (if (wrap64 (a1 + 1)) ≤ (a0.size : Int) then (if ((a0.extract 0 (a1 : Int).toNat) ++ t104).size + (a0.extract ((wrap64 (a1 + 1)) : Int).toNat a0.size).size ≤ 9223372036854775807 then (some (((a0.extract 0 (a1 : Int).toNat) ++ t104) ++ (a0.extract ((wrap64 (a1 + 1)) : Int).toNat a0.size),true)) else (none)) else (none)) else (none)) else (none))) else (none)) else (none)) else (none)) else (some ((⟨#[]⟩ : ByteArray),false)))) else (some ((⟨#[]⟩ : ByteArray),false)))) = some (r1,r2) := by rw [if_pos rfl] at H; exact H
  clear H; have H := H1; clear H1; replace H := Option.bind_eq_some_iff.mp H; obtain ⟨t102,A60,H⟩ := H; replace H : (if t102 = true then ((spec_l1In.f a2 (-1000) 1000).bind fun t103 => (if t103 = true then (if 0 ≤ a1 then (if a1 < (a0.size : Int) then (if a1 ≤ (a0.size : Int) then ((spec_l1Num.f k (Int.tmod (wrap64 ((wrap64 ((((bt a0 a1) - 48) % 256) + a2)) + 1000)) 10)).bind fun t104 => (if (a0.extract 0 (a1 : Int).toNat).size + t104.size ≤ 9223372036854775807 then (if 0 ≤ (wrap64 (a1 + 1)) then (if (wrap64 (a1 + 1)) ≤ (a0.size : Int) then (if ((a0.extract 0 (a1 : Int).toNat) ++ t104).size + (a0.extract ((wrap64 (a1 + 1)) : Int).toNat a0.size).size ≤ 9223372036854775807 then (some (((a0.extract 0 (a1 : Int).toNat) ++ t104) ++ (a0.extract ((wrap64 (a1 + 1)) : Int).toNat a0.size),true)) else (none)) else (none)) else (none)) else (none))) else (none)) else (none)) else (none)) else (some ((⟨#[]⟩ : ByteArray),false)))) else (some ((⟨#[]⟩ : ByteArray),false))) = some (r1,r2) := H; have A6 := Aside0.mk A60; clear A60
  by_cases c7 : t102 = true
  ·
   subst c7; have H1 : ((spec_l1In.f a2 (-1000) 1000).bind fun t103 => (if t103 = true then (if 0 ≤ a1 then (if a1 < (a0.size : Int) then (if a1 ≤ (a0.size : Int) then ((spec_l1Num.f k (Int.tmod (wrap64 ((wrap64 ((((bt a0 a1) - 48) % 256) + a2)) + 1000)) 10)).bind fun t104 => (if (a0.extract 0 (a1 : Int).toNat).size + t104.size ≤ 9223372036854775807 then (if 0 ≤ (wrap64 (a1 + 1)) then (if (wrap64 (a1 + 1)) ≤ (a0.size : Int) then (if ((a0.extract 0 (a1 : Int).toNat) ++ t104).size + (a0.extract ((wrap64 (a1 + 1)) : Int).toNat a0.size).size ≤ 9223372036854775807 then (some (((a0.extract 0 (a1 : Int).toNat) ++ t104) ++ (a0.extract ((wrap64 (a1 + 1)) : Int).toNat a0.size),true)) else (none)) else (none)) else (none)) else (none))) else (none)) else (none)) else (none)) else (some ((⟨#[]⟩ : ByteArray),false)))) = some (r1,r2) := by rw [if_pos rfl] at H; exact H
   clear H; have H := H1; clear H1; replace H := Option.bind_eq_some_iff.mp H; obtain ⟨t103,A80,H⟩ := H; replace H : (if t103 = true then (if 0 ≤ a1 then (if a1 < (a0.size : Int) then (if a1 ≤ (a0.size : Int) then ((spec_l1Num.f k (Int.tmod (wrap64 ((wrap64 ((((bt a0 a1) - 48) % 256) + a2)) + 1000)) 10)).bind fun t104 => (if (a0.extract 0 (a1 : Int).toNat).size + t104.size ≤ 9223372036854775807 then (if 0 ≤ (wrap64 (a1 + 1)) then (if (wrap64 (a1 + 1)) ≤ (a0.size : Int) then (if ((a0.extract 0 (a1 : Int).toNat) ++ t104).size + (a0.extract ((wrap64 (a1 + 1)) : Int).toNat a0.size).size ≤ 9223372036854775807 then (some (((a0.extract 0 (a1 : Int).toNat) ++ t104) ++ (a0.extract ((wrap64 (a1 + 1)) : Int).toNat a0.size),true)) else (none)) else (none)) else (none)) else (none))) else (none)) else (none)) else (none)) else (some ((⟨#[]⟩ : ByteArray),false))) = some (r1,r2) := H; have A8 := Aside0.mk A80; clear A80
   by_cases c9 : t103 = true
   ·
    subst c9; have H1 : (if 0 ≤ a1 then (if a1 < (a0.size : Int) then (if a1 ≤ (a0.size : Int) then ((spec_l1Num.f k (Int.tmod (wrap64 ((wrap64 ((((bt a0 a1) - 48) % 256) + a2)) + 1000)) 10)).bind fun t104 => (if (a0.extract 0 (a1 : Int).toNat).size + t104.size ≤ 9223372036854775807 then (if 0 ≤ (wrap64 (a1 + 1)) then (if (wrap64 (a1 + 1)) ≤ (a0.size : Int) then (if ((a0.extract 0 (a1 : Int).toNat) ++ t104).size + (a0.extract ((wrap64 (a1 + 1)) : Int).toNat a0.size).size ≤ 9223372036854775807 then (some (((a0.extract 0 (a1 : Int).toNat) ++ t104) ++ (a0.extract ((wrap64 (a1 + 1)) : Int).toNat a0.size),true)) else (none)) else (none)) else (none)) else (none))) else (none)) else (none)) else (none)) = some (r1,r2) := by rw [if_pos rfl] at H; exact H
    clear H; have H := H1; clear H1
    by_cases c10 : 0 ≤ a1
    ·
     rw [if_pos c10] at H; have c10b0 : decide (0 ≤ a1) = true := decide_eq_true c10; clear c10
     by_cases c11 : a1 < (a0.size : Int)
     ·
      rw [if_pos c11] at H; have c11b0 : decide (a1 < (a0.size : Int)) = true := decide_eq_true c11; clear c11; have c13b0 := eq_true (of_decide_eq_true (by first | (with_reducible assumption) | assumption) : 0 ≤ a1)
      by_cases c14 : a1 ≤ (a0.size : Int)
      ·
       rw [if_pos c14] at H; have c14b0 := eq_true c14; have c14b1 : decide (a1 ≤ (a0.size : Int)) = true := decide_eq_true c14; clear c14; replace H := Option.bind_eq_some_iff.mp H; obtain ⟨t104,A150,H⟩ := H; replace H : (if (a0.extract 0 (a1 : Int).toNat).size + t104.size ≤ 9223372036854775807 then (if 0 ≤ (wrap64 (a1 + 1)) then (if (wrap64 (a1 + 1)) ≤ (a0.size : Int) then (if ((a0.extract 0 (a1 : Int).toNat) ++ t104).size + (a0.extract ((wrap64 (a1 + 1)) : Int).toNat a0.size).size ≤ 9223372036854775807 then (some (((a0.extract 0 (a1 : Int).toNat) ++ t104) ++ (a0.extract ((wrap64 (a1 + 1)) : Int).toNat a0.size),true)) else (none)) else (none)) else (none)) else (none)) = some (r1,r2) := H; have A15 := Aside0.mk A150; clear A150
       by_cases c16 : (a0.extract 0 (a1 : Int).toNat).size + t104.size ≤ 9223372036854775807
       ·
        rw [if_pos c16] at H; have c16b0 := eq_true c16; have c16b1 : decide ((a0.extract 0 (a1 : Int).toNat).size + t104.size ≤ 9223372036854775807) = true := decide_eq_true c16; try have c16b2 : (9223372036854775807 < (a0.extract 0 (a1 : Int).toNat).size + t104.size) = False := eq_false (Nat.not_lt.2 c16)
        obtain ⟨ji17,hji17⟩ : ∃ j_ : Int,(wrap64 (a1 + 1)) = j_ := ⟨_,rfl⟩; replace H : (if 0 ≤ (ji17) then (if (ji17) ≤ (a0.size : Int) then (if ((a0.extract 0 (a1 : Int).toNat) ++ t104).size + (a0.extract ((ji17) : Int).toNat a0.size).size ≤ 9223372036854775807 then (some (((a0.extract 0 (a1 : Int).toNat) ++ t104) ++ (a0.extract ((ji17) : Int).toNat a0.size),true)) else (none)) else (none)) else (none)) = some (r1,r2) := by first | (rw [hji17] at H; exact H) | (simp only [hji17] at H ⊢; exact H)
        (try rw [hji17] at A4)
        (try rw [hji17] at A6)
        (try rw [hji17] at A8)
        (try rw [hji17] at A15)
        have hji17w : (IntKind.i64.wrap (a1 + 1)) = ji17 := (i64_w _).trans hji17
        by_cases c18 : 0 ≤ (ji17)
        ·
         rw [if_pos c18] at H; have c18b0 := eq_true c18; have c18b1 : decide (0 ≤ (ji17)) = true := decide_eq_true c18; clear c18
         by_cases c19 : (ji17) ≤ (a0.size : Int)
         ·
          rw [if_pos c19] at H; have c19b0 := eq_true c19; have c19b1 : decide ((ji17) ≤ (a0.size : Int)) = true := decide_eq_true c19; clear c19
          by_cases c20 : ((a0.extract 0 (a1 : Int).toNat) ++ t104).size + (a0.extract ((ji17) : Int).toNat a0.size).size ≤ 9223372036854775807
          ·
           rw [if_pos c20] at H; have c20b0 := eq_true c20; have c20b1 : decide (((a0.extract 0 (a1 : Int).toNat) ++ t104).size + (a0.extract ((ji17) : Int).toNat a0.size).size ≤ 9223372036854775807) = true := decide_eq_true c20; try have c20b2 : (9223372036854775807 < ((a0.extract 0 (a1 : Int).toNat) ++ t104).size + (a0.extract ((ji17) : Int).toNat a0.size).size) = False := eq_false (Nat.not_lt.2 c20)
           simp only [Option.some.injEq,Prod.mk.injEq] at H; obtain ⟨rfl,rfl⟩ := H
           have cm1 : (9223372036854775807 < a1.toNat + t104.size) = False := by
            have cm0 := c16; rw [ByteArray.size_extract] at cm0; have := of_eq_true c14b0; exact eq_false (by omega)
           have cm2 : (9223372036854775807 < a1.toNat + t104.size + (a0.size - ji17.toNat)) = False := by
            have cm0 := c20; rw [ByteArray.size_append,ByteArray.size_extract,ByteArray.size_extract] at cm0; have := of_eq_true c14b0; exact eq_false (by omega)
           go_enter Tryz.func25,Tryz.ntmps25
           try go_wp2_with (first | ((with_reducible refine gate_callee (f := 50) rfl ?_); refine goesL_ (some 10) rfl rfl Tryz.func50 (by kernel_rfl) rfl #[.string a0] rfl (by (try simp only [List.map_toArray,List.map_cons,List.map_nil]); first | done | rfl | (simp only [List.length_drop,List.length_take]; rfl)) ?_; (with_reducible refine (spec_piPin.calls k a0 true _ A4.out).mono ?_); rintro e w' ⟨rfl,⟨nd,rfl⟩⟩; refine ⟨_,rfl,?_⟩) | (go_at_call 45; (with_reducible refine (spec_l1In.calls a1 0 (wrap64 ((a0.size : Int) - 1)) true _ A6.out).mono ?_); rintro e w' ⟨rfl,⟨nd,rfl⟩⟩) | (go_at_call 45; (with_reducible refine (spec_l1In.calls a2 (-1000) 1000 true _ A8.out).mono ?_); rintro e w' ⟨rfl,⟨nd,rfl⟩⟩; have p12 : 0 ≤ (a1 : Int) := of_decide_eq_true (by first | (with_reducible assumption) | assumption); have q12 : a1 < (a0.size : Int) := of_decide_eq_true (by first | (with_reducible assumption) | assumption); have hx12 := bt_at a0 a1; replace p12 := eq_true p12; replace q12 := eq_true q12))
           have n0_ := Aside0.mk (below_drew1 HB.out); clear HB; have HB := n0_; clear n0_; refine start_ (n := 13) (S := fun w' => True) (ds := []) #[false,false,false,false,false,false,false,false,false,false,false,false,false] (by kernel_rfl) rfl rfl trivial (fun hHeld => ?_); refine with_tabW spec_TurnWheel.tab4 spec_TurnWheel.bits4 (fun HT_ HW_ => ?_)
           (first | (rw [drewN_self w]; generalize hq_ : (World.drewN w _).drew = w21 at hHeld ⊢; clear HB; have HB : Aside0 (Below w.heap.size w w21) := ⟨by rw [← hq_]; exact below_drew1 (pw_below_drewN (Below.refl w.heap.size w) _)⟩; clear hq_) | (generalize w.drew = w21 at HB hHeld ⊢))
           refine pure_ (i := 0) (N := some 34) (v := ?_) (a' := ?_) #[true,false,false,false,false,false,false,false,false,false,false,false,false] rfl rfl (any_of HT_.out (by kernel_rfl)) (fun _ _ _ h => h) (Or.inl ⟨by rfl,?_⟩) ?_ ?_; rotate_left
           · intro w'; go_simp; with_reducible rfl
           rotate_left
           · simp only [Act.put,List.setIfInBounds_toArray,List.set_cons_zero,List.set_cons_succ,i64_w,i32_w]; rfl
           refine pure_ (i := 1) (N := some 35) (v := ?_) (a' := ?_) #[true,true,false,false,false,false,false,false,false,false,false,false,false] rfl rfl (any_of HT_.out (by kernel_rfl)) (fun _ _ _ h => h) (Or.inl ⟨by rfl,?_⟩) ?_ ?_; rotate_left
           · intro w'; go_simp; with_reducible rfl
           rotate_left
           · simp only [Act.put,List.setIfInBounds_toArray,List.set_cons_zero,List.set_cons_succ,i64_w,i32_w]; rfl
           refine pure_ (i := 2) (N := some 36) (v := ?_) (a' := ?_) #[true,true,true,false,false,false,false,false,false,false,false,false,false] rfl rfl (any_of HT_.out (by kernel_rfl)) (fun _ _ _ h => h) (Or.inl ⟨by rfl,?_⟩) ?_ ?_; rotate_left
           · intro w'; go_simp; with_reducible rfl
           rotate_left
           · simp only [Act.put,List.setIfInBounds_toArray,List.set_cons_zero,List.set_cons_succ,i64_w,i32_w]; rfl
           refine pure_ (i := 3) (N := some 37) (v := ?_) (a' := ?_) #[true,true,true,true,false,false,false,false,false,false,false,false,false] rfl rfl (any_of HT_.out (by kernel_rfl)) (fun _ _ _ h => h) (Or.inl ⟨by rfl,?_⟩) ?_ ?_; rotate_left
           · intro w'; go_simp; with_reducible rfl
           rotate_left
           · simp only [Act.put,List.setIfInBounds_toArray,List.set_cons_zero,List.set_cons_succ,i64_w,i32_w]; rfl
           refine pure_ (i := 6) (N := some 40) (v := ?_) (a' := ?_) #[true,true,true,true,false,false,true,false,false,false,false,false,false] rfl rfl (any_of HT_.out (by kernel_rfl)) (fun _ _ _ h => h) (Or.inl ⟨by rfl,?_⟩) ?_ ?_; rotate_left
           · intro w'; go_simp; with_reducible rfl
           rotate_left
           · simp only [Act.put,List.setIfInBounds_toArray,List.set_cons_zero,List.set_cons_succ,i64_w,i32_w]; rfl
           refine pure_ (i := 7) (N := some 41) (v := ?_) (a' := ?_) #[true,true,true,true,false,false,true,true,false,false,false,false,false] rfl rfl (any_of HT_.out (by kernel_rfl)) (fun _ _ _ h => h) (Or.inl ⟨by rfl,?_⟩) ?_ ?_; rotate_left
           · intro w'; go_simp; with_reducible rfl
           rotate_left
           · simp only [Act.put,List.setIfInBounds_toArray,List.set_cons_zero,List.set_cons_succ,i64_w,i32_w]; rfl
           refine pure_ (i := 8) (N := some 42) (v := ?_) (a' := ?_) #[true,true,true,true,false,false,true,true,true,false,false,false,false] rfl rfl (any_of HT_.out (by kernel_rfl)) (fun _ _ _ h => h) (Or.inl ⟨by rfl,?_⟩) ?_ ?_; rotate_left
           · intro w'; go_simp; with_reducible rfl
           rotate_left
           · simp only [Act.put,List.setIfInBounds_toArray,List.set_cons_zero,List.set_cons_succ,i64_w,i32_w]; rfl
           refine pure_ (i := 9) (N := some 43) (v := ?_) (a' := ?_) #[true,true,true,true,false,false,true,true,true,true,false,false,false] rfl rfl (any_of HT_.out (by kernel_rfl)) (fun _ _ _ h => h) (Or.inl ⟨by rfl,?_⟩) ?_ ?_; rotate_left
           · intro w'; go_simp; with_reducible rfl
           rotate_left
           · simp only [Act.put,List.setIfInBounds_toArray,List.set_cons_zero,List.set_cons_succ,i64_w,i32_w]; rfl
           refine one_ (i := 4) (N := some 38) #[true,true,true,true,true,false,true,true,true,true,false,false,false] rfl rfl (one_of HT_.out (by kernel_rfl)) (by decide) (fun K hK => ?_); refine goes_ Tryz.func34 (by kernel_rfl) rfl #[.int .i64 (Int.tmod (wrap64 ((wrap64 ((((bt a0 a1) - 48) % 256) + a2)) + 1000)) 10)] (by rfl) rfl rfl (by (try simp only [List.map_toArray,List.map_cons,List.map_nil]); first | done | rfl | (simp only [List.length_drop,List.length_take]; rfl)) ?_; with_reducible refine (spec_l1Num.calls k (Int.tmod (wrap64 ((wrap64 ((((bt a0 a1) - 48) % 256) + a2)) + 1000)) 10) t104 _ A15.out).mono ?_
           rintro e w22 ⟨rfl,hb⟩; refine ⟨_,rfl,?_⟩; have n0_ := Aside0.mk (below_step (by repeat (first | (with_reducible first | exact HB.out | apply below_alloc | apply pw_below_drewN | apply below_drew1) | exact HB.out)) hb); clear HB; have HB := n0_; clear n0_
           (try clear hb)
           (try clear hb2)
           (try clear hk)
           (try clear hi)
           refine hK.out _ _ trivial (fun hHeld => ?_); clear hK K; refine norm_ (a' := ?_) ?_ ?_; rotate_left
           ·
            show Act.put _ (some 38) _ = _
            simp only [Act.put,List.setIfInBounds_toArray,List.set_cons_zero,List.set_cons_succ,i64_w,i32_w]; rfl
           refine pure_ (i := 5) (N := some 39) (v := ?_) (a' := ?_) #[true,true,true,true,true,true,true,true,true,true,false,false,false] rfl rfl (any_of HT_.out (by kernel_rfl)) (fun _ _ _ h => h) (Or.inl ⟨by rfl,?_⟩) ?_ ?_; rotate_left
           · intro w'; go_simp; with_reducible rfl
           rotate_left
           · simp only [Act.put,List.setIfInBounds_toArray,List.set_cons_zero,List.set_cons_succ,i64_w,i32_w]; rfl
           refine pure_ (i := 10) (N := some 44) (v := ?_) (a' := ?_) #[true,true,true,true,true,true,true,true,true,true,true,false,false] rfl rfl (any_of HT_.out (by kernel_rfl)) (fun _ _ _ h => h) (Or.inl ⟨by rfl,?_⟩) ?_ ?_; rotate_left
           · intro w'; go_simp; with_reducible rfl
           rotate_left
           · simp only [Act.put,List.setIfInBounds_toArray,List.set_cons_zero,List.set_cons_succ,i64_w,i32_w]; rfl
           refine pure_ (i := 11) (N := some 6) (v := ?_) (a' := ?_) #[true,true,true,true,true,true,true,true,true,true,true,true,false] rfl rfl (any_of HT_.out (by kernel_rfl)) (fun _ _ _ h => h) (Or.inl ⟨by rfl,?_⟩) ?_ ?_; rotate_left
           · intro w'; go_simp; with_reducible rfl
           rotate_left
           · simp only [Act.put,List.setIfInBounds_toArray,List.set_cons_zero,List.set_cons_succ,i64_w,i32_w]; rfl
           refine pure_ (i := 12) (N := some 7) (v := ?_) (a' := ?_) #[true,true,true,true,true,true,true,true,true,true,true,true,true] rfl rfl (any_of HT_.out (by kernel_rfl)) (fun _ _ _ h => h) (Or.inl ⟨by rfl,?_⟩) ?_ ?_; rotate_left
           · intro w'; go_simp; with_reducible rfl
           rotate_left
           · simp only [Act.put,List.setIfInBounds_toArray,List.set_cons_zero,List.set_cons_succ,i64_w,i32_w]; rfl
           refine done_ (done_of HT_.out (by kernel_rfl)) ?_; try go_wp2
           go_ret2
           exact ⟨by first | rfl | (simp [errW_none,errW_some] <;> rfl) | (simp only [← hji17]; first | rfl | (simp [errW_none,errW_some] <;> rfl)) | (simp [*,errW_none,errW_some] <;> rfl),by repeat (first | (with_reducible first | exact HB.out | apply below_alloc | apply pw_below_drewN | apply below_drew1) | exact HB.out)⟩
          · rw [if_neg c20] at H; exact absurd H (by simp)
         · rw [if_neg c19] at H; exact absurd H (by simp)
        · rw [if_neg c18] at H; exact absurd H (by simp)
       · rw [if_neg c16] at H; exact absurd H (by simp)
      · rw [if_neg c14] at H; exact absurd H (by simp)
     · rw [if_neg c11] at H; exact absurd H (by simp)
    · rw [if_neg c10] at H; exact absurd H (by simp)
   ·
    replace c9 := Bool.eq_false_iff.mpr c9; subst c9; have H1 : (some ((⟨#[]⟩ : ByteArray),false)) = some (r1,r2) := by rw [if_neg (show ¬ (false = true) by decide)] at H; exact H
    clear H; have H := H1; clear H1; simp only [Option.some.injEq,Prod.mk.injEq] at H; obtain ⟨rfl,rfl⟩ := H
    go_enter Tryz.func25,Tryz.ntmps25
    go_wp2_with (first | ((with_reducible refine gate_callee (f := 50) rfl ?_); refine goesL_ (some 10) rfl rfl Tryz.func50 (by kernel_rfl) rfl #[.string a0] rfl (by (try simp only [List.map_toArray,List.map_cons,List.map_nil]); first | done | rfl | (simp only [List.length_drop,List.length_take]; rfl)) ?_; (with_reducible refine (spec_piPin.calls k a0 true _ A4.out).mono ?_); rintro e w' ⟨rfl,⟨nd,rfl⟩⟩; refine ⟨_,rfl,?_⟩) | (go_at_call 45; (with_reducible refine (spec_l1In.calls a1 0 (wrap64 ((a0.size : Int) - 1)) true _ A6.out).mono ?_); rintro e w' ⟨rfl,⟨nd,rfl⟩⟩) | (go_at_call 45; (with_reducible refine (spec_l1In.calls a2 (-1000) 1000 false _ A8.out).mono ?_); rintro e w' ⟨rfl,⟨nd,rfl⟩⟩))
    go_ret2
    exact ⟨by first | rfl | (simp [errW_none,errW_some] <;> rfl) | (simp [*,errW_none,errW_some] <;> rfl),by repeat (first | (with_reducible first | exact HB.out | apply below_alloc | apply pw_below_drewN | apply below_drew1) | exact HB.out)⟩
  ·
   replace c7 := Bool.eq_false_iff.mpr c7; subst c7; have H1 : (some ((⟨#[]⟩ : ByteArray),false)) = some (r1,r2) := by rw [if_neg (show ¬ (false = true) by decide)] at H; exact H
   clear H; have H := H1; clear H1; simp only [Option.some.injEq,Prod.mk.injEq] at H; obtain ⟨rfl,rfl⟩ := H
   go_enter Tryz.func25,Tryz.ntmps25
   go_wp2_with (first | ((with_reducible refine gate_callee (f := 50) rfl ?_); refine goesL_ (some 10) rfl rfl Tryz.func50 (by kernel_rfl) rfl #[.string a0] rfl (by (try simp only [List.map_toArray,List.map_cons,List.map_nil]); first | done | rfl | (simp only [List.length_drop,List.length_take]; rfl)) ?_; (with_reducible refine (spec_piPin.calls k a0 true _ A4.out).mono ?_); rintro e w' ⟨rfl,⟨nd,rfl⟩⟩; refine ⟨_,rfl,?_⟩) | (go_at_call 45; (with_reducible refine (spec_l1In.calls a1 0 (wrap64 ((a0.size : Int) - 1)) false _ A6.out).mono ?_); rintro e w' ⟨rfl,⟨nd,rfl⟩⟩))
   go_ret2
   exact ⟨by first | rfl | (simp [errW_none,errW_some] <;> rfl) | (simp [*,errW_none,errW_some] <;> rfl),by repeat (first | (with_reducible first | exact HB.out | apply below_alloc | apply pw_below_drewN | apply below_drew1) | exact HB.out)⟩
 ·
  replace c5 := Bool.eq_false_iff.mpr c5; subst c5; have H1 : (some ((⟨#[]⟩ : ByteArray),false)) = some (r1,r2) := by rw [if_neg (show ¬ (false = true) by decide)] at H; exact H
  clear H; have H := H1; clear H1; simp only [Option.some.injEq,Prod.mk.injEq] at H; obtain ⟨rfl,rfl⟩ := H
  go_enter Tryz.func25,Tryz.ntmps25
  go_wp2_with (first | ((with_reducible refine gate_callee (f := 50) rfl ?_); refine goesL_ (some 10) rfl rfl Tryz.func50 (by kernel_rfl) rfl #[.string a0] rfl (by (try simp only [List.map_toArray,List.map_cons,List.map_nil]); first | done | rfl | (simp only [List.length_drop,List.length_take]; rfl)) ?_; (with_reducible refine (spec_piPin.calls k a0 false _ A4.out).mono ?_); rintro e w' ⟨rfl,⟨nd,rfl⟩⟩; refine ⟨_,rfl,?_⟩))
  go_ret2
  exact ⟨by first | rfl | (simp [errW_none,errW_some] <;> rfl) | (simp [*,errW_none,errW_some] <;> rfl),by repeat (first | (with_reducible first | exact HB.out | apply below_alloc | apply pw_below_drewN | apply below_drew1) | exact HB.out)⟩

end Go.Proofs.YtfhbclfmnliopaaGreatDoor.P

-- printed by xprint.py
namespace Go.Proofs.YtfhbclfmnliopaaGreatDoor.P
open Go.RowKit Go.Proofs.YtfhbclfmnliopaaGreatDoorW.PrintWords Go.Proofs.YtfhbclfmnliopaaGreatDoorW.PrintLast Go.Proofs.YtfhbclfmnliopaaGreatDoorW.PrintMore
attribute [local go_sem] max2_int min2_int max_two min_two max_three min_three max_four min_four   -- for this text's walks alone
set_option linter.unusedVariables false
set_option linter.unusedSimpArgs false

/-! ### spec_l1Most: function 69 -/
def spec_l1Most.f (a0 : Int) (a1 : Int) : Option (Int) := if a0 > a1 then (some a0) else (some a1)
set_option maxHeartbeats 8000000 in
set_option maxRecDepth 100000 in
theorem spec_l1Most.calls (a0 : Int) (a1 : Int) (r : Int) (w : World) (h : spec_l1Most.f a0 a1 = some r) :
  Calls Tryz.prog 69 #[.int .i64 a0,.int .i64 a1] w fun e w' => e = .returned (.int .i64 r) ∧ Drawn0 w w' := by
 have H : (if a0 > a1 then (some a0) else (some a1)) = some r := h; clear h
 by_cases c3 : a0 > a1
 ·
  rw [if_pos c3] at H; have c3b0 : decide (a1 < a0) = true := decide_eq_true c3; clear c3; obtain rfl := Option.some.inj H
  go_enter Tryz.func69,Tryz.ntmps69
  go_wp2
  go_ret
  exact ⟨by first | rfl | (simp; done) | (simp [*]; done),by repeat (first | exact Drawn0.refl _ | apply Drawn0.step)⟩
 ·
  rw [if_neg c3] at H; have c3b0 : decide (a1 < a0) = false := decide_eq_false c3; clear c3; obtain rfl := Option.some.inj H
  go_enter Tryz.func69,Tryz.ntmps69
  go_wp2
  go_ret
  exact ⟨by first | rfl | (simp; done) | (simp [*]; done),by repeat (first | exact Drawn0.refl _ | apply Drawn0.step)⟩

end Go.Proofs.YtfhbclfmnliopaaGreatDoor.P

-- printed by xprint.py
namespace Go.Proofs.YtfhbclfmnliopaaGreatDoor.P
open Go.RowKit Go.Proofs.YtfhbclfmnliopaaGreatDoorW.PrintWords Go.Proofs.YtfhbclfmnliopaaGreatDoorW.PrintLast Go.Proofs.YtfhbclfmnliopaaGreatDoorW.PrintMore
attribute [local go_sem] max2_int min2_int max_two min_two max_three min_three max_four min_four   -- for this text's walks alone
set_option linter.unusedVariables false
set_option linter.unusedSimpArgs false

/-! ### spec_l1Abs: function 51 -/
def spec_l1Abs.f (a0 : Int) : Option (Int) := (spec_l1Most.f a0 (wrap64 (-a0))).bind fun t101 => (some t101)
set_option maxHeartbeats 8000000 in
set_option maxRecDepth 100000 in
theorem spec_l1Abs.calls (a0 : Int) (r : Int) (w : World) (h : spec_l1Abs.f a0 = some r) :
  Calls Tryz.prog 51 #[.int .i64 a0] w fun e w' => e = .returned (.int .i64 r) ∧ Drawn0 w w' := by
 have H : ((spec_l1Most.f a0 (wrap64 (-a0))).bind fun t101 => (some t101)) = some r := h; clear h; replace H := Option.bind_eq_some_iff.mp H; obtain ⟨t101,A20,H⟩ := H; replace H : (some t101) = some r := H; have A2 := Aside0.mk A20; clear A20; obtain rfl := Option.some.inj H
 go_enter Tryz.func51,Tryz.ntmps51
 go_wp2_with (first | ((with_reducible refine gate_callee (f := 69) rfl ?_); refine goesL_ (some 6) rfl rfl Tryz.func69 (by kernel_rfl) rfl #[.int .i64 a0,.int .i64 (wrap64 (-a0))] rfl (by (try simp only [List.map_toArray,List.map_cons,List.map_nil]); first | done | rfl | (simp only [List.length_drop,List.length_take]; rfl)) ?_; (with_reducible refine (spec_l1Most.calls a0 (wrap64 (-a0)) t101 _ A2.out).mono ?_); rintro e w' ⟨rfl,⟨nd,rfl⟩⟩; refine ⟨_,rfl,?_⟩))
 go_ret
 exact ⟨by first | rfl | (simp; done) | (simp [*]; done),by repeat (first | exact Drawn0.refl _ | apply Drawn0.step)⟩

end Go.Proofs.YtfhbclfmnliopaaGreatDoor.P

-- printed by xprint.py
namespace Go.Proofs.YtfhbclfmnliopaaGreatDoor.P
open Go.RowKit Go.Proofs.YtfhbclfmnliopaaGreatDoorW.PrintWords Go.Proofs.YtfhbclfmnliopaaGreatDoorW.PrintLast Go.Proofs.YtfhbclfmnliopaaGreatDoorW.PrintMore
attribute [local go_sem] max2_int min2_int max_two min_two max_three min_three max_four min_four   -- for this text's walks alone
set_option linter.unusedVariables false
set_option linter.unusedSimpArgs false

/-! ### spec_l1Least: function 52 -/
def spec_l1Least.f (a0 : Int) (a1 : Int) : Option (Int) := if a0 < a1 then (some a0) else (some a1)
set_option maxHeartbeats 8000000 in
set_option maxRecDepth 100000 in
theorem spec_l1Least.calls (a0 : Int) (a1 : Int) (r : Int) (w : World) (h : spec_l1Least.f a0 a1 = some r) :
  Calls Tryz.prog 52 #[.int .i64 a0,.int .i64 a1] w fun e w' => e = .returned (.int .i64 r) ∧ Drawn0 w w' := by
 have H : (if a0 < a1 then (some a0) else (some a1)) = some r := h; clear h
 by_cases c3 : a0 < a1
 ·
  rw [if_pos c3] at H; have c3b0 : decide (a0 < a1) = true := decide_eq_true c3; clear c3; obtain rfl := Option.some.inj H
  go_enter Tryz.func52,Tryz.ntmps52
  go_wp2
  go_ret
  exact ⟨by first | rfl | (simp; done) | (simp [*]; done),by repeat (first | exact Drawn0.refl _ | apply Drawn0.step)⟩
 ·
  rw [if_neg c3] at H; have c3b0 : decide (a0 < a1) = false := decide_eq_false c3; clear c3; obtain rfl := Option.some.inj H
  go_enter Tryz.func52,Tryz.ntmps52
  go_wp2
  go_ret
  exact ⟨by first | rfl | (simp; done) | (simp [*]; done),by repeat (first | exact Drawn0.refl _ | apply Drawn0.step)⟩

end Go.Proofs.YtfhbclfmnliopaaGreatDoor.P

-- printed by xprint.py
namespace Go.Proofs.YtfhbclfmnliopaaGreatDoor.P
open Go.RowKit Go.Proofs.YtfhbclfmnliopaaGreatDoorW.PrintWords Go.Proofs.YtfhbclfmnliopaaGreatDoorW.PrintLast Go.Proofs.YtfhbclfmnliopaaGreatDoorW.PrintMore
attribute [local go_sem] max2_int min2_int max_two min_two max_three min_three max_four min_four   -- for this text's walks alone
set_option linter.unusedVariables false
set_option linter.unusedSimpArgs false

/-! ### spec_WheelTurns: function 22 -/
mutual
def spec_WheelTurns.j0 : Nat → ByteArray → ByteArray → Bool → Option (Int × Bool)
 | 0,_,_,_ => none
 | k + 1,x0,x1,x23 => if x23 = true then (some (0,false)) else (spec_WheelTurns.l0 k x0 x1 0 0)
def spec_WheelTurns.l0 : Nat → ByteArray → ByteArray → Int → Int → Option (Int × Bool)
 | 0,_,_,_,_ => none
 | k + 1,x0,x1,x6,x7 => if x7 < (x0.size : Int) then (if 0 ≤ x7 then (if x7 < (x1.size : Int) then ((spec_l1Abs.f (wrap64 ((wrap64 (bt x0 x7)) - (wrap64 (bt x1 x7))))).bind fun t103 => ((spec_l1Least.f t103 (wrap64 (10 - t103))).bind fun t104 => (spec_WheelTurns.l0 k x0 x1 (wrap64 (x6 + t104)) (wrap64 (x7 + 1))))) else (none)) else (none)) else (some (x6,true))
end
def spec_WheelTurns.f (k : Nat) (a0 : ByteArray) (a1 : ByteArray) : Option (Int × Bool) := (spec_piPin.f k a0).bind fun t101 => (if t101 = true then ((spec_piPin.f k a1).bind fun t102 => (if t102 = true then (spec_WheelTurns.j0 k a0 a1 ((a0.size : Int) != (a1.size : Int))) else (spec_WheelTurns.j0 k a0 a1 true))) else (spec_WheelTurns.j0 k a0 a1 true))
theorem spec_WheelTurns.mono_l : ∀ k,(∀ y0 y1 y2,LeO (spec_WheelTurns.j0 k y0 y1 y2) (spec_WheelTurns.j0 (k + 1) y0 y1 y2)) ∧ (∀ y0 y1 y2 y3,LeO (spec_WheelTurns.l0 k y0 y1 y2 y3) (spec_WheelTurns.l0 (k + 1) y0 y1 y2 y3))
 | 0 => ⟨by intros; intro r h; simp [spec_WheelTurns.j0] at h,by intros; intro r h; simp [spec_WheelTurns.l0] at h⟩
 | k + 1 => by
  obtain ⟨ih0,ih1⟩ := spec_WheelTurns.mono_l k; refine ⟨?_,?_⟩
  ·
   intro y0 y1 y2
   unfold spec_WheelTurns.j0
   repeat' first
   | (with_reducible exact ih0 _ _ _)
   | (with_reducible exact ih1 _ _ _ _)
   | (with_reducible exact spec_piPin.mono _ _)
   | (with_reducible exact LeO.refl _)
   | (with_reducible exact LeO.none _)
   | (with_reducible refine LeO.ite ?_ ?_)
   | (with_reducible refine LeO.bind ?_ (fun _ => ?_))
   | exact ih0 _ _ _
   | exact ih1 _ _ _ _
   | exact spec_piPin.mono _ _
   | exact LeO.none _
   | refine LeO.ite ?_ ?_
   | refine LeO.bind ?_ (fun _ => ?_)
  ·
   intro y0 y1 y2 y3
   unfold spec_WheelTurns.l0
   repeat' first
   | (with_reducible exact ih0 _ _ _)
   | (with_reducible exact ih1 _ _ _ _)
   | (with_reducible exact spec_piPin.mono _ _)
   | (with_reducible exact LeO.refl _)
   | (with_reducible exact LeO.none _)
   | (with_reducible refine LeO.ite ?_ ?_)
   | (with_reducible refine LeO.bind ?_ (fun _ => ?_))
   | exact ih0 _ _ _
   | exact ih1 _ _ _ _
   | exact spec_piPin.mono _ _
   | exact LeO.none _
   | refine LeO.ite ?_ ?_
   | refine LeO.bind ?_ (fun _ => ?_)
theorem spec_WheelTurns.mono : ∀ y0 y1 k,LeO (spec_WheelTurns.f k y0 y1) (spec_WheelTurns.f (k + 1) y0 y1) := by
 intro y0 y1 k; obtain ⟨ih0,ih1⟩ := spec_WheelTurns.mono_l k
 unfold spec_WheelTurns.f
 repeat' first
   | (with_reducible exact ih0 _ _ _)
   | (with_reducible exact ih1 _ _ _ _)
   | (with_reducible exact spec_piPin.mono _ _)
   | (with_reducible exact LeO.refl _)
   | (with_reducible exact LeO.none _)
   | (with_reducible refine LeO.ite ?_ ?_)
   | (with_reducible refine LeO.bind ?_ (fun _ => ?_))
   | exact ih0 _ _ _
   | exact ih1 _ _ _ _
   | exact spec_piPin.mono _ _
   | exact LeO.none _
   | refine LeO.ite ?_ ?_
   | refine LeO.bind ?_ (fun _ => ?_)
set_option maxHeartbeats 8000000 in
set_option maxRecDepth 100000 in
theorem spec_WheelTurns.calls (k : Nat) (a0 : ByteArray) (a1 : ByteArray) (r1 : Int) (r2 : Bool) (w : World) (h : spec_WheelTurns.f k a0 a1 = some (r1,r2)) :
  Calls Tryz.prog 22 #[.string a0,.string a1] w fun e w' => e = .returned (.tuple #[.int .i64 r1,.bool r2]) ∧ Drawn0 w w' := by
 have H : ((spec_piPin.f k a0).bind fun t101 => (if t101 = true then ((spec_piPin.f k a1).bind fun t102 => (if t102 = true then (spec_WheelTurns.j0 k a0 a1 ((a0.size : Int) != (a1.size : Int))) else (spec_WheelTurns.j0 k a0 a1 true))) else (spec_WheelTurns.j0 k a0 a1 true))) = some (r1,r2) := h; clear h; have HC3 := Aside0.mk H; clear H
 go_enter Tryz.func22,Tryz.ntmps22
 go_upto_region 1 with (fail)
 repeat (go_quiet (fail); go_upto_region 1 with (fail))
 go_cut [23] (fun v23 wc => ∃ (kq : Nat) (x23_2 : Bool),v23 = .bool x23_2 ∧ Aside0 (spec_WheelTurns.j0 kq a0 a1 x23_2 = some (r1,r2)) ∧ Aside0 (kq ≤ k) ∧ Drawn0 w wc)
 case first =>
  have H := HC3.out; clear HC3; replace H := Option.bind_eq_some_iff.mp H; obtain ⟨t101,A40,H⟩ := H; replace H : (if t101 = true then ((spec_piPin.f k a1).bind fun t102 => (if t102 = true then (spec_WheelTurns.j0 k a0 a1 ((a0.size : Int) != (a1.size : Int))) else (spec_WheelTurns.j0 k a0 a1 true))) else (spec_WheelTurns.j0 k a0 a1 true)) = some (r1,r2) := H; have A4 := Aside0.mk A40; clear A40
  by_cases c5 : t101 = true
  ·
   subst c5; have H1 : ((spec_piPin.f k a1).bind fun t102 => (if t102 = true then (spec_WheelTurns.j0 k a0 a1 ((a0.size : Int) != (a1.size : Int))) else (spec_WheelTurns.j0 k a0 a1 true))) = some (r1,r2) := by rw [if_pos rfl] at H; exact H
   clear H; have H := H1; clear H1; replace H := Option.bind_eq_some_iff.mp H; obtain ⟨t102,A60,H⟩ := H; replace H : (if t102 = true then (spec_WheelTurns.j0 k a0 a1 ((a0.size : Int) != (a1.size : Int))) else (spec_WheelTurns.j0 k a0 a1 true)) = some (r1,r2) := H; have A6 := Aside0.mk A60; clear A60
   by_cases c7 : t102 = true
   ·
    subst c7; have H1 : (spec_WheelTurns.j0 k a0 a1 ((a0.size : Int) != (a1.size : Int))) = some (r1,r2) := by rw [if_pos rfl] at H; exact H
    clear H; have H := H1; clear H1; have H' := Aside0.mk H; clear H; go_wp2_with (first | (go_at_call 50; (with_reducible refine (spec_piPin.calls k a0 true _ A4.out).mono ?_); rintro e w' ⟨rfl,⟨nd,rfl⟩⟩; (try first | exact ⟨rfl,_,World.drewN_drewN _ _ _⟩ | exact ⟨rfl,_,Eq.trans (World.drewN_drewN _ _ _) (congrArg (World.drewN _) (Nat.add_assoc _ _ _))⟩)) | (go_at_call 50; (with_reducible refine (spec_piPin.calls k a1 true _ A6.out).mono ?_); rintro e w' ⟨rfl,⟨nd,rfl⟩⟩; (try first | exact ⟨rfl,_,World.drewN_drewN _ _ _⟩ | exact ⟨rfl,_,Eq.trans (World.drewN_drewN _ _ _) (congrArg (World.drewN _) (Nat.add_assoc _ _ _))⟩)))
    repeat (go_quiet (first | (go_at_call 50; (with_reducible refine (spec_piPin.calls k a0 true _ A4.out).mono ?_); rintro e w' ⟨rfl,⟨nd,rfl⟩⟩; (try first | exact ⟨rfl,_,World.drewN_drewN _ _ _⟩ | exact ⟨rfl,_,Eq.trans (World.drewN_drewN _ _ _) (congrArg (World.drewN _) (Nat.add_assoc _ _ _))⟩)) | (go_at_call 50; (with_reducible refine (spec_piPin.calls k a1 true _ A6.out).mono ?_); rintro e w' ⟨rfl,⟨nd,rfl⟩⟩; (try first | exact ⟨rfl,_,World.drewN_drewN _ _ _⟩ | exact ⟨rfl,_,Eq.trans (World.drewN_drewN _ _ _) (congrArg (World.drewN _) (Nat.add_assoc _ _ _))⟩))); try go_wp2_with (first | (go_at_call 50; (with_reducible refine (spec_piPin.calls k a0 true _ A4.out).mono ?_); rintro e w' ⟨rfl,⟨nd,rfl⟩⟩; (try first | exact ⟨rfl,_,World.drewN_drewN _ _ _⟩ | exact ⟨rfl,_,Eq.trans (World.drewN_drewN _ _ _) (congrArg (World.drewN _) (Nat.add_assoc _ _ _))⟩)) | (go_at_call 50; (with_reducible refine (spec_piPin.calls k a1 true _ A6.out).mono ?_); rintro e w' ⟨rfl,⟨nd,rfl⟩⟩; (try first | exact ⟨rfl,_,World.drewN_drewN _ _ _⟩ | exact ⟨rfl,_,Eq.trans (World.drewN_drewN _ _ _) (congrArg (World.drewN _) (Nat.add_assoc _ _ _))⟩))))
    go_meet
    case rel => exact ⟨_,(((a0.size : Int) != (a1.size : Int))),(by first | rfl | (simp; done) | (simp [*]; done)),H',⟨by first | omega | exact Nat.le_refl _⟩,by repeat (first | exact Drawn0.refl _ | apply Drawn0.step)⟩
   ·
    replace c7 := Bool.eq_false_iff.mpr c7; subst c7; have H1 : (spec_WheelTurns.j0 k a0 a1 true) = some (r1,r2) := by rw [if_neg (show ¬ (false = true) by decide)] at H; exact H
    clear H; have H := H1; clear H1; have H' := Aside0.mk H; clear H; go_wp2_with (first | (go_at_call 50; (with_reducible refine (spec_piPin.calls k a0 true _ A4.out).mono ?_); rintro e w' ⟨rfl,⟨nd,rfl⟩⟩; (try first | exact ⟨rfl,_,World.drewN_drewN _ _ _⟩ | exact ⟨rfl,_,Eq.trans (World.drewN_drewN _ _ _) (congrArg (World.drewN _) (Nat.add_assoc _ _ _))⟩)) | (go_at_call 50; (with_reducible refine (spec_piPin.calls k a1 false _ A6.out).mono ?_); rintro e w' ⟨rfl,⟨nd,rfl⟩⟩; (try first | exact ⟨rfl,_,World.drewN_drewN _ _ _⟩ | exact ⟨rfl,_,Eq.trans (World.drewN_drewN _ _ _) (congrArg (World.drewN _) (Nat.add_assoc _ _ _))⟩)))
    repeat (go_quiet (first | (go_at_call 50; (with_reducible refine (spec_piPin.calls k a0 true _ A4.out).mono ?_); rintro e w' ⟨rfl,⟨nd,rfl⟩⟩; (try first | exact ⟨rfl,_,World.drewN_drewN _ _ _⟩ | exact ⟨rfl,_,Eq.trans (World.drewN_drewN _ _ _) (congrArg (World.drewN _) (Nat.add_assoc _ _ _))⟩)) | (go_at_call 50; (with_reducible refine (spec_piPin.calls k a1 false _ A6.out).mono ?_); rintro e w' ⟨rfl,⟨nd,rfl⟩⟩; (try first | exact ⟨rfl,_,World.drewN_drewN _ _ _⟩ | exact ⟨rfl,_,Eq.trans (World.drewN_drewN _ _ _) (congrArg (World.drewN _) (Nat.add_assoc _ _ _))⟩))); try go_wp2_with (first | (go_at_call 50; (with_reducible refine (spec_piPin.calls k a0 true _ A4.out).mono ?_); rintro e w' ⟨rfl,⟨nd,rfl⟩⟩; (try first | exact ⟨rfl,_,World.drewN_drewN _ _ _⟩ | exact ⟨rfl,_,Eq.trans (World.drewN_drewN _ _ _) (congrArg (World.drewN _) (Nat.add_assoc _ _ _))⟩)) | (go_at_call 50; (with_reducible refine (spec_piPin.calls k a1 false _ A6.out).mono ?_); rintro e w' ⟨rfl,⟨nd,rfl⟩⟩; (try first | exact ⟨rfl,_,World.drewN_drewN _ _ _⟩ | exact ⟨rfl,_,Eq.trans (World.drewN_drewN _ _ _) (congrArg (World.drewN _) (Nat.add_assoc _ _ _))⟩))))
    go_meet
    case rel => exact ⟨_,(true),(by first | rfl | (simp; done) | (simp [*]; done)),H',⟨by first | omega | exact Nat.le_refl _⟩,by repeat (first | exact Drawn0.refl _ | apply Drawn0.step)⟩
  ·
   replace c5 := Bool.eq_false_iff.mpr c5; subst c5; have H1 : (spec_WheelTurns.j0 k a0 a1 true) = some (r1,r2) := by rw [if_neg (show ¬ (false = true) by decide)] at H; exact H
   clear H; have H := H1; clear H1; have H' := Aside0.mk H; clear H; go_wp2_with (first | (go_at_call 50; (with_reducible refine (spec_piPin.calls k a0 false _ A4.out).mono ?_); rintro e w' ⟨rfl,⟨nd,rfl⟩⟩; (try first | exact ⟨rfl,_,World.drewN_drewN _ _ _⟩ | exact ⟨rfl,_,Eq.trans (World.drewN_drewN _ _ _) (congrArg (World.drewN _) (Nat.add_assoc _ _ _))⟩)))
   repeat (go_quiet (first | (go_at_call 50; (with_reducible refine (spec_piPin.calls k a0 false _ A4.out).mono ?_); rintro e w' ⟨rfl,⟨nd,rfl⟩⟩; (try first | exact ⟨rfl,_,World.drewN_drewN _ _ _⟩ | exact ⟨rfl,_,Eq.trans (World.drewN_drewN _ _ _) (congrArg (World.drewN _) (Nat.add_assoc _ _ _))⟩))); try go_wp2_with (first | (go_at_call 50; (with_reducible refine (spec_piPin.calls k a0 false _ A4.out).mono ?_); rintro e w' ⟨rfl,⟨nd,rfl⟩⟩; (try first | exact ⟨rfl,_,World.drewN_drewN _ _ _⟩ | exact ⟨rfl,_,Eq.trans (World.drewN_drewN _ _ _) (congrArg (World.drewN _) (Nat.add_assoc _ _ _))⟩))))
   go_meet
   case rel => exact ⟨_,(true),(by first | rfl | (simp; done) | (simp [*]; done)),H',⟨by first | omega | exact Nat.le_refl _⟩,by repeat (first | exact Drawn0.refl _ | apply Drawn0.step)⟩
 case rest =>
  clear HC3; try clear c2
  try clear p2
  try clear c5
  try clear c7
  obtain ⟨kq,x23_2,rfl,HA,HJ2,⟨mc2,rfl⟩⟩ := hcut
  cases kq with
  | zero => exact absurd HA.out (by simp [spec_WheelTurns.j0])
  | succ kj2 =>
   have H := HA.out; clear HA; simp only [spec_WheelTurns.j0] at H
   by_cases c8 : x23_2 = true
   ·
    subst c8; have H1 : (some (0,false)) = some (r1,r2) := by rw [if_pos rfl] at H; exact H
    clear H; have H := H1; clear H1; simp only [Option.some.injEq,Prod.mk.injEq] at H; obtain ⟨rfl,rfl⟩ := H; go_wp2
    repeat (go_quiet (fail); try go_wp2)
    go_ret2
    exact ⟨by first | rfl | (simp; done) | (simp [*]; done),by repeat (first | exact Drawn0.refl _ | apply Drawn0.step)⟩
   ·
    replace c8 := Bool.eq_false_iff.mpr c8; subst c8; have H1 : (spec_WheelTurns.l0 kj2 a0 a1 0 0) = some (r1,r2) := by rw [if_neg (show ¬ (false = true) by decide)] at H; exact H
    clear H; have H := H1; clear H1; have H' := Aside0.mk H; clear H; go_wp2
    repeat (go_quiet (fail); try go_wp2)
    go_loopg [6,7] kj2 (fun kq v6 v7 w' => ∃ (x6_2 : Int) (x7_2 : Int),v6 = .int .i64 x6_2 ∧ v7 = .int .i64 x7_2 ∧ Aside0 (spec_WheelTurns.l0 kq a0 a1 x6_2 x7_2 = some (r1,r2)) ∧ Aside0 (kq ≤ kj2) ∧ Drawn0 w w')
    case atStart => exact ⟨(0),(0),(by first | rfl | (simp; done) | (simp [*]; done)),(by first | rfl | (simp; done) | (simp [*]; done)),H',⟨Nat.le_refl _⟩,by repeat (first | exact Drawn0.refl _ | apply Drawn0.step)⟩
    case round =>
     clear H'; try clear c2
     try clear p2
     try clear c5
     try clear c7
     try clear c8
     try clear p2
     obtain ⟨x6_2,x7_2,rfl,rfl,HA,HK2,⟨m2,rfl⟩⟩ := hrel
     cases gk with
     | zero => exact absurd HA.out (by simp [spec_WheelTurns.l0])
     | succ k2 =>
      have H := HA.out; clear HA; simp only [spec_WheelTurns.l0] at H
      by_cases c9 : x7_2 < (a0.size : Int)
      ·
       rw [if_pos c9] at H; have c9b0 : decide (x7_2 < (a0.size : Int)) = true := decide_eq_true c9; clear c9
       by_cases c10 : 0 ≤ x7_2
       ·
        rw [if_pos c10] at H; have c10b0 : decide (0 ≤ x7_2) = true := decide_eq_true c10; clear c10
        by_cases c12 : x7_2 < (a1.size : Int)
        ·
         rw [if_pos c12] at H; have c12b0 : decide (x7_2 < (a1.size : Int)) = true := decide_eq_true c12; clear c12; replace H := Option.bind_eq_some_iff.mp H; obtain ⟨t103,A140,H⟩ := H; replace H : ((spec_l1Least.f t103 (wrap64 (10 - t103))).bind fun t104 => (spec_WheelTurns.l0 k2 a0 a1 (wrap64 (x6_2 + t104)) (wrap64 (x7_2 + 1)))) = some (r1,r2) := H; have A14 := Aside0.mk A140; clear A140; replace H := Option.bind_eq_some_iff.mp H; obtain ⟨t104,A150,H⟩ := H; replace H : (spec_WheelTurns.l0 k2 a0 a1 (wrap64 (x6_2 + t104)) (wrap64 (x7_2 + 1))) = some (r1,r2) := H; have A15 := Aside0.mk A150; clear A150; have H' := Aside0.mk H; clear H; have p11 : 0 ≤ (x7_2 : Int) := of_decide_eq_true (by first | (with_reducible assumption) | assumption); have q11 : x7_2 < (a0.size : Int) := of_decide_eq_true (by first | (with_reducible assumption) | assumption); have hx11 := bt_at a0 x7_2; replace p11 := eq_true p11; replace q11 := eq_true q11; have p13 : 0 ≤ (x7_2 : Int) := of_decide_eq_true (by first | (with_reducible assumption) | assumption); have q13 : x7_2 < (a1.size : Int) := of_decide_eq_true (by first | (with_reducible assumption) | assumption); have hx13 := bt_at a1 x7_2; replace p13 := eq_true p13; replace q13 := eq_true q13; go_wp2_with (first | (go_at_call 51; (with_reducible refine (spec_l1Abs.calls (wrap64 ((wrap64 (bt a0 x7_2)) - (wrap64 (bt a1 x7_2)))) t103 _ A14.out).mono ?_); rintro e w' ⟨rfl,⟨nd,rfl⟩⟩; (try first | exact ⟨rfl,_,World.drewN_drewN _ _ _⟩ | exact ⟨rfl,_,Eq.trans (World.drewN_drewN _ _ _) (congrArg (World.drewN _) (Nat.add_assoc _ _ _))⟩)) | (go_at_call 52; (with_reducible refine (spec_l1Least.calls t103 (wrap64 (10 - t103)) t104 _ A15.out).mono ?_); rintro e w' ⟨rfl,⟨nd,rfl⟩⟩; (try first | exact ⟨rfl,_,World.drewN_drewN _ _ _⟩ | exact ⟨rfl,_,Eq.trans (World.drewN_drewN _ _ _) (congrArg (World.drewN _) (Nat.add_assoc _ _ _))⟩)))
         repeat (go_quiet (first | (go_at_call 51; (with_reducible refine (spec_l1Abs.calls (wrap64 ((wrap64 (bt a0 x7_2)) - (wrap64 (bt a1 x7_2)))) t103 _ A14.out).mono ?_); rintro e w' ⟨rfl,⟨nd,rfl⟩⟩; (try first | exact ⟨rfl,_,World.drewN_drewN _ _ _⟩ | exact ⟨rfl,_,Eq.trans (World.drewN_drewN _ _ _) (congrArg (World.drewN _) (Nat.add_assoc _ _ _))⟩)) | (go_at_call 52; (with_reducible refine (spec_l1Least.calls t103 (wrap64 (10 - t103)) t104 _ A15.out).mono ?_); rintro e w' ⟨rfl,⟨nd,rfl⟩⟩; (try first | exact ⟨rfl,_,World.drewN_drewN _ _ _⟩ | exact ⟨rfl,_,Eq.trans (World.drewN_drewN _ _ _) (congrArg (World.drewN _) (Nat.add_assoc _ _ _))⟩))); try go_wp2_with (first | (go_at_call 51; (with_reducible refine (spec_l1Abs.calls (wrap64 ((wrap64 (bt a0 x7_2)) - (wrap64 (bt a1 x7_2)))) t103 _ A14.out).mono ?_); rintro e w' ⟨rfl,⟨nd,rfl⟩⟩; (try first | exact ⟨rfl,_,World.drewN_drewN _ _ _⟩ | exact ⟨rfl,_,Eq.trans (World.drewN_drewN _ _ _) (congrArg (World.drewN _) (Nat.add_assoc _ _ _))⟩)) | (go_at_call 52; (with_reducible refine (spec_l1Least.calls t103 (wrap64 (10 - t103)) t104 _ A15.out).mono ?_); rintro e w' ⟨rfl,⟨nd,rfl⟩⟩; (try first | exact ⟨rfl,_,World.drewN_drewN _ _ _⟩ | exact ⟨rfl,_,Eq.trans (World.drewN_drewN _ _ _) (congrArg (World.drewN _) (Nat.add_assoc _ _ _))⟩))))
         go_roundg k2
         case measure => have := HJ2.out; have := HK2.out; omega
         case rel => exact ⟨(wrap64 (x6_2 + t104)),(wrap64 (x7_2 + 1)),(by first | rfl | (simp; done) | (simp [*]; done)),(by first | rfl | (simp; done) | (simp [*]; done)),H',⟨by have := HJ2.out; have := HK2.out; omega⟩,by repeat (first | exact Drawn0.refl _ | apply Drawn0.step)⟩
        · rw [if_neg c12] at H; exact absurd H (by simp)
       · rw [if_neg c10] at H; exact absurd H (by simp)
      ·
       rw [if_neg c9] at H; have c9b0 : decide (x7_2 < (a0.size : Int)) = false := decide_eq_false c9; clear c9; simp only [Option.some.injEq,Prod.mk.injEq] at H; obtain ⟨rfl,rfl⟩ := H; go_wp2
       repeat (go_quiet (fail); try go_wp2)
       go_ret2
       exact ⟨by first | rfl | (simp; done) | (simp [*]; done),by repeat (first | exact Drawn0.refl _ | apply Drawn0.step)⟩

end Go.Proofs.YtfhbclfmnliopaaGreatDoor.P

