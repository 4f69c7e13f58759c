/- Part 2 of 2 of the proof of: FnExactCountRightSaid: the law 'FnExactCountRight' answers true for every input, and leaves its arguments as they were. The row, over the walk of its calls and the pure statement. -/
import Derived.Test.YtlkpilmcakeadaaMFnExactCountRight1
import Derived.Test.YtlkpilmcakeadaaWWords
import Derived.Test.YtlkpilmcakeadaaWMore
import Derived.Shelf.Abstract
import Derived.WalkKit
import Derived.ProofKit
import Derived.OpenShut
import Derived.ShutString
import Derived.ChangeOld
import Derived.Below
import Derived.SizedLaws
import Derived.ChangeSlices
import Derived.SliceStrings
import Derived.Lib.SmallJoins
import Derived.LaidLaws
import Derived.LaidHandle
import Derived.LaidMore
import Derived.Test.YtlkpilmcakeadaaRows
-- printed by xprint.py
namespace Go.Proofs.Ytlkpilmcakeadaa.P
open Go.RowKit Go.Proofs.YtlkpilmcakeadaaW.PrintWords Go.Proofs.YtlkpilmcakeadaaW.PrintLast Go.Proofs.YtlkpilmcakeadaaW.PrintMore
attribute [local go_sem] max2_int min2_int max_two min_two max_three min_three max_four min_four   -- for this text's walks alone
set_option linter.unusedVariables false
set_option linter.unusedSimpArgs false

/-! ### laws_FnExactCountRight: function 5 -/
def laws_FnExactCountRight.j0 : Nat → Bool → Int → List Int → Int → List Int → Option (Bool)
 | 0, _, _, _, _, _ => none
 | k + 1, x34, x102000, x102001, x114000, x114001 => if x34 = true then (some false) else ((laws_toScheme.f k x102000 x102001).bind fun bt116 => ((laws_eqScheme.f k x114000 x114001 bt116.1 bt116.2).bind fun t120 => (if t120 = true then (some true) else (some false))))
def laws_FnExactCountRight.f (k : Nat) (a0_0 : Int) (l0_1 : List Int) : Option (Bool) := (laws_szScheme.f a0_0 l0_1 1048576).bind fun t102 => (if t102 < 0 then (some true) else ((laws_toScheme.f k a0_0 l0_1).bind fun bt103 => ((spec_CountRight.f k bt103.1 bt103.2).bind fun bt107 => ((laws_toScheme.f k a0_0 l0_1).bind fun bt109 => ((impl_CountRight.f k bt109.1 bt109.2).bind fun bt114 => (if bt114.1 = bt107.1 then (laws_FnExactCountRight.j0 k (bt114.2 != bt107.2) a0_0 l0_1 bt109.1 bt109.2) else (laws_FnExactCountRight.j0 k true a0_0 l0_1 bt109.1 bt109.2)))))))
theorem laws_FnExactCountRight.mono_l : ∀ k, (∀ y0 y1 y2 y3 y4, LeO (laws_FnExactCountRight.j0 k y0 y1 y2 y3 y4) (laws_FnExactCountRight.j0 (k + 1) y0 y1 y2 y3 y4))
 | 0 => by intros; intro r h; simp [laws_FnExactCountRight.j0] at h
 | k + 1 => by
  have ih0 := laws_FnExactCountRight.mono_l k
  ·
   intro y0 y1 y2 y3 y4
   unfold laws_FnExactCountRight.j0
   repeat' first
   | (with_reducible exact ih0 _ _ _ _ _)
   | (with_reducible exact impl_CountRight.mono _ _ _)
   | (with_reducible exact laws_eqScheme.mono _ _ _ _ _)
   | (with_reducible exact laws_toScheme.mono _ _ _)
   | (with_reducible exact spec_CountRight.mono _ _ _)
   | (with_reducible exact LeO.refl _)
   | (with_reducible exact LeO.none _)
   | (with_reducible refine LeO.ite ?_ ?_)
   | (with_reducible refine LeO.bind ?_ (fun _ => ?_))
   | exact ih0 _ _ _ _ _
   | exact impl_CountRight.mono _ _ _
   | exact laws_eqScheme.mono _ _ _ _ _
   | exact laws_toScheme.mono _ _ _
   | exact spec_CountRight.mono _ _ _
   | exact LeO.none _
   | refine LeO.ite ?_ ?_
   | refine LeO.bind ?_ (fun _ => ?_)
theorem laws_FnExactCountRight.mono : ∀ y0 y1 k, LeO (laws_FnExactCountRight.f k y0 y1) (laws_FnExactCountRight.f (k + 1) y0 y1) := by
 intro y0 y1 k
 have ih0 := laws_FnExactCountRight.mono_l k
 unfold laws_FnExactCountRight.f
 repeat' first
   | (with_reducible exact ih0 _ _ _ _ _)
   | (with_reducible exact impl_CountRight.mono _ _ _)
   | (with_reducible exact laws_eqScheme.mono _ _ _ _ _)
   | (with_reducible exact laws_toScheme.mono _ _ _)
   | (with_reducible exact spec_CountRight.mono _ _ _)
   | (with_reducible exact LeO.refl _)
   | (with_reducible exact LeO.none _)
   | (with_reducible refine LeO.ite ?_ ?_)
   | (with_reducible refine LeO.bind ?_ (fun _ => ?_))
   | exact ih0 _ _ _ _ _
   | exact impl_CountRight.mono _ _ _
   | exact laws_eqScheme.mono _ _ _ _ _
   | exact laws_toScheme.mono _ _ _
   | exact spec_CountRight.mono _ _ _
   | exact LeO.none _
   | refine LeO.ite ?_ ?_
   | refine LeO.bind ?_ (fun _ => ?_)
set_option maxHeartbeats 8000000 in
set_option maxRecDepth 100000 in
theorem laws_FnExactCountRight.calls (k : Nat) (a0_0 : Int) (A0_1 : Option Addr) (c0_1 : Nat) (l0_1 : List Int) (r : Bool) (w : World) (hr0_1 : Kd.C (Kd.int .i64) w A0_1 l0_1.length l0_1) (hc0_1 : l0_1.length ≤ c0_1) (h : laws_FnExactCountRight.f k a0_0 l0_1 = some r) :
  Calls Try.prog 5 #[.agg #[.int .i64 a0_0, .slice A0_1 l0_1.length c0_1]] w fun e w' => e = .returned (.bool r) ∧ Below w.heap.size w w' := by
 have hu29 := Try.underlying29
 have hu33 := Try.underlying33
 have HR0_1 := Aside0.mk hr0_1
 have HC0_1 := Aside0.mk hc0_1
 clear hr0_1 hc0_1
 have HB := Aside0.mk (Below.refl w.heap.size w)
 have H : ((laws_szScheme.f a0_0 l0_1 1048576).bind fun t102 => (if t102 < 0 then (some true) else ((laws_toScheme.f k a0_0 l0_1).bind fun bt103 => ((spec_CountRight.f k bt103.1 bt103.2).bind fun bt107 => ((laws_toScheme.f k a0_0 l0_1).bind fun bt109 => ((impl_CountRight.f k bt109.1 bt109.2).bind fun bt114 => (if bt114.1 = bt107.1 then (laws_FnExactCountRight.j0 k (bt114.2 != bt107.2) a0_0 l0_1 bt109.1 bt109.2) else (laws_FnExactCountRight.j0 k true a0_0 l0_1 bt109.1 bt109.2)))))))) = some r := h
 clear h
 replace H := Option.bind_eq_some_iff.mp H
 obtain ⟨t102, A20, H⟩ := H
 replace H : (if t102 < 0 then (some true) else ((laws_toScheme.f k a0_0 l0_1).bind fun bt103 => ((spec_CountRight.f k bt103.1 bt103.2).bind fun bt107 => ((laws_toScheme.f k a0_0 l0_1).bind fun bt109 => ((impl_CountRight.f k bt109.1 bt109.2).bind fun bt114 => (if bt114.1 = bt107.1 then (laws_FnExactCountRight.j0 k (bt114.2 != bt107.2) a0_0 l0_1 bt109.1 bt109.2) else (laws_FnExactCountRight.j0 k true a0_0 l0_1 bt109.1 bt109.2))))))) = some r := H
 have A2 := Aside0.mk A20
 clear A20
 by_cases c3 : t102 < 0
 ·
  rw [if_pos c3] at H
  have c3b0 : decide (t102 < 0) = true := decide_eq_true c3
  clear c3
  obtain rfl := Option.some.inj H
  go_enter Try.func5, Try.ntmps5
  go_wp2_with (first | ((with_reducible refine gate_dst (N := 1) rfl ?_); refine box_event ?hg (N := 1) ?hd (cs := #[.int .i64 a0_0, .slice A0_1 l0_1.length c0_1]) (t := 29) ?hr ?_; (case hd => rfl); (case hg => rfl); (case hr => first | (go_simp; done) | (go_simp; rfl)); intro gb101 hg w4 hbox hb; have n0_ := Aside0.mk (below_step (by repeat (first | (with_reducible first | exact HB.out | apply below_alloc | apply pw_below_drewN | apply below_drew1) | exact HB.out)) hb); have n1_ := Aside0.mk (hbox); have n2_ := Aside0.mk ((by rw [hg]; exact (below_size (by repeat (first | (with_reducible first | exact HB.out | apply below_alloc | apply pw_below_drewN | apply below_drew1) | exact HB.out))) : w.heap.size ≤ gb101)); have n3_ := Aside0.mk ((by rw [hg]; exact (below_size (by repeat (first | (with_reducible first | exact HB.out | apply below_alloc | apply pw_below_drewN | apply below_drew1) | exact HB.out))) : w.heap.size ≤ gb101)); clear HB; have HB := n0_; have BK101 := n1_; have GW101 := n2_; have GE101 := n3_; clear n0_ n1_ n2_ n3_; clear hb hbox hg; have hcz5_0 : w4.cell? ⟨gb101, 0, none⟩ = some (.int .i64 a0_0) := (blk_cell BK101.out 0).trans rfl; have hcz5_1 : w4.cell? ⟨gb101, 1, none⟩ = some (.slice A0_1 l0_1.length c0_1) := (blk_cell BK101.out 1).trans rfl; have hfz5_0 := blk_frozen BK101.out 0; have hfz5_1 := blk_frozen BK101.out 1) | ((with_reducible refine gate_callee (f := 13) rfl ?_); refine goesL_ (some 11) rfl rfl Try.func13 (by kernel_rfl) rfl #[.agg #[.int .i64 a0_0, .slice A0_1 l0_1.length c0_1], .int .i64 1048576] rfl (by (try simp only [List.map_toArray, List.map_cons, List.map_nil]); first | done | rfl | (simp only [List.length_drop, List.length_take]; rfl)) ?_; (with_reducible refine (laws_szScheme.calls a0_0 _ _ l0_1 1048576 t102 _ ?side1 ?side2 A2.out).mono ?_); (case side1 => repeat (first | exact (Kd.C_below HR0_1.out HB.out) | (with_reducible refine Kd.C_alloc ?_ _) | (with_reducible refine Kd.C_drewN ?_ _) | (with_reducible refine Kd.C_drew ?_))); (case side2 => exact HC0_1.out); rintro e w6 ⟨rfl, hb⟩; refine ⟨_, rfl, ?_⟩; have n0_ := Aside0.mk (blk_below (g := gb101) (o := .cells #[.int .i64 a0_0, .slice A0_1 l0_1.length c0_1] 29 (0, 0)) (by (with_reducible repeat (first | refine blk_drewN ?_ _ | refine blk_drew ?_ | refine blk_alloc ?_ _)); exact BK101.out) hb); have n1_ := Aside0.mk (below_step (by repeat (first | (with_reducible first | exact HB.out | apply below_alloc | apply pw_below_drewN | apply below_drew1 | refine below_set ?_ GE101.out) | exact HB.out)) hb); clear BK101; clear HB; have BK101 := n0_; have HB := n1_; clear n0_ n1_; (try clear hb); (try clear hb2); (try clear hk); (try clear hi)))
  go_ret
  exact ⟨by first | rfl | (simp [errW_none, errW_some] <;> rfl) | (simp [*, errW_none, errW_some] <;> rfl), by repeat (first | (with_reducible first | exact HB.out | apply below_alloc | apply pw_below_drewN | apply below_drew1 | refine below_set ?_ GE101.out) | exact HB.out)⟩
 ·
  rw [if_neg c3] at H
  have c3b0 : decide (t102 < 0) = false := decide_eq_false c3
  clear c3
  replace H := Option.bind_eq_some_iff.mp H
  obtain ⟨⟨t103, t104⟩, A70, H⟩ := H
  replace H : ((spec_CountRight.f k t103 t104).bind fun bt107 => ((laws_toScheme.f k a0_0 l0_1).bind fun bt109 => ((impl_CountRight.f k bt109.1 bt109.2).bind fun bt114 => (if bt114.1 = bt107.1 then (laws_FnExactCountRight.j0 k (bt114.2 != bt107.2) a0_0 l0_1 bt109.1 bt109.2) else (laws_FnExactCountRight.j0 k true a0_0 l0_1 bt109.1 bt109.2))))) = some r := H
  have A7 := Aside0.mk A70
  clear A70
  replace H := Option.bind_eq_some_iff.mp H
  obtain ⟨⟨t107, t108⟩, A80, H⟩ := H
  replace H : ((laws_toScheme.f k a0_0 l0_1).bind fun bt109 => ((impl_CountRight.f k bt109.1 bt109.2).bind fun bt114 => (if bt114.1 = t107 then (laws_FnExactCountRight.j0 k (bt114.2 != t108) a0_0 l0_1 bt109.1 bt109.2) else (laws_FnExactCountRight.j0 k true a0_0 l0_1 bt109.1 bt109.2)))) = some r := H
  have A8 := Aside0.mk A80
  clear A80
  replace H := Option.bind_eq_some_iff.mp H
  obtain ⟨⟨t109, t110⟩, A90, H⟩ := H
  replace H : ((impl_CountRight.f k t109 t110).bind fun bt114 => (if bt114.1 = t107 then (laws_FnExactCountRight.j0 k (bt114.2 != t108) a0_0 l0_1 t109 t110) else (laws_FnExactCountRight.j0 k true a0_0 l0_1 t109 t110))) = some r := H
  have A9 := Aside0.mk A90
  clear A90
  replace H := Option.bind_eq_some_iff.mp H
  obtain ⟨⟨t114, t115⟩, A100, H⟩ := H
  replace H : (if t114 = t107 then (laws_FnExactCountRight.j0 k (t115 != t108) a0_0 l0_1 t109 t110) else (laws_FnExactCountRight.j0 k true a0_0 l0_1 t109 t110)) = some r := H
  have A10 := Aside0.mk A100
  clear A100
  have HC11 := Aside0.mk H
  clear H
  go_enter Try.func5, Try.ntmps5
  go_upto_region 8 with (first | ((with_reducible refine gate_dst (N := 1) rfl ?_); refine box_event ?hg (N := 1) ?hd (cs := #[.int .i64 a0_0, .slice A0_1 l0_1.length c0_1]) (t := 29) ?hr ?_; (case hd => rfl); (case hg => rfl); (case hr => first | (go_simp; done) | (go_simp; rfl)); intro gb101 hg w12 hbox hb; have n0_ := Aside0.mk (below_step (by repeat (first | (with_reducible first | exact HB.out | apply below_alloc | apply pw_below_drewN | apply below_drew1) | exact HB.out)) hb); have n1_ := Aside0.mk (hbox); have n2_ := Aside0.mk ((by rw [hg]; exact (below_size (by repeat (first | (with_reducible first | exact HB.out | apply below_alloc | apply pw_below_drewN | apply below_drew1) | exact HB.out))) : w.heap.size ≤ gb101)); have n3_ := Aside0.mk ((by rw [hg]; exact (below_size (by repeat (first | (with_reducible first | exact HB.out | apply below_alloc | apply pw_below_drewN | apply below_drew1) | exact HB.out))) : w.heap.size ≤ gb101)); clear HB; have HB := n0_; have BK101 := n1_; have GW101 := n2_; have GE101 := n3_; clear n0_ n1_ n2_ n3_; clear hb hbox hg; have hcz13_0 : w12.cell? ⟨gb101, 0, none⟩ = some (.int .i64 a0_0) := (blk_cell BK101.out 0).trans rfl; have hcz13_1 : w12.cell? ⟨gb101, 1, none⟩ = some (.slice A0_1 l0_1.length c0_1) := (blk_cell BK101.out 1).trans rfl; have hfz13_0 := blk_frozen BK101.out 0; have hfz13_1 := blk_frozen BK101.out 1) | ((with_reducible refine gate_callee (f := 13) rfl ?_); refine goesL_ (some 11) rfl rfl Try.func13 (by kernel_rfl) rfl #[.agg #[.int .i64 a0_0, .slice A0_1 l0_1.length c0_1], .int .i64 1048576] rfl (by (try simp only [List.map_toArray, List.map_cons, List.map_nil]); first | done | rfl | (simp only [List.length_drop, List.length_take]; rfl)) ?_; (with_reducible refine (laws_szScheme.calls a0_0 _ _ l0_1 1048576 t102 _ ?side1 ?side2 A2.out).mono ?_); (case side1 => repeat (first | exact (Kd.C_below HR0_1.out HB.out) | (with_reducible refine Kd.C_alloc ?_ _) | (with_reducible refine Kd.C_drewN ?_ _) | (with_reducible refine Kd.C_drew ?_))); (case side2 => exact HC0_1.out); rintro e w14 ⟨rfl, hb⟩; refine ⟨_, rfl, ?_⟩; have n0_ := Aside0.mk (blk_below (g := gb101) (o := .cells #[.int .i64 a0_0, .slice A0_1 l0_1.length c0_1] 29 (0, 0)) (by (with_reducible repeat (first | refine blk_drewN ?_ _ | refine blk_drew ?_ | refine blk_alloc ?_ _)); exact BK101.out) hb); have n1_ := Aside0.mk (below_step (by repeat (first | (with_reducible first | exact HB.out | apply below_alloc | apply pw_below_drewN | apply below_drew1 | refine below_set ?_ GE101.out) | exact HB.out)) hb); clear BK101; clear HB; have BK101 := n0_; have HB := n1_; clear n0_ n1_; (try clear hb); (try clear hb2); (try clear hk); (try clear hi); have hcz15_0 : w14.cell? ⟨gb101, 0, none⟩ = some (.int .i64 a0_0) := (blk_cell BK101.out 0).trans rfl; have hcz15_1 : w14.cell? ⟨gb101, 1, none⟩ = some (.slice A0_1 l0_1.length c0_1) := (blk_cell BK101.out 1).trans rfl; have hfz15_0 := blk_frozen BK101.out 0; have hfz15_1 := blk_frozen BK101.out 1) | ((with_reducible refine gate_callee (f := 15) rfl ?_); refine goesL_ (some 16) rfl rfl Try.func15 (by kernel_rfl) rfl #[.agg #[.int .i64 a0_0, .slice A0_1 l0_1.length c0_1]] rfl (by (try simp only [List.map_toArray, List.map_cons, List.map_nil]); first | done | rfl | (simp only [List.length_drop, List.length_take]; rfl)) ?_; (with_reducible refine (laws_toScheme.calls k a0_0 _ _ l0_1 t103 t104 _ ?side1 ?side2 A7.out).mono ?_); (case side1 => repeat (first | exact (Kd.C_below HR0_1.out HB.out) | (with_reducible refine Kd.C_alloc ?_ _) | (with_reducible refine Kd.C_drewN ?_ _) | (with_reducible refine Kd.C_drew ?_))); (case side2 => exact HC0_1.out); rintro e w16 ⟨v105, rfl, ho0, hb⟩; refine ⟨_, rfl, ?_⟩; have n0_ := Aside0.mk (Kd.R_lower ho0 (below_size (by repeat (first | (with_reducible first | exact HB.out | apply below_alloc | apply pw_below_drewN | apply below_drew1 | refine below_set ?_ GE101.out) | exact HB.out)))); have n1_ := Aside0.mk (blk_below (g := gb101) (o := .cells #[.int .i64 a0_0, .slice A0_1 l0_1.length c0_1] 29 (0, 0)) (by (with_reducible repeat (first | refine blk_drewN ?_ _ | refine blk_drew ?_ | refine blk_alloc ?_ _)); exact BK101.out) hb); have n2_ := Aside0.mk (below_step (by repeat (first | (with_reducible first | exact HB.out | apply below_alloc | apply pw_below_drewN | apply below_drew1 | refine below_set ?_ GE101.out) | exact HB.out)) hb); clear BK101; clear HB; have HO106 := n0_; have BK101 := n1_; have HB := n2_; clear n0_ n1_ n2_; (try clear hb); (try clear hb2); (try clear hk); (try clear hi); (try clear ho0); obtain ⟨Ao17, co17, eo17⟩ := Kd.R_slice HO106.out; subst eo17) | ((with_reducible refine gate_callee (f := 18) rfl ?_); refine goesL_ (some 17) rfl rfl Try.func18 (by kernel_rfl) rfl #[.agg #[.int .i64 t103, .slice Ao17 t104.length co17]] rfl (by (try simp only [List.map_toArray, List.map_cons, List.map_nil]); first | done | rfl | (simp only [List.length_drop, List.length_take]; rfl)) ?_; (with_reducible refine (spec_CountRight.calls k t103 _ _ t104 t107 t108 _ ?side1 ?side2 A8.out).mono ?_); (case side1 => repeat (first | exact (Kd.R_reads' HO106.out).2.2 | (with_reducible refine Kd.C_alloc ?_ _) | (with_reducible refine Kd.C_drewN ?_ _) | (with_reducible refine Kd.C_drew ?_))); (case side2 => exact (Kd.R_reads' HO106.out).2.1); rintro e w18 ⟨rfl, hb⟩; refine ⟨_, rfl, ?_⟩; have n0_ := Aside0.mk (Kd.R_below (by (with_reducible repeat (first | apply Kd.R_alloc | apply Kd.R_drewN | apply Kd.R_drew)); exact HO106.out) hb); have n1_ := Aside0.mk (blk_below (g := gb101) (o := .cells #[.int .i64 a0_0, .slice A0_1 l0_1.length c0_1] 29 (0, 0)) (by (with_reducible repeat (first | refine blk_drewN ?_ _ | refine blk_drew ?_ | refine blk_alloc ?_ _)); exact BK101.out) hb); have n2_ := Aside0.mk (below_step (by repeat (first | (with_reducible first | exact HB.out | apply below_alloc | apply pw_below_drewN | apply below_drew1 | refine below_set ?_ GE101.out) | exact HB.out)) hb); clear HO106; clear BK101; clear HB; have HO106 := n0_; have BK101 := n1_; have HB := n2_; clear n0_ n1_ n2_; (try clear hb); (try clear hb2); (try clear hk); (try clear hi); have hcz19_0 : w18.cell? ⟨gb101, 0, none⟩ = some (.int .i64 a0_0) := (blk_cell BK101.out 0).trans rfl; have hcz19_1 : w18.cell? ⟨gb101, 1, none⟩ = some (.slice A0_1 l0_1.length c0_1) := (blk_cell BK101.out 1).trans rfl; have hfz19_0 := blk_frozen BK101.out 0; have hfz19_1 := blk_frozen BK101.out 1) | ((with_reducible refine gate_callee (f := 15) rfl ?_); refine goesL_ (some 21) rfl rfl Try.func15 (by kernel_rfl) rfl #[.agg #[.int .i64 a0_0, .slice A0_1 l0_1.length c0_1]] rfl (by (try simp only [List.map_toArray, List.map_cons, List.map_nil]); first | done | rfl | (simp only [List.length_drop, List.length_take]; rfl)) ?_; (with_reducible refine (laws_toScheme.calls k a0_0 _ _ l0_1 t109 t110 _ ?side1 ?side2 A9.out).mono ?_); (case side1 => repeat (first | exact (Kd.C_below HR0_1.out HB.out) | (with_reducible refine Kd.C_alloc ?_ _) | (with_reducible refine Kd.C_drewN ?_ _) | (with_reducible refine Kd.C_drew ?_))); (case side2 => exact HC0_1.out); rintro e w20 ⟨v111, rfl, ho0, hb⟩; refine ⟨_, rfl, ?_⟩; have n0_ := Aside0.mk (Kd.R_elder' (by (with_reducible repeat (first | apply Kd.R_alloc | apply Kd.R_drewN | apply Kd.R_drew)); exact HO106.out) (Kd.R_base ho0) hb); have n1_ := Aside0.mk (Kd.R_lower (Kd.R_new' ho0 (Kd.R_lt (by (with_reducible repeat (first | apply Kd.R_alloc | apply Kd.R_drewN | apply Kd.R_drew)); exact HO106.out))) (below_size (by repeat (first | (with_reducible first | exact HB.out | apply below_alloc | apply pw_below_drewN | apply below_drew1 | refine below_set ?_ GE101.out) | exact HB.out)))); have n2_ := Aside0.mk (blk_below (g := gb101) (o := .cells #[.int .i64 a0_0, .slice A0_1 l0_1.length c0_1] 29 (0, 0)) (by (with_reducible repeat (first | refine blk_drewN ?_ _ | refine blk_drew ?_ | refine blk_alloc ?_ _)); exact BK101.out) hb); have n3_ := Aside0.mk (below_step (by repeat (first | (with_reducible first | exact HB.out | apply below_alloc | apply pw_below_drewN | apply below_drew1 | refine below_set ?_ GE101.out) | exact HB.out)) hb); clear HO106; clear BK101; clear HB; have HO106 := n0_; have HO112 := n1_; have BK101 := n2_; have HB := n3_; clear n0_ n1_ n2_ n3_; (try clear hb); (try clear hb2); (try clear hk); (try clear hi); (try clear ho0)) | ((with_reducible refine gate_dst (N := 6) rfl ?_); refine box_event ?hg (N := 6) ?hd (cs := #[.int .i64 0, .slice none 0 0]) (t := 33) ?hr ?_; (case hd => rfl); (case hg => rfl); (case hr => first | (go_simp; done) | (go_simp; rfl)); intro gb113 hg w21 hbox hb; have n0_ := Aside0.mk (Kd.R_below (by (with_reducible repeat (first | apply Kd.R_alloc | apply Kd.R_drewN | apply Kd.R_drew)); exact HO106.out) hb); have n1_ := Aside0.mk (Kd.R_below (by (with_reducible repeat (first | apply Kd.R_alloc | apply Kd.R_drewN | apply Kd.R_drew)); exact HO112.out) hb); have n2_ := Aside0.mk (blk_below (g := gb101) (o := .cells #[.int .i64 a0_0, .slice A0_1 l0_1.length c0_1] 29 (0, 0)) (by (with_reducible repeat (first | refine blk_drewN ?_ _ | refine blk_drew ?_ | refine blk_alloc ?_ _)); exact BK101.out) hb); have n3_ := Aside0.mk (below_step (by repeat (first | (with_reducible first | exact HB.out | apply below_alloc | apply pw_below_drewN | apply below_drew1 | refine below_set ?_ GE101.out) | exact HB.out)) hb); have n4_ := Aside0.mk (hbox); have n5_ := Aside0.mk ((by rw [hg]; exact (below_size (by repeat (first | (with_reducible first | exact HB.out | apply below_alloc | apply pw_below_drewN | apply below_drew1 | refine below_set ?_ GE101.out) | exact HB.out))) : w.heap.size ≤ gb113)); have n6_ := Aside0.mk ((by rw [hg]; exact (below_size (by repeat (first | (with_reducible first | exact HB.out | apply below_alloc | apply pw_below_drewN | apply below_drew1 | refine below_set ?_ GE101.out) | exact HB.out))) : w.heap.size ≤ gb113)); have n7_ := Aside0.mk ((by rw [hg]; exact Nat.ne_of_lt (blk_lt (g := gb101) (o := .cells #[.int .i64 a0_0, .slice A0_1 l0_1.length c0_1] 29 (0, 0)) (by (with_reducible repeat (first | refine blk_drewN ?_ _ | refine blk_drew ?_ | refine blk_alloc ?_ _)); exact BK101.out)) : gb101 ≠ gb113)); have n8_ := Aside0.mk ((by rw [hg]; exact Nat.ne_of_gt (blk_lt (g := gb101) (o := .cells #[.int .i64 a0_0, .slice A0_1 l0_1.length c0_1] 29 (0, 0)) (by (with_reducible repeat (first | refine blk_drewN ?_ _ | refine blk_drew ?_ | refine blk_alloc ?_ _)); exact BK101.out)) : gb113 ≠ gb101)); clear HO106; clear HO112; clear BK101; clear HB; have HO106 := n0_; have HO112 := n1_; have BK101 := n2_; have HB := n3_; have BK113 := n4_; have GW113 := n5_; have GE113 := n6_; have NB101_113 := n7_; have NB113_101 := n8_; clear n0_ n1_ n2_ n3_ n4_ n5_ n6_ n7_ n8_; clear hb hbox hg; have hnb22 := NB113_101.out; have hnc22 := NB101_113.out; have hcz23_0 : w21.cell? ⟨gb113, 0, none⟩ = some (.int .i64 0) := (blk_cell BK113.out 0).trans rfl; have hcz23_1 : w21.cell? ⟨gb113, 1, none⟩ = some (.slice none 0 0) := (blk_cell BK113.out 1).trans rfl; have hfz23_0 := blk_frozen BK113.out 0; have hfz23_1 := blk_frozen BK113.out 1; obtain ⟨Ao24, co24, eo24⟩ := Kd.R_slice HO112.out; subst eo24) | ((with_reducible refine gate_callee (f := 19) rfl ?_); refine goesL_ (some 24) rfl rfl Try.func19 (by kernel_rfl) rfl #[.agg #[.int .i64 t109, .slice Ao24 t110.length co24]] rfl (by (try simp only [List.map_toArray, List.map_cons, List.map_nil]); first | done | rfl | (simp only [List.length_drop, List.length_take]; rfl)) ?_; (with_reducible refine (impl_CountRight.calls k t109 _ _ t110 t114 t115 _ ?side1 ?side2 A10.out).mono ?_); (case side1 => refine (Kd.R_reads' (e := 3) (base := w.heap.size) (ok := fun k_ => (True ∧ some k_ ≠ (.slice Ao17 t104.length co17 : Value).ownBlock)) (n := t110.length) (c := co24) ?_).2.2; exact (by (with_reducible repeat (first | apply Kd.R_alloc | apply Kd.R_drewN | apply Kd.R_drew)); exact (Kd.R_mono (Kd.R_far (p := ⟨gb113, 1, none⟩) (Kd.R_far (p := ⟨gb113, 0, none⟩) (Kd.R_types HO112.out BK113.out (by decide)) (fun _ hk => hk.2) (.int .i64 t109)) (fun _ hk => hk.2) (.slice Ao24 t110.length co24)) (fun _ h_ => h_.1)))); (case side2 => exact (Kd.R_reads' HO112.out).2.1); rintro e w25 ⟨rfl, hb⟩; refine ⟨_, rfl, ?_⟩; have n0_ := Aside0.mk (Kd.R_below (by (with_reducible repeat (first | apply Kd.R_alloc | apply Kd.R_drewN | apply Kd.R_drew)); exact (Kd.R_mono (Kd.R_far (p := ⟨gb113, 1, none⟩) (Kd.R_far (p := ⟨gb113, 0, none⟩) (Kd.R_types HO106.out BK113.out (by decide)) (fun _ hk => hk.2) (.int .i64 t109)) (fun _ hk => hk.2) (.slice Ao24 t110.length co24)) (fun _ h_ => h_.1))) hb); have n1_ := Aside0.mk (Kd.R_below (by (with_reducible repeat (first | apply Kd.R_alloc | apply Kd.R_drewN | apply Kd.R_drew)); exact (Kd.R_mono (Kd.R_far (p := ⟨gb113, 1, none⟩) (Kd.R_far (p := ⟨gb113, 0, none⟩) (Kd.R_types HO112.out BK113.out (by decide)) (fun _ hk => hk.2) (.int .i64 t109)) (fun _ hk => hk.2) (.slice Ao24 t110.length co24)) (fun _ h_ => h_.1))) hb); have n2_ := Aside0.mk (blk_below (g := gb101) (o := .cells #[.int .i64 a0_0, .slice A0_1 l0_1.length c0_1] 29 (0, 0)) (by (with_reducible repeat (first | refine blk_drewN ?_ _ | refine blk_drew ?_ | refine blk_alloc ?_ _)); refine blk_far ?_ NB101_113.out _; (with_reducible repeat (first | refine blk_drewN ?_ _ | refine blk_drew ?_ | refine blk_alloc ?_ _)); refine blk_far ?_ NB101_113.out _; (with_reducible repeat (first | refine blk_drewN ?_ _ | refine blk_drew ?_ | refine blk_alloc ?_ _)); exact BK101.out) hb); have n3_ := Aside0.mk (blk_below (g := gb113) (o := .cells #[.int .i64 t109, .slice Ao24 t110.length co24] 33 (0, 0)) (by (with_reducible repeat (first | refine blk_drewN ?_ _ | refine blk_drew ?_ | refine blk_alloc ?_ _)); refine blk_put (cs := #[.int .i64 t109, .slice none 0 0]) ?_ 1 _ rfl; (with_reducible repeat (first | refine blk_drewN ?_ _ | refine blk_drew ?_ | refine blk_alloc ?_ _)); refine blk_put (cs := #[.int .i64 0, .slice none 0 0]) ?_ 0 _ rfl; (with_reducible repeat (first | refine blk_drewN ?_ _ | refine blk_drew ?_ | refine blk_alloc ?_ _)); exact BK113.out) hb); have n4_ := Aside0.mk (below_step (by repeat (first | (with_reducible first | exact HB.out | apply below_alloc | apply pw_below_drewN | apply below_drew1 | refine below_set ?_ GE101.out | refine below_set ?_ GE113.out) | exact HB.out)) hb); clear HO106; clear HO112; clear BK101; clear BK113; clear HB; have HO106 := n0_; have HO112 := n1_; have BK101 := n2_; have BK113 := n3_; have HB := n4_; clear n0_ n1_ n2_ n3_ n4_; (try clear hb); (try clear hb2); (try clear hk); (try clear hi)))
  (try simp only [Act.put, List.setIfInBounds_toArray, List.set_cons_zero, List.set_cons_succ])
  go_cut [34] (fun v34 wc => ∃ (kq : Nat) (x34_10 : Bool), v34 = .bool x34_10 ∧ Aside0 (laws_FnExactCountRight.j0 kq x34_10 a0_0 l0_1 t109 t110 = some r) ∧ Aside0 (kq ≤ k) ∧ Aside0 (Kd.R (Kd.int .i64) 3 wc w.heap.size (fun _ => True) (.slice Ao24 t110.length co24) t110) ∧ Aside0 (wc.heap[gb101]? = some (.cells #[.int .i64 a0_0, (.slice A0_1 l0_1.length c0_1)] 29 (0, 0))) ∧ Aside0 (wc.heap[gb113]? = some (.cells #[.int .i64 t109, (.slice Ao24 t110.length co24)] 33 (0, 0))) ∧ Aside0 (Below w.heap.size w wc))
  case first =>
   have H := HC11.out
   clear HC11
   by_cases c26 : t114 = t107
   ·
    rw [if_pos c26] at H
    have c26b0 : (t114 == t107) = true := beq_iff_eq.mpr c26
    have c26b1 : (t114 != t107) = false := bne_eq_false_iff_eq.mpr c26
    clear c26
    (first | rw [c26b0] | (simp only [i64_w, i32_w]; rw [c26b0]) | skip)
    have H' := Aside0.mk H
    clear H
    go_wp2
    go_meet
    case rel => exact ⟨_, ((t115 != t108)), (by first | rfl | (simp; done) | (simp [*]; done)), H', ⟨by first | omega | exact Nat.le_refl _⟩, ⟨by (with_reducible repeat (first | apply Kd.R_alloc | apply Kd.R_drewN | apply Kd.R_drew)); exact Kd.R_mono HO112.out (fun _ hk => trivial)⟩, ⟨by (with_reducible repeat (first | refine blk_drewN ?_ _ | refine blk_drew ?_ | refine blk_alloc ?_ _)); exact BK101.out⟩, ⟨by (with_reducible repeat (first | refine blk_drewN ?_ _ | refine blk_drew ?_ | refine blk_alloc ?_ _)); exact BK113.out⟩, ⟨by repeat (first | (with_reducible first | exact HB.out | apply below_alloc | apply pw_below_drewN | apply below_drew1 | refine below_set ?_ GE101.out | refine below_set ?_ GE113.out) | exact HB.out)⟩⟩
   ·
    rw [if_neg c26] at H
    have c26b0 : (t114 == t107) = false := beq_eq_false_iff_ne.mpr c26
    have c26b1 : (t114 != t107) = true := bne_iff_ne.mpr c26
    (first | rw [c26b0] | (simp only [i64_w, i32_w]; rw [c26b0]) | skip)
    have H' := Aside0.mk H
    clear H
    go_wp2
    go_meet
    case rel => exact ⟨_, (true), (by first | rfl | (simp; done) | (simp [*]; done)), H', ⟨by first | omega | exact Nat.le_refl _⟩, ⟨by (with_reducible repeat (first | apply Kd.R_alloc | apply Kd.R_drewN | apply Kd.R_drew)); exact Kd.R_mono HO112.out (fun _ hk => trivial)⟩, ⟨by (with_reducible repeat (first | refine blk_drewN ?_ _ | refine blk_drew ?_ | refine blk_alloc ?_ _)); exact BK101.out⟩, ⟨by (with_reducible repeat (first | refine blk_drewN ?_ _ | refine blk_drew ?_ | refine blk_alloc ?_ _)); exact BK113.out⟩, ⟨by repeat (first | (with_reducible first | exact HB.out | apply below_alloc | apply pw_below_drewN | apply below_drew1 | refine below_set ?_ GE101.out | refine below_set ?_ GE113.out) | exact HB.out)⟩⟩
  case rest =>
   clear HC11
   try clear c1
   try clear c2
   try clear p2
   try clear c3
   try clear c3b0
   try clear c5
   try clear c13
   try clear c15
   try clear c18
   try clear c19
   try clear c22
   try clear c26
   try clear c26b0
   try clear c26b1
   try clear hcz13_0
   try clear hcz13_1
   try clear hcz15_0
   try clear hcz15_1
   try clear hcz19_0
   try clear hcz19_1
   try clear hcz23_0
   try clear hcz23_1
   try clear hcz5_0
   try clear hcz5_1
   try clear hfz13_0
   try clear hfz13_1
   try clear hfz15_0
   try clear hfz15_1
   try clear hfz19_0
   try clear hfz19_1
   try clear hfz23_0
   try clear hfz23_1
   try clear hfz5_0
   try clear hfz5_1
   obtain ⟨kq, x34_10, rfl, HA, HJ10, HO_114001, BK101, BK113, HB⟩ := hcut
   cases kq with
   | zero => exact absurd HA.out (by simp [laws_FnExactCountRight.j0])
   | succ kj10 =>
    have H := HA.out
    clear HA
    simp only [laws_FnExactCountRight.j0] at H
    by_cases c27 : x34_10 = true
    ·
     subst c27
     have H1 : (some false) = some r := by rw [if_pos rfl] at H; exact H
     clear H
     have H := H1
     clear H1
     obtain rfl := Option.some.inj H
     go_wp2
     go_ret
     exact ⟨by first | rfl | (simp [errW_none, errW_some] <;> rfl) | (simp [*, errW_none, errW_some] <;> rfl), by repeat (first | (with_reducible first | exact HB.out | apply below_alloc | apply pw_below_drewN | apply below_drew1 | refine below_set ?_ GE101.out | refine below_set ?_ GE113.out) | exact HB.out)⟩
    ·
     replace c27 := Bool.eq_false_iff.mpr c27
     subst c27
     have H1 : ((laws_toScheme.f kj10 a0_0 l0_1).bind fun bt116 => ((laws_eqScheme.f kj10 t109 t110 bt116.1 bt116.2).bind fun t120 => (if t120 = true then (some true) else (some false)))) = some r := by rw [if_neg (show ¬ (false = true) by decide)] at H; exact H
     clear H
     have H := H1
     clear H1
     replace H := Option.bind_eq_some_iff.mp H
     obtain ⟨⟨t116, t117⟩, A280, H⟩ := H
     replace H : ((laws_eqScheme.f kj10 t109 t110 t116 t117).bind fun t120 => (if t120 = true then (some true) else (some false))) = some r := H
     have A28 := Aside0.mk A280
     clear A280
     replace H := Option.bind_eq_some_iff.mp H
     obtain ⟨t120, A290, H⟩ := H
     replace H : (if t120 = true then (some true) else (some false)) = some r := H
     have A29 := Aside0.mk A290
     clear A290
     by_cases c30 : t120 = true
     ·
      subst c30
      have H1 : (some true) = some r := by rw [if_pos rfl] at H; exact H
      clear H
      have H := H1
      clear H1
      obtain rfl := Option.some.inj H
      try go_wp2
      have n0_ := Aside0.mk (Kd.R_drew HO_114001.out)
      have n1_ := Aside0.mk (blk_drew BK101.out)
      have n2_ := Aside0.mk (blk_drew BK113.out)
      have n3_ := Aside0.mk (below_drew1 HB.out)
      clear HO_114001
      clear BK101
      clear BK113
      clear HB
      have HO_114001 := n0_
      have BK101 := n1_
      have BK113 := n2_
      have HB := n3_
      clear n0_ n1_ n2_ n3_
      refine start_ (n := 5) (S := fun w' => w'.cell? ⟨gb113, 0, none⟩ = some (.int .i64 t109) ∧ w'.cell? ⟨gb113, 1, none⟩ = some (.slice Ao24 t110.length co24) ∧ w'.cell? ⟨gb101, 0, none⟩ = some (.int .i64 a0_0) ∧ w'.cell? ⟨gb101, 1, none⟩ = some (.slice A0_1 l0_1.length c0_1)) (ds := []) #[false, false, false, false, false] (by kernel_rfl) rfl rfl ⟨(blk_cell BK113.out 0).trans rfl, (blk_cell BK113.out 1).trans rfl, (blk_cell BK101.out 0).trans rfl, (blk_cell BK101.out 1).trans rfl⟩ (fun hHeld => ?_)
      generalize wc.drew = w31 at HO_114001 BK101 BK113 HB hHeld ⊢
      refine take_ (i := 0) (N := some 35) (v := ?_) (a' := ?_) #[true, false, false, false, false] rfl rfl (by kernel_rfl) (fun _ _ _ h => h) (Or.inl ⟨by rfl, ?_⟩) hHeld ?_ ?_
      rotate_left
      ·
       rintro w' ⟨s0, s1, s2, s3⟩
       go_simp
       with_reducible rfl
      rotate_left
      ·
       simp only [Act.put, List.setIfInBounds_toArray, List.set_cons_zero, List.set_cons_succ, i64_w, i32_w]
       rfl
      refine take_ (i := 1) (N := some 36) (v := ?_) (a' := ?_) #[true, true, false, false, false] rfl rfl (by kernel_rfl) (fun _ _ _ h => h) (Or.inl ⟨by rfl, ?_⟩) hHeld ?_ ?_
      rotate_left
      ·
       rintro w' ⟨s0, s1, s2, s3⟩
       go_simp
       with_reducible rfl
      rotate_left
      ·
       simp only [Act.put, List.setIfInBounds_toArray, List.set_cons_zero, List.set_cons_succ, i64_w, i32_w]
       rfl
      refine one_ (i := 2) (N := some 37) #[true, true, true, false, false] rfl rfl (by kernel_rfl) (by decide) (fun K hK => ?_)
      refine goes_ Try.func15 (by kernel_rfl) rfl #[.agg #[.int .i64 a0_0, .slice A0_1 l0_1.length c0_1]] (by rfl) rfl rfl (by (try simp only [List.map_toArray, List.map_cons, List.map_nil]); first | done | rfl | (simp only [List.length_drop, List.length_take]; rfl)) ?_
      with_reducible refine (laws_toScheme.calls kj10 a0_0 _ _ l0_1 t116 t117 _ ?side1 ?side2 A28.out).mono ?_
      (case side1 => repeat (first | exact (Kd.C_below HR0_1.out HB.out) | (with_reducible refine Kd.C_alloc ?_ _) | (with_reducible refine Kd.C_drewN ?_ _) | (with_reducible refine Kd.C_drew ?_)))
      (case side2 => exact HC0_1.out)
      rintro e w32 ⟨v118, rfl, ho0, hb⟩
      refine ⟨_, rfl, ?_⟩
      have n0_ := Aside0.mk (Kd.R_elder' (by (with_reducible repeat (first | apply Kd.R_alloc | apply Kd.R_drewN | apply Kd.R_drew)); exact HO_114001.out) (Kd.R_base ho0) hb)
      have n1_ := Aside0.mk (Kd.R_lower (Kd.R_new' ho0 (Kd.R_lt (by (with_reducible repeat (first | apply Kd.R_alloc | apply Kd.R_drewN | apply Kd.R_drew)); exact HO_114001.out))) (below_size (by repeat (first | (with_reducible first | exact HB.out | apply below_alloc | apply pw_below_drewN | apply below_drew1 | refine below_set ?_ GE101.out | refine below_set ?_ GE113.out) | exact HB.out))))
      have n2_ := Aside0.mk (blk_below (g := gb101) (o := .cells #[.int .i64 a0_0, .slice A0_1 l0_1.length c0_1] 29 (0, 0)) (by (with_reducible repeat (first | refine blk_drewN ?_ _ | refine blk_drew ?_ | refine blk_alloc ?_ _)); exact BK101.out) hb)
      have n3_ := Aside0.mk (blk_below (g := gb113) (o := .cells #[.int .i64 t109, .slice Ao24 t110.length co24] 33 (0, 0)) (by (with_reducible repeat (first | refine blk_drewN ?_ _ | refine blk_drew ?_ | refine blk_alloc ?_ _)); exact BK113.out) hb)
      have n4_ := Aside0.mk (below_step (by repeat (first | (with_reducible first | exact HB.out | apply below_alloc | apply pw_below_drewN | apply below_drew1 | refine below_set ?_ GE101.out | refine below_set ?_ GE113.out) | exact HB.out)) hb)
      clear HO_114001
      clear BK101
      clear BK113
      clear HB
      have HO_114001 := n0_
      have HO119 := n1_
      have BK101 := n2_
      have BK113 := n3_
      have HB := n4_
      clear n0_ n1_ n2_ n3_ n4_
      (try clear hb)
      (try clear hb2)
      (try clear hk)
      (try clear hi)
      (try clear ho0)
      obtain ⟨Ao33, co33, eo33⟩ := Kd.R_slice HO119.out
      (first | subst eo33 | (injection eo33 with f1_ f2_ f3_; have f4_ := f1_.symm; have f5_ := f3_.symm; clear f1_ f2_ f3_; subst f4_; subst f5_))
      refine hK.out _ _ ⟨(blk_cell BK113.out 0).trans rfl, (blk_cell BK113.out 1).trans rfl, (blk_cell BK101.out 0).trans rfl, (blk_cell BK101.out 1).trans rfl⟩ (fun hHeld => ?_)
      clear hK K
      refine norm_ (a' := ?_) ?_ ?_
      rotate_left
      ·
       show Act.put _ (some 37) _ = _
       simp only [Act.put, List.setIfInBounds_toArray, List.set_cons_zero, List.set_cons_succ, i64_w, i32_w]
       rfl
      refine one_ (i := 3) (N := some 38) #[true, true, true, true, false] rfl rfl (by kernel_rfl) (by decide) (fun K hK => ?_)
      refine goes_ Try.func17 (by kernel_rfl) rfl #[.agg #[.int .i64 t109, .slice Ao24 t110.length co24], .agg #[.int .i64 t116, .slice Ao33 t117.length co33]] (by rfl) rfl rfl (by (try simp only [List.map_toArray, List.map_cons, List.map_nil]); first | done | rfl | (simp only [List.length_drop, List.length_take]; rfl)) ?_
      with_reducible refine (laws_eqScheme.calls kj10 t109 _ _ t110 t116 _ _ t117 true _ ?side1 ?side2 ?side3 ?side4 A29.out).mono ?_
      (case side1 => repeat (first | exact (Kd.R_reads' HO_114001.out).2.2 | (with_reducible refine Kd.C_alloc ?_ _) | (with_reducible refine Kd.C_drewN ?_ _) | (with_reducible refine Kd.C_drew ?_)))
      (case side2 => exact (Kd.R_reads' HO_114001.out).2.1)
      (case side3 => repeat (first | exact (Kd.R_reads' HO119.out).2.2 | (with_reducible refine Kd.C_alloc ?_ _) | (with_reducible refine Kd.C_drewN ?_ _) | (with_reducible refine Kd.C_drew ?_)))
      (case side4 => exact (Kd.R_reads' HO119.out).2.1)
      rintro e w34 ⟨rfl, hb⟩
      refine ⟨_, rfl, ?_⟩
      have n0_ := Aside0.mk (Kd.R_below (by (with_reducible repeat (first | apply Kd.R_alloc | apply Kd.R_drewN | apply Kd.R_drew)); exact HO_114001.out) hb)
      have n1_ := Aside0.mk (Kd.R_below (by (with_reducible repeat (first | apply Kd.R_alloc | apply Kd.R_drewN | apply Kd.R_drew)); exact HO119.out) hb)
      have n2_ := Aside0.mk (blk_below (g := gb101) (o := .cells #[.int .i64 a0_0, .slice A0_1 l0_1.length c0_1] 29 (0, 0)) (by (with_reducible repeat (first | refine blk_drewN ?_ _ | refine blk_drew ?_ | refine blk_alloc ?_ _)); exact BK101.out) hb)
      have n3_ := Aside0.mk (blk_below (g := gb113) (o := .cells #[.int .i64 t109, .slice Ao24 t110.length co24] 33 (0, 0)) (by (with_reducible repeat (first | refine blk_drewN ?_ _ | refine blk_drew ?_ | refine blk_alloc ?_ _)); exact BK113.out) hb)
      have n4_ := Aside0.mk (below_step (by repeat (first | (with_reducible first | exact HB.out | apply below_alloc | apply pw_below_drewN | apply below_drew1 | refine below_set ?_ GE101.out | refine below_set ?_ GE113.out) | exact HB.out)) hb)
      clear HO_114001
      clear HO119
      clear BK101
      clear BK113
      clear HB
      have HO_114001 := n0_
      have HO119 := n1_
      have BK101 := n2_
      have BK113 := n3_
      have HB := n4_
      clear n0_ n1_ n2_ n3_ n4_
      (try clear hb)
      (try clear hb2)
      (try clear hk)
      (try clear hi)
      refine hK.out _ _ ⟨(blk_cell BK113.out 0).trans rfl, (blk_cell BK113.out 1).trans rfl, (blk_cell BK101.out 0).trans rfl, (blk_cell BK101.out 1).trans rfl⟩ (fun hHeld => ?_)
      clear hK K
      refine norm_ (a' := ?_) ?_ ?_
      rotate_left
      ·
       show Act.put _ (some 38) _ = _
       simp only [Act.put, List.setIfInBounds_toArray, List.set_cons_zero, List.set_cons_succ, i64_w, i32_w]
       rfl
      refine pure_ (i := 4) (N := some 39) (v := ?_) (a' := ?_) #[true, true, true, true, true] rfl rfl (by kernel_rfl) (fun _ _ _ h => h) (Or.inl ⟨by rfl, ?_⟩) ?_ ?_
      rotate_left
      ·
       intro w'
       go_simp
       with_reducible rfl
      rotate_left
      ·
       simp only [Act.put, List.setIfInBounds_toArray, List.set_cons_zero, List.set_cons_succ, i64_w, i32_w]
       rfl
      refine done_ (by kernel_rfl) ?_
      try go_wp2
      go_ret
      exact ⟨by first | rfl | (simp [errW_none, errW_some] <;> rfl) | (simp [*, errW_none, errW_some] <;> rfl), by repeat (first | (with_reducible first | exact HB.out | apply below_alloc | apply pw_below_drewN | apply below_drew1 | refine below_set ?_ GE101.out | refine below_set ?_ GE113.out) | exact HB.out)⟩
     ·
      replace c30 := Bool.eq_false_iff.mpr c30
      subst c30
      have H1 : (some false) = some r := by rw [if_neg (show ¬ (false = true) by decide)] at H; exact H
      clear H
      have H := H1
      clear H1
      obtain rfl := Option.some.inj H
      try go_wp2
      have n0_ := Aside0.mk (Kd.R_drew HO_114001.out)
      have n1_ := Aside0.mk (blk_drew BK101.out)
      have n2_ := Aside0.mk (blk_drew BK113.out)
      have n3_ := Aside0.mk (below_drew1 HB.out)
      clear HO_114001
      clear BK101
      clear BK113
      clear HB
      have HO_114001 := n0_
      have BK101 := n1_
      have BK113 := n2_
      have HB := n3_
      clear n0_ n1_ n2_ n3_
      refine start_ (n := 5) (S := fun w' => w'.cell? ⟨gb113, 0, none⟩ = some (.int .i64 t109) ∧ w'.cell? ⟨gb113, 1, none⟩ = some (.slice Ao24 t110.length co24) ∧ w'.cell? ⟨gb101, 0, none⟩ = some (.int .i64 a0_0) ∧ w'.cell? ⟨gb101, 1, none⟩ = some (.slice A0_1 l0_1.length c0_1)) (ds := []) #[false, false, false, false, false] (by kernel_rfl) rfl rfl ⟨(blk_cell BK113.out 0).trans rfl, (blk_cell BK113.out 1).trans rfl, (blk_cell BK101.out 0).trans rfl, (blk_cell BK101.out 1).trans rfl⟩ (fun hHeld => ?_)
      generalize wc.drew = w35 at HO_114001 BK101 BK113 HB hHeld ⊢
      refine take_ (i := 0) (N := some 35) (v := ?_) (a' := ?_) #[true, false, false, false, false] rfl rfl (by kernel_rfl) (fun _ _ _ h => h) (Or.inl ⟨by rfl, ?_⟩) hHeld ?_ ?_
      rotate_left
      ·
       rintro w' ⟨s0, s1, s2, s3⟩
       go_simp
       with_reducible rfl
      rotate_left
      ·
       simp only [Act.put, List.setIfInBounds_toArray, List.set_cons_zero, List.set_cons_succ, i64_w, i32_w]
       rfl
      refine take_ (i := 1) (N := some 36) (v := ?_) (a' := ?_) #[true, true, false, false, false] rfl rfl (by kernel_rfl) (fun _ _ _ h => h) (Or.inl ⟨by rfl, ?_⟩) hHeld ?_ ?_
      rotate_left
      ·
       rintro w' ⟨s0, s1, s2, s3⟩
       go_simp
       with_reducible rfl
      rotate_left
      ·
       simp only [Act.put, List.setIfInBounds_toArray, List.set_cons_zero, List.set_cons_succ, i64_w, i32_w]
       rfl
      refine one_ (i := 2) (N := some 37) #[true, true, true, false, false] rfl rfl (by kernel_rfl) (by decide) (fun K hK => ?_)
      refine goes_ Try.func15 (by kernel_rfl) rfl #[.agg #[.int .i64 a0_0, .slice A0_1 l0_1.length c0_1]] (by rfl) rfl rfl (by (try simp only [List.map_toArray, List.map_cons, List.map_nil]); first | done | rfl | (simp only [List.length_drop, List.length_take]; rfl)) ?_
      with_reducible refine (laws_toScheme.calls kj10 a0_0 _ _ l0_1 t116 t117 _ ?side1 ?side2 A28.out).mono ?_
      (case side1 => repeat (first | exact (Kd.C_below HR0_1.out HB.out) | (with_reducible refine Kd.C_alloc ?_ _) | (with_reducible refine Kd.C_drewN ?_ _) | (with_reducible refine Kd.C_drew ?_)))
      (case side2 => exact HC0_1.out)
      rintro e w36 ⟨v118, rfl, ho0, hb⟩
      refine ⟨_, rfl, ?_⟩
      have n0_ := Aside0.mk (Kd.R_elder' (by (with_reducible repeat (first | apply Kd.R_alloc | apply Kd.R_drewN | apply Kd.R_drew)); exact HO_114001.out) (Kd.R_base ho0) hb)
      have n1_ := Aside0.mk (Kd.R_lower (Kd.R_new' ho0 (Kd.R_lt (by (with_reducible repeat (first | apply Kd.R_alloc | apply Kd.R_drewN | apply Kd.R_drew)); exact HO_114001.out))) (below_size (by repeat (first | (with_reducible first | exact HB.out | apply below_alloc | apply pw_below_drewN | apply below_drew1 | refine below_set ?_ GE101.out | refine below_set ?_ GE113.out) | exact HB.out))))
      have n2_ := Aside0.mk (blk_below (g := gb101) (o := .cells #[.int .i64 a0_0, .slice A0_1 l0_1.length c0_1] 29 (0, 0)) (by (with_reducible repeat (first | refine blk_drewN ?_ _ | refine blk_drew ?_ | refine blk_alloc ?_ _)); exact BK101.out) hb)
      have n3_ := Aside0.mk (blk_below (g := gb113) (o := .cells #[.int .i64 t109, .slice Ao24 t110.length co24] 33 (0, 0)) (by (with_reducible repeat (first | refine blk_drewN ?_ _ | refine blk_drew ?_ | refine blk_alloc ?_ _)); exact BK113.out) hb)
      have n4_ := Aside0.mk (below_step (by repeat (first | (with_reducible first | exact HB.out | apply below_alloc | apply pw_below_drewN | apply below_drew1 | refine below_set ?_ GE101.out | refine below_set ?_ GE113.out) | exact HB.out)) hb)
      clear HO_114001
      clear BK101
      clear BK113
      clear HB
      have HO_114001 := n0_
      have HO119 := n1_
      have BK101 := n2_
      have BK113 := n3_
      have HB := n4_
      clear n0_ n1_ n2_ n3_ n4_
      (try clear hb)
      (try clear hb2)
      (try clear hk)
      (try clear hi)
      (try clear ho0)
      obtain ⟨Ao37, co37, eo37⟩ := Kd.R_slice HO119.out
      (first | subst eo37 | (injection eo37 with f1_ f2_ f3_; have f4_ := f1_.symm; have f5_ := f3_.symm; clear f1_ f2_ f3_; subst f4_; subst f5_))
      refine hK.out _ _ ⟨(blk_cell BK113.out 0).trans rfl, (blk_cell BK113.out 1).trans rfl, (blk_cell BK101.out 0).trans rfl, (blk_cell BK101.out 1).trans rfl⟩ (fun hHeld => ?_)
      clear hK K
      refine norm_ (a' := ?_) ?_ ?_
      rotate_left
      ·
       show Act.put _ (some 37) _ = _
       simp only [Act.put, List.setIfInBounds_toArray, List.set_cons_zero, List.set_cons_succ, i64_w, i32_w]
       rfl
      refine one_ (i := 3) (N := some 38) #[true, true, true, true, false] rfl rfl (by kernel_rfl) (by decide) (fun K hK => ?_)
      refine goes_ Try.func17 (by kernel_rfl) rfl #[.agg #[.int .i64 t109, .slice Ao24 t110.length co24], .agg #[.int .i64 t116, .slice Ao37 t117.length co37]] (by rfl) rfl rfl (by (try simp only [List.map_toArray, List.map_cons, List.map_nil]); first | done | rfl | (simp only [List.length_drop, List.length_take]; rfl)) ?_
      with_reducible refine (laws_eqScheme.calls kj10 t109 _ _ t110 t116 _ _ t117 false _ ?side1 ?side2 ?side3 ?side4 A29.out).mono ?_
      (case side1 => repeat (first | exact (Kd.R_reads' HO_114001.out).2.2 | (with_reducible refine Kd.C_alloc ?_ _) | (with_reducible refine Kd.C_drewN ?_ _) | (with_reducible refine Kd.C_drew ?_)))
      (case side2 => exact (Kd.R_reads' HO_114001.out).2.1)
      (case side3 => repeat (first | exact (Kd.R_reads' HO119.out).2.2 | (with_reducible refine Kd.C_alloc ?_ _) | (with_reducible refine Kd.C_drewN ?_ _) | (with_reducible refine Kd.C_drew ?_)))
      (case side4 => exact (Kd.R_reads' HO119.out).2.1)
      rintro e w38 ⟨rfl, hb⟩
      refine ⟨_, rfl, ?_⟩
      have n0_ := Aside0.mk (Kd.R_below (by (with_reducible repeat (first | apply Kd.R_alloc | apply Kd.R_drewN | apply Kd.R_drew)); exact HO_114001.out) hb)
      have n1_ := Aside0.mk (Kd.R_below (by (with_reducible repeat (first | apply Kd.R_alloc | apply Kd.R_drewN | apply Kd.R_drew)); exact HO119.out) hb)
      have n2_ := Aside0.mk (blk_below (g := gb101) (o := .cells #[.int .i64 a0_0, .slice A0_1 l0_1.length c0_1] 29 (0, 0)) (by (with_reducible repeat (first | refine blk_drewN ?_ _ | refine blk_drew ?_ | refine blk_alloc ?_ _)); exact BK101.out) hb)
      have n3_ := Aside0.mk (blk_below (g := gb113) (o := .cells #[.int .i64 t109, .slice Ao24 t110.length co24] 33 (0, 0)) (by (with_reducible repeat (first | refine blk_drewN ?_ _ | refine blk_drew ?_ | refine blk_alloc ?_ _)); exact BK113.out) hb)
      have n4_ := Aside0.mk (below_step (by repeat (first | (with_reducible first | exact HB.out | apply below_alloc | apply pw_below_drewN | apply below_drew1 | refine below_set ?_ GE101.out | refine below_set ?_ GE113.out) | exact HB.out)) hb)
      clear HO_114001
      clear HO119
      clear BK101
      clear BK113
      clear HB
      have HO_114001 := n0_
      have HO119 := n1_
      have BK101 := n2_
      have BK113 := n3_
      have HB := n4_
      clear n0_ n1_ n2_ n3_ n4_
      (try clear hb)
      (try clear hb2)
      (try clear hk)
      (try clear hi)
      refine hK.out _ _ ⟨(blk_cell BK113.out 0).trans rfl, (blk_cell BK113.out 1).trans rfl, (blk_cell BK101.out 0).trans rfl, (blk_cell BK101.out 1).trans rfl⟩ (fun hHeld => ?_)
      clear hK K
      refine norm_ (a' := ?_) ?_ ?_
      rotate_left
      ·
       show Act.put _ (some 38) _ = _
       simp only [Act.put, List.setIfInBounds_toArray, List.set_cons_zero, List.set_cons_succ, i64_w, i32_w]
       rfl
      refine pure_ (i := 4) (N := some 39) (v := ?_) (a' := ?_) #[true, true, true, true, true] rfl rfl (by kernel_rfl) (fun _ _ _ h => h) (Or.inl ⟨by rfl, ?_⟩) ?_ ?_
      rotate_left
      ·
       intro w'
       go_simp
       with_reducible rfl
      rotate_left
      ·
       simp only [Act.put, List.setIfInBounds_toArray, List.set_cons_zero, List.set_cons_succ, i64_w, i32_w]
       rfl
      refine done_ (by kernel_rfl) ?_
      try go_wp2
      go_ret
      exact ⟨by first | rfl | (simp [errW_none, errW_some] <;> rfl) | (simp [*, errW_none, errW_some] <;> rfl), by repeat (first | (with_reducible first | exact HB.out | apply below_alloc | apply pw_below_drewN | apply below_drew1 | refine below_set ?_ GE101.out | refine below_set ?_ GE113.out) | exact HB.out)⟩

end Go.Proofs.Ytlkpilmcakeadaa.P

namespace Go.Proofs.Ytlkpilmcakeadaa
open Go.RowKit Go.Proofs.Ytlkpilmcakeadaa.P Go.Proofs.YtlkpilmcakeadaaW.PrintWords Go.Proofs.YtlkpilmcakeadaaW.PrintLast
/-- The pure statement of FnExactCountRight. -/
def PureFnExactCountRight : Prop := ∀ (a0_0 : Int) (l0_1 : List Int), (Lit.int .i64 a0_0).wf = true → (l0_1.length ≤ 9223372036854775807 ∧ ∀ x ∈ l0_1, (Lit.int .i64 x).wf = true) →  ∃ k, laws_FnExactCountRight.f k a0_0 l0_1 = some true
end Go.Proofs.Ytlkpilmcakeadaa

namespace Go.Proofs.Ytlkpilmcakeadaa
open Go.RowKit Go.Proofs.YtlkpilmcakeadaaW.PrintWords
/-! Plain words for the pure statements: answers that stand from some number of rounds on. -/
theorem Ev.succ {α : Type} {g : Nat → Option α} {r : α} (h : Ev (fun k => g (k + 1)) r) : Ev g r := Ev.step (fun _ => rfl) h
theorem Ev.const {α : Type} {a : Option α} {r : α} (h : a = some r) : Ev (fun _ => a) r := ⟨0, fun _ _ => h⟩
theorem Ev.pos {α : Type} {c : Prop} [Decidable c] {g f : Nat → Option α} {r : α} (hc : c) (h : Ev g r) : Ev (fun k => if c then g k else f k) r := by simp only [if_pos hc]; exact h
theorem Ev.neg {α : Type} {c : Prop} [Decidable c] {g f : Nat → Option α} {r : α} (hc : ¬ c) (h : Ev f r) : Ev (fun k => if c then g k else f k) r := by simp only [if_neg hc]; exact h
theorem Ev.yes {α : Type} {c : Prop} [Decidable c] {g f : Nat → Option α} {r : α} (h : Ev g r) (hc : c := by first | omega | rfl | trivial | decide | simp | (simp; omega)) : Ev (fun k => if c then g k else f k) r := Ev.pos hc h
theorem Ev.no {α : Type} {c : Prop} [Decidable c] {g f : Nat → Option α} {r : α} (h : Ev f r) (hc : ¬ c := by first | omega | decide | simp | (simp; omega)) : Ev (fun k => if c then g k else f k) r := Ev.neg hc h
theorem Ev.bindc {α β : Type} {a : Option α} {x : α} {f : Nat → α → Option β} {r : β} (h : a = some x) (k : Ev (fun n => f n x) r) : Ev (fun n => a.bind (f n)) r := by subst h; exact k
theorem wrap_id {n : Int} (h1 : -9223372036854775808 ≤ n) (h2 : n ≤ 9223372036854775807) : wrap64 n = n := IntWalk.wrap64_in n ⟨h1, h2⟩
theorem wf_i64 {n : Int} (h : (Lit.int .i64 n).wf = true) : -9223372036854775808 ≤ n ∧ n ≤ 9223372036854775807 := by
  have e1 : IntKind.i64.min = -9223372036854775808 := rfl
  have e2 : IntKind.i64.max = 9223372036854775807 := rfl
  simp only [Lit.wf, e1, e2, Bool.and_eq_true, decide_eq_true_eq] at h
  exact h
theorem rd_nat (l : List Int) (j : Nat) (h : j < l.length) : rd l (j : Int) = l[j] := by unfold rd; simp [List.getD, h]
end Go.Proofs.Ytlkpilmcakeadaa

namespace Go.Proofs.Ytlkpilmcakeadaa
open Go.RowKit Go.Proofs.Ytlkpilmcakeadaa.P Go.Proofs.YtlkpilmcakeadaaW.PrintWords
theorem szIntS_eq (l : List Int) (h : l.length ≤ 9223372036854775807) : laws_szIntS.f l 1048576 = some (if l.length ≤ 1048576 then 1048576 - (l.length : Int) else -1) := by
  unfold laws_szIntS.f
  rw [wrap_id (by omega) (by omega)]
  by_cases c : l.length ≤ 1048576
  · rw [if_neg (by omega), if_pos c]
  · rw [if_pos (by omega), if_neg c]
theorem toIntS_l0 (x0 : List Int) (h : x0.length ≤ 1048576) : ∀ (d i : Nat) (x3 : List Int), i + d = x0.length → x3.length = x0.length → x3.take i = x0.take i → Ev (fun k => laws_toIntS.l0 k x0 x3 i) x0
  | 0, i, x3, hi, h3, ht => by
    apply Ev.succ
    simp only [laws_toIntS.l0]
    refine Ev.neg (by omega) (Ev.const ?_)
    have e : i = x0.length := by omega
    rw [e, List.take_of_length_le (by omega), List.take_of_length_le (by omega)] at ht
    rw [ht]
  | d + 1, i, x3, hi, h3, ht => by
    apply Ev.succ
    simp only [laws_toIntS.l0]
    refine Ev.pos (by omega) (Ev.pos (by omega) (Ev.pos (by omega) ?_))
    rw [wrap_id (by omega) (by omega), Int.toNat_natCast, rd_nat x0 i (by omega)]
    have := toIntS_l0 x0 h d (i + 1) (x3.set i x0[i]) (by omega) (by simp [h3]) (by
      rw [List.take_succ_eq_append_getElem (by simp; omega), List.take_succ_eq_append_getElem (by omega), List.take_set_of_le (Nat.le_refl _), ht]
      simp)
    exact_mod_cast this
theorem toIntS_ev (l : List Int) (h : l.length ≤ 1048576) : Ev (fun k => laws_toIntS.f k l) l := by
  unfold laws_toIntS.f
  refine Ev.pos (by omega) (Ev.pos (by omega) ?_)
  exact toIntS_l0 l h l.length 0 _ (by omega) (by simp) (by simp)
theorem eqIntS_l0 (a b : List Int) (h : a.length = b.length) (hl : a.length ≤ 9223372036854775806) : ∀ (d i : Nat), i + d = a.length → Ev (fun k => laws_eqIntS.l0 k a b i) (decide (a.drop i = b.drop i))
  | 0, i, hi => by
    apply Ev.succ
    simp only [laws_eqIntS.l0]
    refine Ev.neg (by omega) (Ev.const ?_)
    rw [List.drop_of_length_le (by omega), List.drop_of_length_le (by omega)]; simp
  | d + 1, i, hi => by
    apply Ev.succ
    simp only [laws_eqIntS.l0]
    refine Ev.pos (by omega) (Ev.pos (by omega) (Ev.pos (by omega) ?_))
    rw [wrap_id (by omega) (by omega), rd_nat a i (by omega), rd_nat b i (by omega), List.drop_eq_getElem_cons (l := a) (by omega), List.drop_eq_getElem_cons (l := b) (by omega)]
    by_cases e : a[i] = b[i]
    · refine Ev.pos e ?_
      have := eqIntS_l0 a b h hl d (i + 1) (by omega)
      simp only [List.cons.injEq, e, true_and]
      exact_mod_cast this
    · refine Ev.neg e (Ev.const ?_)
      rw [decide_eq_false (fun h' => e (List.cons.inj h').1)]
theorem eqIntS_ev (a b : List Int) (hl : a.length ≤ 9223372036854775806) : Ev (fun k => laws_eqIntS.f k a b) (decide (a = b)) := by
  unfold laws_eqIntS.f
  by_cases h : a.length = b.length
  · refine Ev.pos (by omega) ?_
    exact eqIntS_l0 a b h hl a.length 0 (by omega)
  · refine Ev.neg (by omega) (Ev.const ?_)
    have : a ≠ b := fun e => h (by rw [e])
    simp [this]
end Go.Proofs.Ytlkpilmcakeadaa

namespace Go.Proofs.Ytlkpilmcakeadaa
open Go.RowKit Go.Proofs.Ytlkpilmcakeadaa.P Go.Proofs.YtlkpilmcakeadaaW.PrintWords
theorem szScheme_eq (m : Int) (l : List Int) (h : l.length ≤ 9223372036854775807) : laws_szScheme.f m l 1048576 = some (if l.length ≤ 1048576 then 1048576 - (l.length : Int) else -1) := by
  unfold laws_szScheme.f
  rw [szIntS_eq l h]
  simp only [Option.bind_some]
  by_cases c : l.length ≤ 1048576
  · rw [if_pos c, if_neg (by omega)]
  · rw [if_neg c, if_pos (by omega)]
theorem toScheme_ev (m : Int) (l : List Int) (h : l.length ≤ 1048576) : Ev (fun k => laws_toScheme.f k m l) (m, l) := by
  unfold laws_toScheme.f
  exact Ev.bind (toIntS_ev l h) (Ev.now _)
theorem eqScheme_ev (m : Int) (l : List Int) (h : l.length ≤ 1048576) : Ev (fun k => laws_eqScheme.f k m l m l) true := by
  unfold laws_eqScheme.f
  refine Ev.pos rfl (Ev.bind (eqIntS_ev l l (by omega)) ?_)
  simp only [decide_true, if_true]
  exact Ev.now _
theorem l1In_eq (n a b : Int) : spec_l1In.f n a b = some (decide (a ≤ n) && decide (n ≤ b)) := by
  unfold spec_l1In.f
  by_cases h : a ≤ n
  · rw [if_pos h]; simp [h]
  · rw [if_neg h]; simp [h]
theorem l1All_l0 (lo hi : Int) (l : List Int) (hl : l.length ≤ 9223372036854775806) : ∀ (d i : Nat), i + d = l.length → Ev (fun k => spec_l1All.l0 k lo hi l (l.length : Int) i) ((l.drop i).all fun x => decide (lo ≤ x) && decide (x ≤ hi))
  | 0, i, hi => by
    apply Ev.succ
    simp only [spec_l1All.l0]
    refine Ev.neg (by omega) (Ev.const ?_)
    rw [List.drop_of_length_le (by omega)]; rfl
  | d + 1, i, he => by
    apply Ev.succ
    simp only [spec_l1All.l0]
    refine Ev.pos (by omega) (Ev.pos (by omega) (Ev.pos (by omega) (Ev.bindc (l1In_eq _ _ _) ?_)))
    rw [wrap_id (by omega) (by omega), rd_nat l i (by omega), List.drop_eq_getElem_cons (l := l) (by omega), List.all_cons]
    cases hc : (decide (lo ≤ l[i]) && decide (l[i] ≤ hi)) with
    | true =>
      refine Ev.pos rfl ?_
      have := l1All_l0 lo hi l hl d (i + 1) (by omega)
      simp only [Bool.true_and]
      exact_mod_cast this
    | false => exact Ev.neg (by decide) (Ev.now _)
theorem l1All_ev (lo hi : Int) (l : List Int) (hl : l.length ≤ 9223372036854775806) : Ev (fun k => spec_l1All.f k l lo hi) (l.all fun x => decide (lo ≤ x) && decide (x ≤ hi)) := by
  unfold spec_l1All.f
  exact l1All_l0 lo hi l hl l.length 0 (by omega)
/-- Is a scheme right? -/
def goodB (m : Int) (l : List Int) : Bool := decide (2 ≤ m) && decide (m ≤ 13) && (decide (1 ≤ l.length) && decide (l.length ≤ 12)) && l.all fun x => decide (0 ≤ x) && decide (x ≤ m - 1)
theorem ckGood_ev (m : Int) (l : List Int) (hl : l.length ≤ 1048576) : Ev (fun k => spec_ckGood.f k m l) (goodB m l) := by
  unfold spec_ckGood.f goodB
  refine Ev.bindc (l1In_eq _ _ _) ?_
  cases h1 : (decide (2 ≤ m) && decide (m ≤ 13)) with
  | false => exact Ev.neg (by decide) (Ev.now _)
  | true =>
    refine Ev.pos rfl (Ev.bindc (l1In_eq _ _ _) ?_)
    have hm : 2 ≤ m ∧ m ≤ 13 := by simpa using h1
    have e : (decide ((1 : Int) ≤ (l.length : Int)) && decide ((l.length : Int) ≤ 12)) = (decide (1 ≤ l.length) && decide (l.length ≤ 12)) := by
      congr 1 <;> (rw [decide_eq_decide]; omega)
    rw [e]
    cases h2 : (decide (1 ≤ l.length) && decide (l.length ≤ 12)) with
    | false => exact Ev.neg (by decide) (Ev.now _)
    | true =>
      refine Ev.pos rfl (Ev.bind (l1All_ev _ _ l (by omega)) ?_)
      rw [wrap_id (by omega) (by omega)]
      simp only [Bool.true_and]
      exact Ev.now _
theorem implIsScheme_good (m : Int) (l : List Int) : impl_IsScheme.f m l = some (goodB m l) := by
  unfold impl_IsScheme.f goodB
  by_cases h1 : 2 ≤ m ∧ m ≤ 13
  · rw [wrap_id (by omega) (by omega)]
    congr 1
    rw [← Bool.and_assoc (decide (2 ≤ m) && decide (m ≤ 13))]
    congr 1
    rw [List.not_any_eq_all_not]
    simp
  · have : (decide (2 ≤ m) && decide (m ≤ 13)) = false := by
      rw [Bool.and_eq_false_iff]; simp only [decide_eq_false_iff_not]; omega
    simp [this]
end Go.Proofs.Ytlkpilmcakeadaa

-- printed by xprint.py
namespace Go.Proofs.Ytlkpilmcakeadaa.P
open Go.RowKit Go.Proofs.YtlkpilmcakeadaaW.PrintWords Go.Proofs.YtlkpilmcakeadaaW.PrintLast Go.Proofs.YtlkpilmcakeadaaW.PrintMore
attribute [local go_sem] max2_int min2_int max_two min_two max_three min_three max_four min_four   -- for this text's walks alone
set_option linter.unusedVariables false
set_option linter.unusedSimpArgs false

/-! ### impl_pairsOf: function 26 -/
mutual
def impl_pairsOf.l0 : Nat → (Int → Int → Option Bool) → List (List Int) → Int → Option ((List (List Int)))
 | 0, _, _, _ => none
 | k + 1, x0, x3, x7 => if x7 < 10 then (impl_pairsOf.l1 k x0 x3 x7 (wrap64 (x7 + 1)) x7) else (some x3)
def impl_pairsOf.l1 : Nat → (Int → Int → Option Bool) → List (List Int) → Int → Int → Int → Option ((List (List Int)))
 | 0, _, _, _, _, _ => none
 | k + 1, x0, x3, x4, x5, x7 => if x5 < 10 then ((x0 x4 x5).bind fun t104 => (if t104 = true then (if x3.length < 5864062014805 then (impl_pairsOf.l1 k x0 (x3 ++ [(([x4, x5] : List Int))]) x4 (wrap64 (x5 + 1)) x7) else (none)) else (impl_pairsOf.l1 k x0 x3 x4 (wrap64 (x5 + 1)) x7))) else (impl_pairsOf.l0 k x0 x3 (wrap64 (x7 + 1)))
end
def impl_pairsOf.f (k : Nat) (F0 : (Int → Int → Option Bool)) : Option ((List (List Int))) := impl_pairsOf.l0 k F0 (([] : List (List Int))) 0
theorem impl_pairsOf.mono_l : ∀ k, (∀ (y0 y0_ : (Int → Int → Option Bool)) (hm0_ : ∀ u0 u1, LeO (y0 u0 u1) (y0_ u0 u1)) y1 y2, LeO (impl_pairsOf.l0 k y0 y1 y2) (impl_pairsOf.l0 (k + 1) y0_ y1 y2)) ∧ (∀ (y0 y0_ : (Int → Int → Option Bool)) (hm0_ : ∀ u0 u1, LeO (y0 u0 u1) (y0_ u0 u1)) y1 y2 y3 y4, LeO (impl_pairsOf.l1 k y0 y1 y2 y3 y4) (impl_pairsOf.l1 (k + 1) y0_ y1 y2 y3 y4))
 | 0 => ⟨by intros; intro r h; simp [impl_pairsOf.l0] at h, by intros; intro r h; simp [impl_pairsOf.l1] at h⟩
 | k + 1 => by
  obtain ⟨ih0, ih1⟩ := impl_pairsOf.mono_l k
  refine ⟨?_, ?_⟩
  ·
   intro y0 y0_ hm0_ y1 y2
   unfold impl_pairsOf.l0
   repeat' first
   | (with_reducible exact ih0 _ _ (by intros; first | exact LeO.refl _ | apply hm0_ | apply hm1_ | apply hm2_) _ _)
   | (with_reducible exact ih1 _ _ (by intros; first | exact LeO.refl _ | apply hm0_ | apply hm1_ | apply hm2_) _ _ _ _)
   | exact hm0_ _ _
   | (with_reducible exact LeO.refl _)
   | (with_reducible exact LeO.none _)
   | (with_reducible refine LeO.ite ?_ ?_)
   | (with_reducible refine LeO.bind ?_ (fun _ => ?_))
   | exact ih0 _ _ (by intros; first | exact LeO.refl _ | apply hm0_ | apply hm1_ | apply hm2_) _ _
   | exact ih1 _ _ (by intros; first | exact LeO.refl _ | apply hm0_ | apply hm1_ | apply hm2_) _ _ _ _
   | exact LeO.none _
   | refine LeO.ite ?_ ?_
   | refine LeO.bind ?_ (fun _ => ?_)
  ·
   intro y0 y0_ hm0_ y1 y2 y3 y4
   unfold impl_pairsOf.l1
   repeat' first
   | (with_reducible exact ih0 _ _ (by intros; first | exact LeO.refl _ | apply hm0_ | apply hm1_ | apply hm2_) _ _)
   | (with_reducible exact ih1 _ _ (by intros; first | exact LeO.refl _ | apply hm0_ | apply hm1_ | apply hm2_) _ _ _ _)
   | exact hm0_ _ _
   | (with_reducible exact LeO.refl _)
   | (with_reducible exact LeO.none _)
   | (with_reducible refine LeO.ite ?_ ?_)
   | (with_reducible refine LeO.bind ?_ (fun _ => ?_))
   | exact ih0 _ _ (by intros; first | exact LeO.refl _ | apply hm0_ | apply hm1_ | apply hm2_) _ _
   | exact ih1 _ _ (by intros; first | exact LeO.refl _ | apply hm0_ | apply hm1_ | apply hm2_) _ _ _ _
   | exact LeO.none _
   | refine LeO.ite ?_ ?_
   | refine LeO.bind ?_ (fun _ => ?_)
theorem impl_pairsOf.mono : ∀ (y0 y0_ : (Int → Int → Option Bool)) (hm0_ : ∀ u0 u1, LeO (y0 u0 u1) (y0_ u0 u1)) k, LeO (impl_pairsOf.f k y0) (impl_pairsOf.f (k + 1) y0_) := by
 intro y0 y0_ hm0_ k
 obtain ⟨ih0, ih1⟩ := impl_pairsOf.mono_l k
 unfold impl_pairsOf.f
 repeat' first
   | (with_reducible exact ih0 _ _ (by intros; first | exact LeO.refl _ | apply hm0_ | apply hm1_ | apply hm2_) _ _)
   | (with_reducible exact ih1 _ _ (by intros; first | exact LeO.refl _ | apply hm0_ | apply hm1_ | apply hm2_) _ _ _ _)
   | exact hm0_ _ _
   | (with_reducible exact LeO.refl _)
   | (with_reducible exact LeO.none _)
   | (with_reducible refine LeO.ite ?_ ?_)
   | (with_reducible refine LeO.bind ?_ (fun _ => ?_))
   | exact ih0 _ _ (by intros; first | exact LeO.refl _ | apply hm0_ | apply hm1_ | apply hm2_) _ _
   | exact ih1 _ _ (by intros; first | exact LeO.refl _ | apply hm0_ | apply hm1_ | apply hm2_) _ _ _ _
   | exact LeO.none _
   | refine LeO.ite ?_ ?_
   | refine LeO.bind ?_ (fun _ => ?_)
set_option maxHeartbeats 8000000 in
set_option maxRecDepth 100000 in
theorem impl_pairsOf.calls (k : Nat) (F0 : (Int → Int → Option Bool)) (G0 : Nat) (L0 : Array Value) (r : List (List Int)) (w : World) (eg0 : ∀ args w, (callFunc G0 args).run Try.prog w = .ok (.enter G0 args) w) (hF0 : ∀ (W : World) (z0_ : Int) (z1_ : Int) (t : Bool), F0 z0_ z1_ = some t → Below w.heap.size w W → Calls Try.prog G0 (#[.int .i64 z0_, .int .i64 z1_] ++ L0) W fun e W' => e = .returned (.bool t) ∧ Below W.heap.size W W') (h : impl_pairsOf.f k F0 = some r) :
  Calls Try.prog 26 #[.func (.func G0) #[] L0] w fun e w' => ∃ v0_ : Value, e = .returned (v0_) ∧ Kd.S (Kd.slice 3 (Kd.int .i64)) 27 w' w.heap.size (fun _ => True) v0_ r ∧ Below w.heap.size w w' := by
 have HF0 := Aside0.mk hF0
 clear hF0
 have HB := Aside0.mk (Below.refl w.heap.size w)
 have H : (impl_pairsOf.l0 k F0 (([] : List (List Int))) 0) = some r := h
 clear h
 obtain ⟨y101, hy101⟩ : ∃ y_ : List (List Int), y_ = (([] : List (List Int))) := ⟨_, rfl⟩
 replace H : (impl_pairsOf.l0 k F0 y101 0) = some r := by first | (rw [hy101]; with_reducible exact H) | (have H2_ := (Option.bind_some _ _).symm.trans H; rw [hy101]; with_reducible exact H2_) | (have H2_ := (Option.bind_some _ _).symm.trans H; with_reducible exact H2_) | with_reducible exact H | (rw [hy101]; exact H) | exact H
 have Ny101 := Aside0.mk hy101
 clear hy101
 have H' := Aside0.mk H
 clear H
 go_enter Try.func26, Try.ntmps26
 go_wp2_with (first | ((with_reducible refine gate_dst (N := 6) rfl ?_); refine Kd.S_lit (Kd.slice 3 (Kd.int .i64)) _ 27 ?hg (N := 6) ?hd (xs := ([] : List (List Int))) (inner := []) (ok := fun _ => True) (okp := fun _ => True) ?hr ?hp (fun _ hk => hk) trivial (Below.refl _ _) (Nat.le_refl _) (by simp) ?_; (case hd => rfl); (case hg => rfl); (case hr => first | (go_simp; done) | (go_simp; rfl)); (case hp => exact (Reps.none _ _)); intro v102 w2 ho3 hb hg_ hnew_; clear hg_ hnew_; (first | rw [← Ny101.out] at ho3 | (simp only [Int.reduceToNat] at ho3; rw [← Ny101.out] at ho3)); have n0_ := Aside0.mk (Kd.S_lower ho3 (below_size (by repeat (first | (with_reducible first | exact HB.out | apply below_alloc | apply pw_below_drewN | apply below_drew1) | exact HB.out)))); have n1_ := Aside0.mk (below_step (by repeat (first | (with_reducible first | exact HB.out | apply below_alloc | apply pw_below_drewN | apply below_drew1) | exact HB.out)) hb); clear HB; have HO103 := n0_; have HB := n1_; clear n0_ n1_; clear hb ho3))
 go_loopg [3, 7] k (fun kq v3 v7 w' => ∃ (x3_1 : List (List Int)) (x7_1 : Int), v7 = .int .i64 x7_1 ∧ Aside0 (impl_pairsOf.l0 kq F0 x3_1 x7_1 = some r) ∧ Aside0 (kq ≤ k) ∧ Aside0 (Kd.S (Kd.slice 3 (Kd.int .i64)) 27 w' w.heap.size (fun _ => True) v3 x3_1) ∧ Aside0 (Below w.heap.size w w'))
 case atStart => exact ⟨(y101), (0), (by first | rfl | (simp; done) | (simp [*]; done)), H', ⟨Nat.le_refl _⟩, ⟨by (with_reducible repeat (first | apply Kd.S_alloc | apply Kd.S_drewN | apply Kd.S_drew)); exact HO103.out⟩, ⟨by repeat (first | (with_reducible first | exact HB.out | apply below_alloc | apply pw_below_drewN | apply below_drew1) | exact HB.out)⟩⟩
 case round =>
  clear H'
  try clear c2
  try clear p2
  obtain ⟨x3_1, x7_1, rfl, HA, HK1, HO_3, HB⟩ := hrel
  cases gk with
  | zero => exact absurd HA.out (by simp [impl_pairsOf.l0])
  | succ k1 =>
   have H := HA.out
   clear HA
   simp only [impl_pairsOf.l0] at H
   by_cases c4 : x7_1 < 10
   ·
    rw [if_pos c4] at H
    have c4b0 : decide (x7_1 < 10) = true := decide_eq_true c4
    clear c4
    have H' := Aside0.mk H
    clear H
    go_wp2
    go_loopg [3, 5] k1 (fun kq v3 v5 w' => ∃ (x3_2 : List (List Int)) (x5_2 : Int), v5 = .int .i64 x5_2 ∧ Aside0 (impl_pairsOf.l1 kq F0 x3_2 x7_1 x5_2 x7_1 = some r) ∧ Aside0 (kq ≤ k1) ∧ Aside0 (Kd.S (Kd.slice 3 (Kd.int .i64)) 27 w' w.heap.size (fun _ => True) v3 x3_2) ∧ Aside0 (Below w.heap.size w w'))
    case atStart => exact ⟨(x3_1), (wrap64 (x7_1 + 1)), (by first | rfl | (simp; done) | (simp [*]; done)), H', ⟨Nat.le_refl _⟩, ⟨by (with_reducible repeat (first | apply Kd.S_alloc | apply Kd.S_drewN | apply Kd.S_drew)); exact HO_3.out⟩, ⟨by repeat (first | (with_reducible first | exact HB.out | apply below_alloc | apply pw_below_drewN | apply below_drew1) | exact HB.out)⟩⟩
    case round =>
     clear H'
     try clear c2
     try clear p2
     try clear c4
     try clear c4b0
     try clear p2
     obtain ⟨x3_2, x5_2, rfl, HA, HK2, HO_3, HB⟩ := hrel
     cases gk with
     | zero => exact absurd HA.out (by simp [impl_pairsOf.l1])
     | succ k2 =>
      have H := HA.out
      clear HA
      simp only [impl_pairsOf.l1] at H
      by_cases c5 : x5_2 < 10
      ·
       rw [if_pos c5] at H
       have c5b0 : decide (x5_2 < 10) = true := decide_eq_true c5
       clear c5
       replace H := Option.bind_eq_some_iff.mp H
       obtain ⟨t104, A60, H⟩ := H
       replace H : (if t104 = true then (if x3_2.length < 5864062014805 then (impl_pairsOf.l1 k2 F0 (x3_2 ++ [(([x7_1, x5_2] : List Int))]) x7_1 (wrap64 (x5_2 + 1)) x7_1) else (none)) else (impl_pairsOf.l1 k2 F0 x3_2 x7_1 (wrap64 (x5_2 + 1)) x7_1)) = some r := H
       have A6 := Aside0.mk A60
       clear A60
       by_cases c7 : t104 = true
       ·
        subst c7
        have H1 : (if x3_2.length < 5864062014805 then (impl_pairsOf.l1 k2 F0 (x3_2 ++ [(([x7_1, x5_2] : List Int))]) x7_1 (wrap64 (x5_2 + 1)) x7_1) else (none)) = some r := by rw [if_pos rfl] at H; exact H
        clear H
        have H := H1
        clear H1
        obtain ⟨y105, hy105⟩ : ∃ y_ : List Int, y_ = (([x7_1, x5_2] : List Int)) := ⟨_, rfl⟩
        replace H : (if x3_2.length < 5864062014805 then (impl_pairsOf.l1 k2 F0 (x3_2 ++ [y105]) x7_1 (wrap64 (x5_2 + 1)) x7_1) else (none)) = some r := by first | (rw [hy105]; with_reducible exact H) | (have H2_ := (Option.bind_some _ _).symm.trans H; rw [hy105]; with_reducible exact H2_) | (have H2_ := (Option.bind_some _ _).symm.trans H; with_reducible exact H2_) | with_reducible exact H | (rw [hy105]; exact H) | exact H
        have Ny105 := Aside0.mk hy105
        clear hy105
        by_cases c8 : x3_2.length < 5864062014805
        ·
         rw [if_pos c8] at H
         have LMc8 := Aside0.mk c8
         clear c8
         obtain ⟨y108, hy108⟩ : ∃ y_ : List (List Int), y_ = (x3_2 ++ [y105]) := ⟨_, rfl⟩
         replace H : (impl_pairsOf.l1 k2 F0 y108 x7_1 (wrap64 (x5_2 + 1)) x7_1) = some r := by first | (rw [hy108]; with_reducible exact H) | (have H2_ := (Option.bind_some _ _).symm.trans H; rw [hy108]; with_reducible exact H2_) | (have H2_ := (Option.bind_some _ _).symm.trans H; with_reducible exact H2_) | with_reducible exact H | (rw [hy108]; exact H) | exact H
         have Ny108 := Aside0.mk hy108
         clear hy108
         have H' := Aside0.mk H
         clear H
         go_wp2_with (first | ((with_reducible refine (HF0.out _ x7_1 x5_2 true A6.out (by repeat (first | (with_reducible first | exact HB.out | apply below_alloc | apply pw_below_drewN | apply below_drew1) | exact HB.out))).mono ?_); rintro e w9 ⟨rfl, hb⟩; have n0_ := Aside0.mk (Kd.S_below (by (with_reducible repeat (first | apply Kd.S_alloc | apply Kd.S_drewN | apply Kd.S_drew)); exact HO_3.out) hb); have n1_ := Aside0.mk (below_step (by repeat (first | (with_reducible first | exact HB.out | apply below_alloc | apply pw_below_drewN | apply below_drew1) | exact HB.out)) hb); clear HO_3; clear HB; have HO_3 := n0_; have HB := n1_; clear n0_ n1_; (try clear hb); (try clear hb2); (try clear hk); (try clear hi)) | ((with_reducible refine gate_dst (N := 23) rfl ?_); refine Kd.R_lit (Kd.int .i64) _ 3 ?hg (N := 23) ?hd (xs := ([x7_1, x5_2] : List Int)) (inner := [.int .i64 x7_1, .int .i64 x5_2]) (ok := fun _ => True) (okp := fun _ => True) ?hr ?hp (fun _ hk => hk) trivial (Below.refl _ _) (Nat.le_refl _) (by simp) ?_; (case hd => rfl); (case hg => rfl); (case hr => first | (go_simp; done) | (go_simp; rfl)); (case hp => exact (Reps.one (show Kd.M (Kd.int .i64) _ _ _ x7_1 [.int .i64 x7_1] from rfl) (Reps.one (show Kd.M (Kd.int .i64) _ _ _ x5_2 [.int .i64 x5_2] from rfl) (Reps.none _ _)))); intro v106 w10 ho11 hb hg_ hnew_; clear hg_ hnew_; (first | rw [← Ny105.out] at ho11 | (simp only [Int.reduceToNat] at ho11; rw [← Ny105.out] at ho11)); have n0_ := Aside0.mk (Kd.S_elder' (by (with_reducible repeat (first | apply Kd.S_alloc | apply Kd.S_drewN | apply Kd.S_drew)); exact HO_3.out) (Kd.R_base ho11) hb); have n1_ := Aside0.mk (Kd.R_lower ho11 (below_size (by repeat (first | (with_reducible first | exact HB.out | apply below_alloc | apply pw_below_drewN | apply below_drew1) | exact HB.out)))); have n2_ := Aside0.mk (below_step (by repeat (first | (with_reducible first | exact HB.out | apply below_alloc | apply pw_below_drewN | apply below_drew1) | exact HB.out)) hb); clear HO_3; clear HB; have HO_3 := n0_; have HO107 := n1_; have HB := n2_; clear n0_ n1_ n2_; clear hb ho11; obtain ⟨Ao13, co13, eo13⟩ := Kd.R_slice HO107.out; subst eo13) | ((with_reducible refine gate_builtin (b := .append) (xs := #[.tmp 20, .tmp 24]) rfl ?_); at_builtin; refine Kd.S_append (Kd.slice 3 (Kd.int .i64)) (w0 := w) w.heap.size rfl (.tmp 20) (.tmp 24) 22 27 (.slice none 0 0) 24 rfl Try.underlying22 info27 rfl (by decide) (by omega) u3 x3_2 y105 [.slice Ao13 y105.length co13] (fun _ => True) (fun k_ => some k_ = (.slice Ao13 y105.length co13 : Value).ownBlock) rfl rfl ?aP (fun k_ hk_ => ((Kd.R_mono (ok' := fun k_ => ((fun _ => True)) k_ ∧ some k_ ≠ (u3 : Value).ownBlock) (Kd.R_apart' (HO107.out) (Kd.S_typed HO_3.out) (by decide)) (fun k_ hk => ⟨trivial, hk.2⟩))).1 k_ hk_.symm) ?aF ?aO ?aB ?aS ?aL ?_; (case aP => exact Kd.M_row (Kd.R_mono (Kd.R_tight rfl (Kd.R_mono (ok' := fun k_ => ((fun _ => True)) k_ ∧ some k_ ≠ (u3 : Value).ownBlock) (Kd.R_apart' (HO107.out) (Kd.S_typed HO_3.out) (by decide)) (fun k_ hk => ⟨trivial, hk.2⟩))) (fun _ h_ => h_))); (case aB => exact (by repeat (first | (with_reducible first | exact HB.out | apply below_alloc | apply pw_below_drewN | apply below_drew1) | exact HB.out))); (case aF => exact (fun _ _ => trivial)); (case aO => exact (by (with_reducible repeat (first | apply Kd.S_alloc | apply Kd.S_drewN | apply Kd.S_drew)); exact Kd.S_mono HO_3.out (fun k_ hk => ⟨trivial, fun e_ => hk.2 e_⟩))); (case aS => exact (below_size (by repeat (first | (with_reducible first | exact HB.out | apply below_alloc | apply pw_below_drewN | apply below_drew1) | exact HB.out)))); (case aL => have := LMc8.out; omega); intro v109 w12 ho hb hg hat; rw [← Ny108.out] at ho; have n0_ := Aside0.mk (hb); have n1_ := Aside0.mk (ho); clear HB; clear HO_3; clear HO107; have HB := n0_; have HO110 := n1_; clear n0_ n1_; clear ho hb hg hat))
         go_roundg k2
         case measure => have := HK1.out; have := HK2.out; omega
         case rel => exact ⟨(y108), (wrap64 (x5_2 + 1)), (by first | rfl | (simp; done) | (simp [*]; done)), H', ⟨by have := HK1.out; have := HK2.out; omega⟩, ⟨by (with_reducible repeat (first | apply Kd.S_alloc | apply Kd.S_drewN | apply Kd.S_drew)); exact HO110.out⟩, ⟨by repeat (first | (with_reducible first | exact HB.out | apply below_alloc | apply pw_below_drewN | apply below_drew1) | exact HB.out)⟩⟩
        ·
         rw [if_neg c8] at H
         exact absurd H (by simp)
       ·
        replace c7 := Bool.eq_false_iff.mpr c7
        subst c7
        have H1 : (impl_pairsOf.l1 k2 F0 x3_2 x7_1 (wrap64 (x5_2 + 1)) x7_1) = some r := by rw [if_neg (show ¬ (false = true) by decide)] at H; exact H
        clear H
        have H := H1
        clear H1
        have H' := Aside0.mk H
        clear H
        go_wp2_with (first | ((with_reducible refine (HF0.out _ x7_1 x5_2 false A6.out (by repeat (first | (with_reducible first | exact HB.out | apply below_alloc | apply pw_below_drewN | apply below_drew1) | exact HB.out))).mono ?_); rintro e w14 ⟨rfl, hb⟩; have n0_ := Aside0.mk (Kd.S_below (by (with_reducible repeat (first | apply Kd.S_alloc | apply Kd.S_drewN | apply Kd.S_drew)); exact HO_3.out) hb); have n1_ := Aside0.mk (below_step (by repeat (first | (with_reducible first | exact HB.out | apply below_alloc | apply pw_below_drewN | apply below_drew1) | exact HB.out)) hb); clear HO_3; clear HB; have HO_3 := n0_; have HB := n1_; clear n0_ n1_; (try clear hb); (try clear hb2); (try clear hk); (try clear hi)))
        go_roundg k2
        case measure => have := HK1.out; have := HK2.out; omega
        case rel => exact ⟨(x3_2), (wrap64 (x5_2 + 1)), (by first | rfl | (simp; done) | (simp [*]; done)), H', ⟨by have := HK1.out; have := HK2.out; omega⟩, ⟨by (with_reducible repeat (first | apply Kd.S_alloc | apply Kd.S_drewN | apply Kd.S_drew)); exact HO_3.out⟩, ⟨by repeat (first | (with_reducible first | exact HB.out | apply below_alloc | apply pw_below_drewN | apply below_drew1) | exact HB.out)⟩⟩
      ·
       rw [if_neg c5] at H
       have c5b0 : decide (x5_2 < 10) = false := decide_eq_false c5
       clear c5
       have H' := Aside0.mk H
       clear H
       go_wp2
       go_roundg k2
       case measure => have := HK1.out; have := HK2.out; omega
       case rel => exact ⟨(x3_2), (wrap64 (x7_1 + 1)), (by first | rfl | (simp; done) | (simp [*]; done)), H', ⟨by have := HK1.out; have := HK2.out; omega⟩, ⟨by (with_reducible repeat (first | apply Kd.S_alloc | apply Kd.S_drewN | apply Kd.S_drew)); exact HO_3.out⟩, ⟨by repeat (first | (with_reducible first | exact HB.out | apply below_alloc | apply pw_below_drewN | apply below_drew1) | exact HB.out)⟩⟩
   ·
    rw [if_neg c4] at H
    have c4b0 : decide (x7_1 < 10) = false := decide_eq_false c4
    clear c4
    obtain rfl := Option.some.inj H
    go_wp2
    go_ret
    exact ⟨_, by first | rfl | (simp [errW_none, errW_some] <;> rfl) | (simp [*, errW_none, errW_some] <;> rfl), by (with_reducible repeat (first | apply Kd.S_alloc | apply Kd.S_drewN | apply Kd.S_drew)); exact HO_3.out, by repeat (first | (with_reducible first | exact HB.out | apply below_alloc | apply pw_below_drewN | apply below_drew1) | exact HB.out)⟩

end Go.Proofs.Ytlkpilmcakeadaa.P

-- printed by xprint.py
namespace Go.Proofs.Ytlkpilmcakeadaa.P
open Go.RowKit Go.Proofs.YtlkpilmcakeadaaW.PrintWords Go.Proofs.YtlkpilmcakeadaaW.PrintLast Go.Proofs.YtlkpilmcakeadaaW.PrintMore
attribute [local go_sem] max2_int min2_int max_two min_two max_three min_three max_four min_four   -- for this text's walks alone
set_option linter.unusedVariables false
set_option linter.unusedSimpArgs false

/-! ### impl_Scheme_missed: function 39 -/
/-- Is the difference of two digits, times a weight, divided? -/
def missedO (M W a b : Int) : Option Bool := if M = 0 then none else some (Int.tmod (wrap64 (wrap64 (b - a) * W)) M == 0)
def impl_Scheme_missed.f (k : Nat) (a0_0 : Int) (l0_1 : List Int) (a1 : Int) : Option (List (List Int)) := impl_pairsOf.f k (fun z0_ z1_ => missedO a0_0 a1 z0_ z1_)
theorem impl_Scheme_missed.mono : ∀ y0 y1 y2 k, LeO (impl_Scheme_missed.f k y0 y1 y2) (impl_Scheme_missed.f (k + 1) y0 y1 y2) := by
 intro y0 y1 y2 k
 unfold impl_Scheme_missed.f
 exact impl_pairsOf.mono _ _ (by intros; exact LeO.refl _) _
set_option maxHeartbeats 4000000 in
theorem impl_Scheme_missed.clo (M W a b : Int) (g1 g2 g0 : Nat) (A : Option Addr) (c n : Nat) (W0 : World) (h1 : W0.heap[g1]? = some (.cells #[.int .i64 W] 3 (0, 0))) (h2 : W0.heap[g2]? = some (.cells #[.pointer (some ⟨g0, 0, none⟩)] 59 (0, 0)))
  (h3 : W0.heap[g0]? = some (.cells #[.int .i64 M, .slice A n c] 33 (0, 0))) (hM : ¬ M = 0) :
  Calls Try.prog 48 #[.int .i64 a, .int .i64 b, .pointer (some ⟨g1, 0, none⟩), .pointer (some ⟨g2, 0, none⟩)] W0 fun e W' => e = .returned (.bool (Int.tmod (wrap64 (wrap64 (b - a) * W)) M == 0)) ∧ Drawn0 W0 W' := by
 have k1 : W0.cell? ⟨g1, 0, none⟩ = some (.int .i64 W) := (blk_cell h1 0).trans rfl
 have k2 : W0.cell? ⟨g2, 0, none⟩ = some (.pointer (some ⟨g0, 0, none⟩)) := (blk_cell h2 0).trans rfl
 have k3 : W0.cell? ⟨g0, 0, none⟩ = some (.int .i64 M) := (blk_cell h3 0).trans rfl
 have m1 : (M == 0) = false := beq_eq_false_iff_ne.mpr hM
 have m2 : (M != 0) = true := bne_iff_ne.mpr hM
 clear h1 h2 h3
 go_enter Try.func48, Try.ntmps48
 go_wp2
 repeat (go_quiet (fail); try go_wp2)
 go_ret
 exact ⟨by first | rfl | (simp; done) | (simp [*]; done), by repeat (first | exact Drawn0.refl _ | apply Drawn0.step)⟩
set_option maxHeartbeats 4000000 in
theorem impl_Scheme_missed.calls (k : Nat) (g0 : Nat) (a0_0 : Int) (A0_1 : Option Addr) (c0_1 : Nat) (l0_1 : List Int) (a1 : Int) (r : List (List Int)) (w : World) (hb0 : w.heap[g0]? = some (.cells #[.int .i64 a0_0, .slice A0_1 l0_1.length c0_1] 33 (0, 0))) (hr0_1 : Kd.C (Kd.int .i64) w A0_1 l0_1.length l0_1) (hc0_1 : l0_1.length ≤ c0_1) (h : impl_Scheme_missed.f k a0_0 l0_1 a1 = some r) :
  Calls Try.prog 39 #[.pointer (some ⟨g0, 0, none⟩), .int .i64 a1] w fun e w' => ∃ v0_ : Value, e = .returned (v0_) ∧ Kd.S (Kd.slice 3 (Kd.int .i64)) 27 w' w.heap.size (fun _ => True) v0_ r ∧ Below w.heap.size w w' := by
 have eg : ∀ args w, (callFunc 48 args).run Try.prog w = .ok (.enter 48 args) w := enters_of Try.func48 (by kernel_rfl) rfl
 unfold impl_Scheme_missed.f at h
 have hb1 := (below_alloc (below_alloc (Below.refl w.heap.size w) (.cells #[.pointer (some ⟨g0, 0, none⟩)] 59 (0, 0))) (.cells #[.int .i64 a1] 3 (0, 0)))
 have q1 : ((w.alloc (.cells #[.pointer (some ⟨g0, 0, none⟩)] 59 (0, 0))).alloc (.cells #[.int .i64 a1] 3 (0, 0))).heap[w.heap.size + 1]? = some (.cells #[.int .i64 a1] 3 (0, 0)) := by
  have := heap_alloc_new (w.alloc (.cells #[.pointer (some ⟨g0, 0, none⟩)] 59 (0, 0))) (.cells #[.int .i64 a1] 3 (0, 0))
  simpa using this
 have q2 : ((w.alloc (.cells #[.pointer (some ⟨g0, 0, none⟩)] 59 (0, 0))).alloc (.cells #[.int .i64 a1] 3 (0, 0))).heap[w.heap.size]? = some (.cells #[.pointer (some ⟨g0, 0, none⟩)] 59 (0, 0)) := by
  have := heap_alloc_new w (.cells #[.pointer (some ⟨g0, 0, none⟩)] 59 (0, 0))
  exact blk_alloc (by simpa using this) _
 have q3 := blk_below hb0 hb1
 have HC := Aside0.mk (fun (W0 : World) => fun h1 h2 h3 => impl_pairsOf.calls k (fun z0_ z1_ => missedO a0_0 a1 z0_ z1_) 48 #[.pointer (some ⟨w.heap.size + 1, 0, none⟩), .pointer (some ⟨w.heap.size, 0, none⟩)] r W0 eg (fun W z0 z1 t ht hb => by
  unfold missedO at ht
  split at ht
  ·
   cases ht
  ·
   rename_i hM
   obtain rfl := Option.some.inj ht
   exact (impl_Scheme_missed.clo a0_0 a1 z0 z1 (w.heap.size + 1) w.heap.size g0 A0_1 c0_1 l0_1.length W (blk_below h1 hb) (blk_below h2 hb) (blk_below h3 hb) hM).mono fun e W' he => ⟨he.1, he.2.below⟩) h)
 have Q1 := Aside0.mk q1
 have Q2 := Aside0.mk q2
 have Q3 := Aside0.mk q3
 have HB1 := Aside0.mk hb1
 clear hb0 hr0_1 hc0_1 h q1 q2 q3 hb1
 go_enter Try.func39, Try.ntmps39
 go_wp2_with fail
 refine (HC.out _ Q1.out Q2.out Q3.out).mono ?_
 rintro e w' ⟨v, rfl, hS, hb⟩
 have HS := Aside0.mk (Kd.S_lower hS (below_size HB1.out))
 have HB2 := Aside0.mk (below_step HB1.out hb)
 clear hS hb
 go_wp2_with fail
 go_ret
 exact ⟨_, rfl, HS.out, HB2.out⟩

end Go.Proofs.Ytlkpilmcakeadaa.P

-- printed by xprint.py
namespace Go.Proofs.Ytlkpilmcakeadaa.P
open Go.RowKit Go.Proofs.YtlkpilmcakeadaaW.PrintWords Go.Proofs.YtlkpilmcakeadaaW.PrintLast Go.Proofs.YtlkpilmcakeadaaW.PrintMore
attribute [local go_sem] max2_int min2_int max_two min_two max_three min_three max_four min_four   -- for this text's walks alone
set_option linter.unusedVariables false
set_option linter.unusedSimpArgs false

/-! ### spec_l1Most: function 50 -/
def spec_l1Most.f (a0 : Int) (a1 : Int) : Option (Int) := if a0 > a1 then (some a0) else (some a1)
set_option maxHeartbeats 8000000 in
set_option maxRecDepth 100000 in
theorem spec_l1Most.calls (a0 : Int) (a1 : Int) (r : Int) (w : World) (h : spec_l1Most.f a0 a1 = some r) :
  Calls Try.prog 50 #[.int .i64 a0, .int .i64 a1] w fun e w' => e = .returned (.int .i64 r) ∧ Drawn0 w w' := by
 have H : (if a0 > a1 then (some a0) else (some a1)) = some r := h
 clear h
 by_cases c3 : a0 > a1
 ·
  rw [if_pos c3] at H
  have c3b0 : decide (a1 < a0) = true := decide_eq_true c3
  clear c3
  obtain rfl := Option.some.inj H
  go_enter Try.func50, Try.ntmps50
  go_wp2
  go_ret
  exact ⟨by first | rfl | (simp; done) | (simp [*]; done), by repeat (first | exact Drawn0.refl _ | apply Drawn0.step)⟩
 ·
  rw [if_neg c3] at H
  have c3b0 : decide (a1 < a0) = false := decide_eq_false c3
  clear c3
  obtain rfl := Option.some.inj H
  go_enter Try.func50, Try.ntmps50
  go_wp2
  go_ret
  exact ⟨by first | rfl | (simp; done) | (simp [*]; done), by repeat (first | exact Drawn0.refl _ | apply Drawn0.step)⟩

end Go.Proofs.Ytlkpilmcakeadaa.P

-- printed by xprint.py
namespace Go.Proofs.Ytlkpilmcakeadaa.P
open Go.RowKit Go.Proofs.YtlkpilmcakeadaaW.PrintWords Go.Proofs.YtlkpilmcakeadaaW.PrintLast Go.Proofs.YtlkpilmcakeadaaW.PrintMore
attribute [local go_sem] max2_int min2_int max_two min_two max_three min_three max_four min_four   -- for this text's walks alone
set_option linter.unusedVariables false
set_option linter.unusedSimpArgs false

/-! ### spec_l1Abs: function 45 -/
def spec_l1Abs.f (a0 : Int) : Option (Int) := (spec_l1Most.f a0 (wrap64 (-a0))).bind fun t101 => (some t101)
set_option maxHeartbeats 8000000 in
set_option maxRecDepth 100000 in
theorem spec_l1Abs.calls (a0 : Int) (r : Int) (w : World) (h : spec_l1Abs.f a0 = some r) :
  Calls Try.prog 45 #[.int .i64 a0] w fun e w' => e = .returned (.int .i64 r) ∧ Drawn0 w w' := by
 have H : ((spec_l1Most.f a0 (wrap64 (-a0))).bind fun t101 => (some t101)) = some r := h
 clear h
 replace H := Option.bind_eq_some_iff.mp H
 obtain ⟨t101, A20, H⟩ := H
 replace H : (some t101) = some r := H
 have A2 := Aside0.mk A20
 clear A20
 obtain rfl := Option.some.inj H
 go_enter Try.func45, Try.ntmps45
 go_wp2_with (first | ((with_reducible refine gate_callee (f := 50) rfl ?_); refine goesL_ (some 6) rfl rfl Try.func50 (by kernel_rfl) rfl #[.int .i64 a0, .int .i64 (wrap64 (-a0))] rfl (by (try simp only [List.map_toArray, List.map_cons, List.map_nil]); first | done | rfl | (simp only [List.length_drop, List.length_take]; rfl)) ?_; (with_reducible refine (spec_l1Most.calls a0 (wrap64 (-a0)) t101 _ A2.out).mono ?_); rintro e w' ⟨rfl, ⟨nd, rfl⟩⟩; refine ⟨_, rfl, ?_⟩))
 go_ret
 exact ⟨by first | rfl | (simp; done) | (simp [*]; done), by repeat (first | exact Drawn0.refl _ | apply Drawn0.step)⟩

end Go.Proofs.Ytlkpilmcakeadaa.P

-- printed by xprint.py
namespace Go.Proofs.Ytlkpilmcakeadaa.P
open Go.RowKit Go.Proofs.YtlkpilmcakeadaaW.PrintWords Go.Proofs.YtlkpilmcakeadaaW.PrintLast Go.Proofs.YtlkpilmcakeadaaW.PrintMore
attribute [local go_sem] max2_int min2_int max_two min_two max_three min_three max_four min_four   -- for this text's walks alone
set_option linter.unusedVariables false
set_option linter.unusedSimpArgs false

/-! ### spec_ckMissed: function 34 -/
mutual
def spec_ckMissed.l0 : Nat → Int → Int → List (List Int) → Int → Option ((List (List Int)))
 | 0, _, _, _, _ => none
 | k + 1, x0, x1, x5, x6 => if x6 < 10 then (spec_ckMissed.l1 k x0 x1 x5 x6 (wrap64 (x6 + 1))) else (some x5)
def spec_ckMissed.l1 : Nat → Int → Int → List (List Int) → Int → Int → Option ((List (List Int)))
 | 0, _, _, _, _, _ => none
 | k + 1, x0, x1, x5, x6, x7 => if x7 < 10 then ((spec_l1Abs.f x0).bind fun t101 => (if x1 = 0 then (none) else (if (Int.tmod (wrap64 ((wrap64 (x7 - x6)) * t101)) x1) = 0 then (if x5.length < 5864062014805 then (spec_ckMissed.l1 k x0 x1 (x5 ++ [(([x6, x7] : List Int))]) x6 (wrap64 (x7 + 1))) else (none)) else (spec_ckMissed.l1 k x0 x1 x5 x6 (wrap64 (x7 + 1)))))) else (spec_ckMissed.l0 k x0 x1 x5 (wrap64 (x6 + 1)))
end
def spec_ckMissed.f (k : Nat) (a0 : Int) (a1 : Int) : Option ((List (List Int))) := spec_ckMissed.l0 k a0 a1 ([] : List (List Int)) 0
theorem spec_ckMissed.mono_l : ∀ k, (∀ y0 y1 y2 y3, LeO (spec_ckMissed.l0 k y0 y1 y2 y3) (spec_ckMissed.l0 (k + 1) y0 y1 y2 y3)) ∧ (∀ y0 y1 y2 y3 y4, LeO (spec_ckMissed.l1 k y0 y1 y2 y3 y4) (spec_ckMissed.l1 (k + 1) y0 y1 y2 y3 y4))
 | 0 => ⟨by intros; intro r h; simp [spec_ckMissed.l0] at h, by intros; intro r h; simp [spec_ckMissed.l1] at h⟩
 | k + 1 => by
  obtain ⟨ih0, ih1⟩ := spec_ckMissed.mono_l k
  refine ⟨?_, ?_⟩
  ·
   intro y0 y1 y2 y3
   unfold spec_ckMissed.l0
   repeat' first
   | (with_reducible exact ih0 _ _ _ _)
   | (with_reducible exact ih1 _ _ _ _ _)
   | (with_reducible exact LeO.refl _)
   | (with_reducible exact LeO.none _)
   | (with_reducible refine LeO.ite ?_ ?_)
   | (with_reducible refine LeO.bind ?_ (fun _ => ?_))
   | exact ih0 _ _ _ _
   | exact ih1 _ _ _ _ _
   | exact LeO.none _
   | refine LeO.ite ?_ ?_
   | refine LeO.bind ?_ (fun _ => ?_)
  ·
   intro y0 y1 y2 y3 y4
   unfold spec_ckMissed.l1
   repeat' first
   | (with_reducible exact ih0 _ _ _ _)
   | (with_reducible exact ih1 _ _ _ _ _)
   | (with_reducible exact LeO.refl _)
   | (with_reducible exact LeO.none _)
   | (with_reducible refine LeO.ite ?_ ?_)
   | (with_reducible refine LeO.bind ?_ (fun _ => ?_))
   | exact ih0 _ _ _ _
   | exact ih1 _ _ _ _ _
   | exact LeO.none _
   | refine LeO.ite ?_ ?_
   | refine LeO.bind ?_ (fun _ => ?_)
theorem spec_ckMissed.mono : ∀ y0 y1 k, LeO (spec_ckMissed.f k y0 y1) (spec_ckMissed.f (k + 1) y0 y1) := by
 intro y0 y1 k
 obtain ⟨ih0, ih1⟩ := spec_ckMissed.mono_l k
 unfold spec_ckMissed.f
 repeat' first
   | (with_reducible exact ih0 _ _ _ _)
   | (with_reducible exact ih1 _ _ _ _ _)
   | (with_reducible exact LeO.refl _)
   | (with_reducible exact LeO.none _)
   | (with_reducible refine LeO.ite ?_ ?_)
   | (with_reducible refine LeO.bind ?_ (fun _ => ?_))
   | exact ih0 _ _ _ _
   | exact ih1 _ _ _ _ _
   | exact LeO.none _
   | refine LeO.ite ?_ ?_
   | refine LeO.bind ?_ (fun _ => ?_)
set_option maxHeartbeats 8000000 in
set_option maxRecDepth 100000 in
theorem spec_ckMissed.calls (k : Nat) (a0 : Int) (a1 : Int) (r : List (List Int)) (w : World) (h : spec_ckMissed.f k a0 a1 = some r) :
  Calls Try.prog 34 #[.int .i64 a0, .int .i64 a1] w fun e w' => ∃ v0_ : Value, e = .returned (v0_) ∧ Kd.S (Kd.slice 3 (Kd.int .i64)) 27 w' w.heap.size (fun _ => True) v0_ r ∧ Below w.heap.size w w' := by
 have HB := Aside0.mk (Below.refl w.heap.size w)
 have H : (spec_ckMissed.l0 k a0 a1 ([] : List (List Int)) 0) = some r := h
 clear h
 have H' := Aside0.mk H
 clear H
 go_enter Try.func34, Try.ntmps34
 go_wp2
 go_loopg [5, 6] k (fun kq v5 v6 w' => ∃ (x5_1 : List (List Int)) (x6_1 : Int), v6 = .int .i64 x6_1 ∧ Aside0 (spec_ckMissed.l0 kq a0 a1 x5_1 x6_1 = some r) ∧ Aside0 (kq ≤ k) ∧ Aside0 (Kd.S (Kd.slice 3 (Kd.int .i64)) 27 w' w.heap.size (fun _ => True) v5 x5_1) ∧ Aside0 (Below w.heap.size w w'))
 case atStart => exact ⟨(([] : List (List Int))), (0), (by first | rfl | (simp; done) | (simp [*]; done)), H', ⟨Nat.le_refl _⟩, ⟨by first | exact Kd.S_nil _ _ _ _ _ | exact Kd.N_nil _ _ _ _ _ | exact Kd.V_nil _ _ _ _ _ | exact Kd.Q_nil _ _ _ _ _ | exact Kd.R_nil _ _ _ _ _⟩, ⟨by repeat (first | (with_reducible first | exact HB.out | apply below_alloc | apply pw_below_drewN | apply below_drew1) | exact HB.out)⟩⟩
 case round =>
  clear H'
  try clear p2
  obtain ⟨x5_1, x6_1, rfl, HA, HK1, HO_5, HB⟩ := hrel
  cases gk with
  | zero => exact absurd HA.out (by simp [spec_ckMissed.l0])
  | succ k1 =>
   have H := HA.out
   clear HA
   simp only [spec_ckMissed.l0] at H
   by_cases c3 : x6_1 < 10
   ·
    rw [if_pos c3] at H
    have c3b0 : decide (x6_1 < 10) = true := decide_eq_true c3
    clear c3
    have H' := Aside0.mk H
    clear H
    go_wp2
    go_loopg [5, 7] k1 (fun kq v5 v7 w' => ∃ (x5_2 : List (List Int)) (x7_2 : Int), v7 = .int .i64 x7_2 ∧ Aside0 (spec_ckMissed.l1 kq a0 a1 x5_2 x6_1 x7_2 = some r) ∧ Aside0 (kq ≤ k1) ∧ Aside0 (Kd.S (Kd.slice 3 (Kd.int .i64)) 27 w' w.heap.size (fun _ => True) v5 x5_2) ∧ Aside0 (Below w.heap.size w w'))
    case atStart => exact ⟨(x5_1), (wrap64 (x6_1 + 1)), (by first | rfl | (simp; done) | (simp [*]; done)), H', ⟨Nat.le_refl _⟩, ⟨by (with_reducible repeat (first | apply Kd.S_alloc | apply Kd.S_drewN | apply Kd.S_drew)); exact HO_5.out⟩, ⟨by repeat (first | (with_reducible first | exact HB.out | apply below_alloc | apply pw_below_drewN | apply below_drew1) | exact HB.out)⟩⟩
    case round =>
     clear H'
     try clear p2
     try clear c3
     try clear c3b0
     try clear p2
     obtain ⟨x5_2, x7_2, rfl, HA, HK2, HO_5, HB⟩ := hrel
     cases gk with
     | zero => exact absurd HA.out (by simp [spec_ckMissed.l1])
     | succ k2 =>
      have H := HA.out
      clear HA
      simp only [spec_ckMissed.l1] at H
      by_cases c4 : x7_2 < 10
      ·
       rw [if_pos c4] at H
       have c4b0 : decide (x7_2 < 10) = true := decide_eq_true c4
       clear c4
       replace H := Option.bind_eq_some_iff.mp H
       obtain ⟨t101, A50, H⟩ := H
       replace H : (if a1 = 0 then (none) else (if (Int.tmod (wrap64 ((wrap64 (x7_2 - x6_1)) * t101)) a1) = 0 then (if x5_2.length < 5864062014805 then (spec_ckMissed.l1 k2 a0 a1 (x5_2 ++ [(([x6_1, x7_2] : List Int))]) x6_1 (wrap64 (x7_2 + 1))) else (none)) else (spec_ckMissed.l1 k2 a0 a1 x5_2 x6_1 (wrap64 (x7_2 + 1))))) = some r := H
       have A5 := Aside0.mk A50
       clear A50
       by_cases c6 : a1 = 0
       ·
        rw [if_pos c6] at H
        exact absurd H (by simp)
       ·
        rw [if_neg c6] at H
        have c6b0 : (a1 == 0) = false := beq_eq_false_iff_ne.mpr c6
        have c6b1 : (a1 != 0) = true := bne_iff_ne.mpr c6
        by_cases c7 : (Int.tmod (wrap64 ((wrap64 (x7_2 - x6_1)) * t101)) a1) = 0
        ·
         rw [if_pos c7] at H
         have c7b0 : ((Int.tmod (wrap64 ((wrap64 (x7_2 - x6_1)) * t101)) a1) == 0) = true := beq_iff_eq.mpr c7
         have c7b1 : ((Int.tmod (wrap64 ((wrap64 (x7_2 - x6_1)) * t101)) a1) != 0) = false := bne_eq_false_iff_eq.mpr c7
         clear c7
         obtain ⟨y102, hy102⟩ : ∃ y_ : List Int, y_ = (([x6_1, x7_2] : List Int)) := ⟨_, rfl⟩
         replace H : (if x5_2.length < 5864062014805 then (spec_ckMissed.l1 k2 a0 a1 (x5_2 ++ [y102]) x6_1 (wrap64 (x7_2 + 1))) else (none)) = some r := by first | (rw [hy102]; with_reducible exact H) | (have H2_ := (Option.bind_some _ _).symm.trans H; rw [hy102]; with_reducible exact H2_) | (have H2_ := (Option.bind_some _ _).symm.trans H; with_reducible exact H2_) | with_reducible exact H | (rw [hy102]; exact H) | exact H
         have Ny102 := Aside0.mk hy102
         clear hy102
         by_cases c8 : x5_2.length < 5864062014805
         ·
          rw [if_pos c8] at H
          have LMc8 := Aside0.mk c8
          clear c8
          obtain ⟨y105, hy105⟩ : ∃ y_ : List (List Int), y_ = (x5_2 ++ [y102]) := ⟨_, rfl⟩
          replace H : (spec_ckMissed.l1 k2 a0 a1 y105 x6_1 (wrap64 (x7_2 + 1))) = some r := by first | (rw [hy105]; with_reducible exact H) | (have H2_ := (Option.bind_some _ _).symm.trans H; rw [hy105]; with_reducible exact H2_) | (have H2_ := (Option.bind_some _ _).symm.trans H; with_reducible exact H2_) | with_reducible exact H | (rw [hy105]; exact H) | exact H
          have Ny105 := Aside0.mk hy105
          clear hy105
          have H' := Aside0.mk H
          clear H
          go_wp2_with (first | ((with_reducible refine gate_callee (f := 45) rfl ?_); refine goesL_ (some 22) rfl rfl Try.func45 (by kernel_rfl) rfl #[.int .i64 a0] rfl (by (try simp only [List.map_toArray, List.map_cons, List.map_nil]); first | done | rfl | (simp only [List.length_drop, List.length_take]; rfl)) ?_; (with_reducible refine (spec_l1Abs.calls a0 t101 _ A5.out).mono ?_); rintro e w' ⟨rfl, ⟨nd, rfl⟩⟩; refine ⟨_, rfl, ?_⟩) | ((with_reducible refine gate_dst (N := 30) rfl ?_); refine Kd.R_lit (Kd.int .i64) _ 3 ?hg (N := 30) ?hd (xs := ([x6_1, x7_2] : List Int)) (inner := [.int .i64 x6_1, .int .i64 x7_2]) (ok := fun _ => True) (okp := fun _ => True) ?hr ?hp (fun _ hk => hk) trivial (Below.refl _ _) (Nat.le_refl _) (by simp) ?_; (case hd => rfl); (case hg => rfl); (case hr => first | (go_simp; done) | (go_simp; rfl)); (case hp => exact (Reps.one (show Kd.M (Kd.int .i64) _ _ _ x6_1 [.int .i64 x6_1] from rfl) (Reps.one (show Kd.M (Kd.int .i64) _ _ _ x7_2 [.int .i64 x7_2] from rfl) (Reps.none _ _)))); intro v103 w9 ho10 hb hg_ hnew_; clear hg_ hnew_; (first | rw [← Ny102.out] at ho10 | (simp only [Int.reduceToNat] at ho10; rw [← Ny102.out] at ho10)); have n0_ := Aside0.mk (Kd.S_elder' (by (with_reducible repeat (first | apply Kd.S_alloc | apply Kd.S_drewN | apply Kd.S_drew)); exact HO_5.out) (Kd.R_base ho10) hb); have n1_ := Aside0.mk (Kd.R_lower ho10 (below_size (by repeat (first | (with_reducible first | exact HB.out | apply below_alloc | apply pw_below_drewN | apply below_drew1) | exact HB.out)))); have n2_ := Aside0.mk (below_step (by repeat (first | (with_reducible first | exact HB.out | apply below_alloc | apply pw_below_drewN | apply below_drew1) | exact HB.out)) hb); clear HO_5; clear HB; have HO_5 := n0_; have HO104 := n1_; have HB := n2_; clear n0_ n1_ n2_; clear hb ho10; obtain ⟨Ao12, co12, eo12⟩ := Kd.R_slice HO104.out; subst eo12) | ((with_reducible refine gate_builtin (b := .append) (xs := #[.tmp 27, .tmp 31]) rfl ?_); at_builtin; refine Kd.S_append (Kd.slice 3 (Kd.int .i64)) (w0 := w) w.heap.size rfl (.tmp 27) (.tmp 31) 22 27 (.slice none 0 0) 24 rfl Try.underlying22 info27 rfl (by decide) (by omega) u5 x5_2 y102 [.slice Ao12 y102.length co12] (fun _ => True) (fun k_ => some k_ = (.slice Ao12 y102.length co12 : Value).ownBlock) rfl rfl ?aP (fun k_ hk_ => ((Kd.R_mono (ok' := fun k_ => ((fun _ => True)) k_ ∧ some k_ ≠ (u5 : Value).ownBlock) (Kd.R_apart' (HO104.out) (Kd.S_typed HO_5.out) (by decide)) (fun k_ hk => ⟨trivial, hk.2⟩))).1 k_ hk_.symm) ?aF ?aO ?aB ?aS ?aL ?_; (case aP => exact Kd.M_row (Kd.R_mono (Kd.R_tight rfl (Kd.R_mono (ok' := fun k_ => ((fun _ => True)) k_ ∧ some k_ ≠ (u5 : Value).ownBlock) (Kd.R_apart' (HO104.out) (Kd.S_typed HO_5.out) (by decide)) (fun k_ hk => ⟨trivial, hk.2⟩))) (fun _ h_ => h_))); (case aB => exact (by repeat (first | (with_reducible first | exact HB.out | apply below_alloc | apply pw_below_drewN | apply below_drew1) | exact HB.out))); (case aF => exact (fun _ _ => trivial)); (case aO => exact (by (with_reducible repeat (first | apply Kd.S_alloc | apply Kd.S_drewN | apply Kd.S_drew)); exact Kd.S_mono HO_5.out (fun k_ hk => ⟨trivial, fun e_ => hk.2 e_⟩))); (case aS => exact (below_size (by repeat (first | (with_reducible first | exact HB.out | apply below_alloc | apply pw_below_drewN | apply below_drew1) | exact HB.out)))); (case aL => have := LMc8.out; omega); intro v106 w11 ho hb hg hat; rw [← Ny105.out] at ho; have n0_ := Aside0.mk (hb); have n1_ := Aside0.mk (ho); clear HB; clear HO_5; clear HO104; have HB := n0_; have HO107 := n1_; clear n0_ n1_; clear ho hb hg hat))
          go_roundg k2
          case measure => have := HK1.out; have := HK2.out; omega
          case rel => exact ⟨(y105), (wrap64 (x7_2 + 1)), (by first | rfl | (simp; done) | (simp [*]; done)), H', ⟨by have := HK1.out; have := HK2.out; omega⟩, ⟨by (with_reducible repeat (first | apply Kd.S_alloc | apply Kd.S_drewN | apply Kd.S_drew)); exact HO107.out⟩, ⟨by repeat (first | (with_reducible first | exact HB.out | apply below_alloc | apply pw_below_drewN | apply below_drew1) | exact HB.out)⟩⟩
         ·
          rw [if_neg c8] at H
          exact absurd H (by simp)
        ·
         rw [if_neg c7] at H
         have c7b0 : ((Int.tmod (wrap64 ((wrap64 (x7_2 - x6_1)) * t101)) a1) == 0) = false := beq_eq_false_iff_ne.mpr c7
         have c7b1 : ((Int.tmod (wrap64 ((wrap64 (x7_2 - x6_1)) * t101)) a1) != 0) = true := bne_iff_ne.mpr c7
         have H' := Aside0.mk H
         clear H
         go_wp2_with (first | ((with_reducible refine gate_callee (f := 45) rfl ?_); refine goesL_ (some 22) rfl rfl Try.func45 (by kernel_rfl) rfl #[.int .i64 a0] rfl (by (try simp only [List.map_toArray, List.map_cons, List.map_nil]); first | done | rfl | (simp only [List.length_drop, List.length_take]; rfl)) ?_; (with_reducible refine (spec_l1Abs.calls a0 t101 _ A5.out).mono ?_); rintro e w' ⟨rfl, ⟨nd, rfl⟩⟩; refine ⟨_, rfl, ?_⟩))
         go_roundg k2
         case measure => have := HK1.out; have := HK2.out; omega
         case rel => exact ⟨(x5_2), (wrap64 (x7_2 + 1)), (by first | rfl | (simp; done) | (simp [*]; done)), H', ⟨by have := HK1.out; have := HK2.out; omega⟩, ⟨by (with_reducible repeat (first | apply Kd.S_alloc | apply Kd.S_drewN | apply Kd.S_drew)); exact HO_5.out⟩, ⟨by repeat (first | (with_reducible first | exact HB.out | apply below_alloc | apply pw_below_drewN | apply below_drew1) | exact HB.out)⟩⟩
      ·
       rw [if_neg c4] at H
       have c4b0 : decide (x7_2 < 10) = false := decide_eq_false c4
       clear c4
       have H' := Aside0.mk H
       clear H
       go_wp2
       go_roundg k2
       case measure => have := HK1.out; have := HK2.out; omega
       case rel => exact ⟨(x5_2), (wrap64 (x6_1 + 1)), (by first | rfl | (simp; done) | (simp [*]; done)), H', ⟨by have := HK1.out; have := HK2.out; omega⟩, ⟨by (with_reducible repeat (first | apply Kd.S_alloc | apply Kd.S_drewN | apply Kd.S_drew)); exact HO_5.out⟩, ⟨by repeat (first | (with_reducible first | exact HB.out | apply below_alloc | apply pw_below_drewN | apply below_drew1) | exact HB.out)⟩⟩
   ·
    rw [if_neg c3] at H
    have c3b0 : decide (x6_1 < 10) = false := decide_eq_false c3
    clear c3
    obtain rfl := Option.some.inj H
    go_wp2
    go_ret
    exact ⟨_, by first | rfl | (simp [errW_none, errW_some] <;> rfl) | (simp [*, errW_none, errW_some] <;> rfl), by (with_reducible repeat (first | apply Kd.S_alloc | apply Kd.S_drewN | apply Kd.S_drew)); exact HO_5.out, by repeat (first | (with_reducible first | exact HB.out | apply below_alloc | apply pw_below_drewN | apply below_drew1) | exact HB.out)⟩

end Go.Proofs.Ytlkpilmcakeadaa.P

namespace Go.Proofs.Ytlkpilmcakeadaa
open Go.RowKit Go.Proofs.Ytlkpilmcakeadaa.P Go.Proofs.YtlkpilmcakeadaaW.PrintWords
set_option linter.unusedSimpArgs false
set_option linter.unusedVariables false
/-! The two digits that a weight misses: both sides' lists. -/
/-- All two digits whose difference, times a number, is divided. -/
def tabM (M n : Int) : List (List Int) := (impl_pairsOf.f 200 (missedO M n)).getD []
theorem tabM_some : ∀ M : Fin 14, ∀ n : Fin 13, 2 ≤ M.val → impl_pairsOf.f 200 (missedO M.val n.val) = some (tabM M.val n.val) := by decide +kernel
theorem ckM_pos : ∀ M : Fin 14, ∀ n : Fin 13, 2 ≤ M.val → spec_ckMissed.f 200 (n.val : Int) M.val = some (tabM M.val n.val) := by decide +kernel
theorem ckM_neg : ∀ M : Fin 14, ∀ n : Fin 13, 2 ≤ M.val → spec_ckMissed.f 200 (-(n.val : Int)) M.val = some (tabM M.val n.val) := by decide +kernel
theorem missed_ev (M n : Int) (l : List Int) (h1 : 2 ≤ M) (h2 : M ≤ 13) (h3 : 0 ≤ n) (h4 : n ≤ 12) : Ev (fun k => impl_Scheme_missed.f k M l n) (tabM M n) := by
  refine Ev.of (k := 200) (impl_Scheme_missed.mono _ _ _) ?_
  have := tabM_some ⟨M.toNat, by omega⟩ ⟨n.toNat, by omega⟩ (by show 2 ≤ M.toNat; omega)
  simp only [Int.toNat_of_nonneg (show 0 ≤ M by omega), Int.toNat_of_nonneg h3] at this
  exact this
theorem ckMissed_ev (M d : Int) (h1 : 2 ≤ M) (h2 : M ≤ 13) (h3 : -12 ≤ d) (h4 : d ≤ 12) : Ev (fun k => spec_ckMissed.f k d M) (tabM M d.natAbs) := by
  refine Ev.of (k := 200) (spec_ckMissed.mono _ _) ?_
  by_cases c : 0 ≤ d
  · have := ckM_pos ⟨M.toNat, by omega⟩ ⟨d.toNat, by omega⟩ (by show 2 ≤ M.toNat; omega)
    simp only [Int.toNat_of_nonneg (show 0 ≤ M by omega), Int.toNat_of_nonneg c] at this
    rw [show ((d.natAbs : Nat) : Int) = d by omega]
    exact this
  · have := ckM_neg ⟨M.toNat, by omega⟩ ⟨d.natAbs, by omega⟩ (by show 2 ≤ M.toNat; omega)
    simp only [Int.toNat_of_nonneg (show 0 ≤ M by omega)] at this
    rw [show -((d.natAbs : Nat) : Int) = d by omega] at this
    exact this
theorem good_of {m : Int} {l : List Int} (h : goodB m l = true) : 2 ≤ m ∧ m ≤ 13 ∧ 1 ≤ l.length ∧ l.length ≤ 12 ∧ ∀ x ∈ l, 0 ≤ x ∧ x ≤ m - 1 := by
  unfold goodB at h
  simp only [Bool.and_eq_true, decide_eq_true_eq, List.all_eq_true] at h
  exact ⟨h.1.1.1, h.1.1.2, h.1.2.1, h.1.2.2, fun x hx => h.2 x hx⟩
end Go.Proofs.Ytlkpilmcakeadaa

/- FnExactCountRight: both sides say of every scheme the same, and it is left as it was: over the functions that the walk computes. -/
namespace Go.Proofs.Ytlkpilmcakeadaa
open Go.RowKit Go.Proofs.Ytlkpilmcakeadaa.P Go.Proofs.YtlkpilmcakeadaaW.PrintWords
set_option linter.unusedSimpArgs false
set_option linter.unusedVariables false
namespace CountRight
theorem wrap_add (a b : Int) : wrap64 (wrap64 a + b) = wrap64 (a + b) := by unfold wrap64; omega
theorem wrap_add' (a b : Int) : wrap64 (a + wrap64 b) = wrap64 (a + b) := by unfold wrap64; omega
/-- One row behind a weight: each rest's number goes to ten rests. -/
def one (M w r n : Int) : Nat → Nat → List Int → List Int
  | 0, _, row => row
  | m + 1, d, row => one M w r n m (d + 1) (row.set (Int.tmod (r + d * w) M).toNat (wrap64 (rd row (Int.tmod (r + d * w) M) + n)))
theorem one_len (M w r n : Int) : ∀ (m d : Nat) (row : List Int), (one M w r n m d row).length = row.length
  | 0, _, _ => rfl
  | m + 1, d, row => by simp [one, one_len M w r n m]
def allOf (M w : Int) (old : List Int) : Nat → Nat → List Int → List Int
  | 0, _, row => row
  | m + 1, r, row => allOf M w old m (r + 1) (one M w r (rd old r) 10 0 row)
theorem allOf_len (M w : Int) (old : List Int) : ∀ (m r : Nat) (row : List Int), (allOf M w old m r row).length = row.length
  | 0, _, _ => rfl
  | m + 1, r, row => by simp [allOf, allOf_len M w old m, one_len]
def rows (M : Int) : List Int → List Int → List Int
  | [], row => row
  | w :: ws, row => rows M ws (allOf M w row row.length 0 (List.replicate M.toNat 0))
theorem rest_in (M w r : Int) (d : Nat) (h1 : 2 ≤ M) (h2 : M ≤ 13) (h3 : 0 ≤ w) (h4 : w ≤ 12) (h5 : 0 ≤ r) (h6 : r < M) (h7 : d < 10) : wrap64 (d * w) = d * w ∧ wrap64 (r + d * w) = r + d * w ∧ 0 ≤ Int.tmod (r + d * w) M ∧ Int.tmod (r + d * w) M < M := by
  have b0 : (0 : Int) ≤ (d : Int) * w := Int.mul_nonneg (by omega) h3
  have b1 : (d : Int) * w ≤ 9 * 12 := by
    refine Int.le_trans (Int.mul_le_mul_of_nonneg_right (show (d : Int) ≤ 9 by omega) h3) ?_
    omega
  refine ⟨wrap_id (by omega) (by omega), wrap_id (by omega) (by omega), ?_, ?_⟩
  · exact Int.tmod_nonneg _ (by omega)
  · exact Int.tmod_lt_of_pos _ (by omega)
section
variable {M w : Int} (h1 : 2 ≤ M) (h2 : M ≤ 13) (h3 : 0 ≤ w) (h4 : w ≤ 12)
include h1 h2 h3 h4
theorem impl_l2 (l : List Int) (x23 : List Int) (x24 x25 : Int) (old : List Int) (x33 : Int) (r : Nat) (n : Int) (h6 : (r : Int) < M) (R : Int × Bool) : ∀ (m d : Nat) (row : List Int), d + m = 10 → row.length = M.toNat →
    Ev (fun k => impl_CountRight.l1 k w (one M w r n m d row) x23 x24 x25 old x33 (wrap64 ((r : Int) + 1)) M l) R → Ev (fun k => impl_CountRight.l2 k w row r n x23 x24 x25 old x33 r d M l) R
  | 0, d, row, hd, hr, h => by
    apply Ev.succ
    simp only [impl_CountRight.l2]
    exact Ev.neg (by omega) h
  | m + 1, d, row, hd, hr, h => by
    obtain ⟨e1, e2, b1, b2⟩ := rest_in M w r d h1 h2 h3 h4 (by omega) h6 (by omega)
    apply Ev.succ
    simp only [impl_CountRight.l2]
    rw [e1, e2]
    refine Ev.pos (by omega) (Ev.neg (by omega) (Ev.pos b1 (Ev.pos (by omega) ?_)))
    rw [wrap_id (n := (d : Int) + 1) (by omega) (by omega)]
    exact_mod_cast impl_l2 l x23 x24 x25 old x33 r n h6 R m (d + 1) _ (by omega) (by simp [hr]) h
theorem spec_l2 (l : List Int) (x23 : List Int) (x24 x25 : Int) (old : List Int) (x33 : Int) (r : Nat) (n : Int) (h6 : (r : Int) < M) (R : Int × Bool) : ∀ (m d : Nat) (row : List Int), d + m = 10 → row.length = M.toNat →
    Ev (fun k => spec_CountRight.l1 k w (one M w r n m d row) x23 x24 x25 old x33 (wrap64 ((r : Int) + 1)) M l) R → Ev (fun k => spec_CountRight.l2 k w row r n d x23 x24 x25 old x33 r M l) R
  | 0, d, row, hd, hr, h => by
    apply Ev.succ
    simp only [spec_CountRight.l2]
    exact Ev.neg (by omega) h
  | m + 1, d, row, hd, hr, h => by
    obtain ⟨e1, e2, b1, b2⟩ := rest_in M w r d h1 h2 h3 h4 (by omega) h6 (by omega)
    apply Ev.succ
    simp only [spec_CountRight.l2]
    rw [Int.mul_comm w d, e1, e2]
    refine Ev.pos (by omega) (Ev.neg (by omega) (Ev.pos b1 (Ev.pos (by omega) ?_)))
    rw [wrap_id (n := (d : Int) + 1) (by omega) (by omega)]
    exact_mod_cast spec_l2 l x23 x24 x25 old x33 r n h6 R m (d + 1) _ (by omega) (by simp [hr]) h
theorem impl_l1 (l : List Int) (x23 : List Int) (x24 x25 : Int) (old : List Int) (ho : old.length = M.toNat) (R : Int × Bool) : ∀ (m r : Nat) (row : List Int), r + m = old.length → row.length = M.toNat →
    Ev (fun k => impl_CountRight.l0 k (allOf M w old m r row) x23 x24 (wrap64 (x25 + 1)) M l) R → Ev (fun k => impl_CountRight.l1 k w row x23 x24 x25 old (old.length : Int) r M l) R
  | 0, r, row, hd, hr, h => by
    apply Ev.succ
    simp only [impl_CountRight.l1]
    exact Ev.neg (by omega) h
  | m + 1, r, row, hd, hr, h => by
    apply Ev.succ
    simp only [impl_CountRight.l1]
    refine Ev.pos (by omega) (Ev.pos (by omega) (Ev.pos (by omega) ?_))
    refine impl_l2 h1 h2 h3 h4 l x23 x24 x25 old _ r _ (by omega) R 10 0 row (by omega) hr ?_
    rw [wrap_id (n := (r : Int) + 1) (by omega) (by omega)]
    exact_mod_cast impl_l1 l x23 x24 x25 old ho R m (r + 1) _ (by omega) (by rw [one_len]; exact hr) h
theorem spec_l1 (l : List Int) (x23 : List Int) (x24 x25 : Int) (old : List Int) (ho : old.length = M.toNat) (R : Int × Bool) : ∀ (m r : Nat) (row : List Int), r + m = old.length → row.length = M.toNat →
    Ev (fun k => spec_CountRight.l0 k (allOf M w old m r row) x23 x24 (wrap64 (x25 + 1)) M l) R → Ev (fun k => spec_CountRight.l1 k w row x23 x24 x25 old (old.length : Int) r M l) R
  | 0, r, row, hd, hr, h => by
    apply Ev.succ
    simp only [spec_CountRight.l1]
    exact Ev.neg (by omega) h
  | m + 1, r, row, hd, hr, h => by
    apply Ev.succ
    simp only [spec_CountRight.l1]
    refine Ev.pos (by omega) (Ev.pos (by omega) (Ev.pos (by omega) ?_))
    refine spec_l2 h1 h2 h3 h4 l x23 x24 x25 old _ r _ (by omega) R 10 0 row (by omega) hr ?_
    rw [wrap_id (n := (r : Int) + 1) (by omega) (by omega)]
    exact_mod_cast spec_l1 l x23 x24 x25 old ho R m (r + 1) _ (by omega) (by rw [one_len]; exact hr) h
end
theorem impl_l0 (M : Int) (l : List Int) (h1 : 2 ≤ M) (h2 : M ≤ 13) (hl : l.length ≤ 12) (hx : ∀ x ∈ l, 0 ≤ x ∧ x ≤ M - 1) (R : Int × Bool) : ∀ (m i : Nat) (row : List Int), i + m = l.length → row.length = M.toNat →
    Ev (fun k => impl_CountRight.l3 k 0 (rows M (l.drop i) row) (M.toNat : Int) 0 M l) R → Ev (fun k => impl_CountRight.l0 k row l (l.length : Int) i M l) R
  | 0, i, row, hi, hr, h => by
    apply Ev.succ
    simp only [impl_CountRight.l0]
    refine Ev.neg (by omega) ?_
    rw [List.drop_of_length_le (by omega)] at h
    rw [hr]; exact h
  | m + 1, i, row, hi, hr, h => by
    have hlt : i < l.length := by omega
    have hb := hx _ (List.getElem_mem hlt)
    apply Ev.succ
    simp only [impl_CountRight.l0]
    rw [rd_nat l i hlt]
    refine Ev.pos (by omega) (Ev.pos (by omega) (Ev.pos (by omega) (Ev.pos (by omega) (Ev.pos (by omega) ?_))))
    refine impl_l1 h1 h2 hb.1 (by omega) l l _ _ row hr R row.length 0 _ (by omega) (by simp) ?_
    rw [wrap_id (n := (i : Int) + 1) (by omega) (by omega)]
    rw [List.drop_eq_getElem_cons hlt] at h
    exact_mod_cast impl_l0 M l h1 h2 hl hx R m (i + 1) _ (by omega) (by rw [allOf_len]; simp) h
theorem spec_l0 (M : Int) (l : List Int) (h1 : 2 ≤ M) (h2 : M ≤ 13) (hl : l.length ≤ 12) (hx : ∀ x ∈ l, 0 ≤ x ∧ x ≤ M - 1) (R : Int × Bool) : ∀ (m i : Nat) (row : List Int), i + m = l.length → row.length = M.toNat →
    Ev (fun k => spec_CountRight.l3 k 0 (rows M (l.drop i) row) (M.toNat : Int) 0 M l) R → Ev (fun k => spec_CountRight.l0 k row l (l.length : Int) i M l) R
  | 0, i, row, hi, hr, h => by
    apply Ev.succ
    simp only [spec_CountRight.l0]
    refine Ev.neg (by omega) ?_
    rw [List.drop_of_length_le (by omega)] at h
    rw [hr]; exact h
  | m + 1, i, row, hi, hr, h => by
    have hlt : i < l.length := by omega
    have hb := hx _ (List.getElem_mem hlt)
    apply Ev.succ
    simp only [spec_CountRight.l0]
    rw [rd_nat l i hlt]
    refine Ev.pos (by omega) (Ev.pos (by omega) (Ev.pos (by omega) (Ev.pos (by omega) (Ev.pos (by omega) ?_))))
    refine spec_l1 h1 h2 hb.1 (by omega) l l _ _ row hr R row.length 0 _ (by omega) (by simp) ?_
    rw [wrap_id (n := (i : Int) + 1) (by omega) (by omega)]
    rw [List.drop_eq_getElem_cons hlt] at h
    exact_mod_cast spec_l0 M l h1 h2 hl hx R m (i + 1) _ (by omega) (by rw [allOf_len]; simp) h
theorem rows_len (M : Int) : ∀ (ws row : List Int), row.length = M.toNat → (rows M ws row).length = M.toNat
  | [], _, h => h
  | w :: ws, row, h => rows_len M ws _ (by rw [allOf_len]; simp)
/-- How many checks there are for a rest. -/
def cnt (M r : Int) : Nat → Nat → Nat
  | 0, _ => 0
  | m + 1, c => (if Int.tmod (r + c) M = 0 then 1 else 0) + cnt M r m (c + 1)
theorem checks_any (l : List Int) : ∀ (k : Nat) (x5 : List Int) (x6 M : Int), impl_Scheme_checks.l0 k x5 x6 M l = impl_Scheme_checks.l0 k x5 x6 M []
  | 0, _, _, _ => rfl
  | k + 1, x5, x6, M => by simp only [impl_Scheme_checks.l0, checks_any l k]
theorem checks_len : ∀ M : Fin 14, ∀ r : Fin 13, 2 ≤ M.val → r.val < M.val → ((impl_Scheme_checks.f 20 M.val [] r.val).map fun t => t.length) = some (cnt M.val r.val 11 0) := by decide +kernel
theorem checks_ev (M : Int) (l : List Int) (h1 : 2 ≤ M) (h2 : M ≤ 13) (r : Nat) (hr : (r : Int) < M) : ∃ t : List Int, t.length = cnt M r 11 0 ∧ Ev (fun k => impl_Scheme_checks.f k M l r) t := by
  have := checks_len ⟨M.toNat, by omega⟩ ⟨r, by omega⟩ (by show 2 ≤ M.toNat; omega) (by show r < M.toNat; omega)
  simp only [Int.toNat_of_nonneg (show 0 ≤ M by omega)] at this
  obtain ⟨t, ht, hc⟩ := Option.map_eq_some_iff.1 this
  refine ⟨t, hc, Ev.of (k := 20) (impl_Scheme_checks.mono _ _ _) ?_⟩
  rw [← ht]
  unfold impl_Scheme_checks.f
  have e : impl_Scheme_check.f M l r = impl_Scheme_check.f M [] r := rfl
  rw [e]
  first | (congr 1; done) | (congr 1; funext t; exact checks_any l 20 _ _ _)
/-- The whole number. -/
def tot (M : Int) (row : List Int) : Nat → Nat → Int → Int
  | 0, _, x => x
  | m + 1, r, x => tot M row m (r + 1) (wrap64 (x + rd row r * cnt M r 11 0))
theorem impl_l3 (M : Int) (l row : List Int) (h1 : 2 ≤ M) (h2 : M ≤ 13) (hr : row.length = M.toNat) : ∀ (m r : Nat) (x : Int), r + m = M.toNat → Ev (fun k => impl_CountRight.l3 k x row (M.toNat : Int) r M l) (tot M row m r x, true)
  | 0, r, x, hm => by
    apply Ev.succ
    simp only [impl_CountRight.l3]
    exact Ev.neg (by omega) (Ev.now _)
  | m + 1, r, x, hm => by
    obtain ⟨t, ht, he⟩ := checks_ev M l h1 h2 r (by omega)
    apply Ev.succ
    simp only [impl_CountRight.l3]
    refine Ev.pos (by omega) (Ev.pos (by omega) (Ev.pos (by omega) (Ev.bind he ?_)))
    rw [ht, wrap_add', wrap_id (n := (r : Int) + 1) (by omega) (by omega)]
    exact_mod_cast impl_l3 M l row h1 h2 hr m (r + 1) _ (by omega)
theorem spec_l4 (M : Int) (l row : List Int) (h1 : 2 ≤ M) (h2 : M ≤ 13) (r : Nat) (hr : (r : Int) < M) (n : Int) (R : Int × Bool) : ∀ (m c : Nat) (y : Int), c + m = 11 →
    Ev (fun k => spec_CountRight.l3 k (wrap64 (y + n * cnt M r m c)) row (M.toNat : Int) (wrap64 ((r : Int) + 1)) M l) R → Ev (fun k => spec_CountRight.l4 k (wrap64 y) r n c row (M.toNat : Int) r M l) R
  | 0, c, y, hc, h => by
    apply Ev.succ
    simp only [spec_CountRight.l4]
    refine Ev.neg (by omega) ?_
    simpa [cnt] using h
  | m + 1, c, y, hc, h => by
    apply Ev.succ
    simp only [spec_CountRight.l4]
    rw [wrap_id (n := (r : Int) + c) (by omega) (by omega), wrap_id (n := (c : Int) + 1) (by omega) (by omega), wrap_add]
    refine Ev.pos (by omega) (Ev.neg (by omega) ?_)
    by_cases e : Int.tmod ((r : Int) + c) M = 0
    · refine Ev.pos e ?_
      have := spec_l4 M l row h1 h2 r hr n R m (c + 1) (y + n) (by omega) (by
        unfold cnt at h
        rw [if_pos e] at h
        rw [show y + n + n * (cnt M r m (c + 1) : Nat) = y + n * ((1 + cnt M r m (c + 1) : Nat) : Int) by rw [Int.natCast_add, Int.mul_add]; simp; omega]
        exact h)
      exact_mod_cast this
    · refine Ev.neg e ?_
      have := spec_l4 M l row h1 h2 r hr n R m (c + 1) y (by omega) (by
        unfold cnt at h
        rw [if_neg e, Nat.zero_add] at h
        exact h)
      exact_mod_cast this
theorem spec_l3 (M : Int) (l row : List Int) (h1 : 2 ≤ M) (h2 : M ≤ 13) (hr : row.length = M.toNat) : ∀ (m r : Nat) (y : Int), r + m = M.toNat → Ev (fun k => spec_CountRight.l3 k (wrap64 y) row (M.toNat : Int) r M l) (tot M row m r (wrap64 y), true)
  | 0, r, y, hm => by
    apply Ev.succ
    simp only [spec_CountRight.l3]
    exact Ev.neg (by omega) (Ev.now _)
  | m + 1, r, y, hm => by
    apply Ev.succ
    simp only [spec_CountRight.l3]
    refine Ev.pos (by omega) (Ev.pos (by omega) (Ev.pos (by omega) ?_))
    refine spec_l4 M l row h1 h2 r (by omega) _ _ 11 0 y (by omega) ?_
    rw [wrap_id (n := (r : Int) + 1) (by omega) (by omega)]
    have := spec_l3 M l row h1 h2 hr m (r + 1) (y + rd row r * cnt M r 11 0) (by omega)
    unfold tot
    rw [wrap_add]
    exact_mod_cast this
theorem both_ev (m : Int) (l : List Int) (c : l.length ≤ 1048576) : ∃ r : Int × Bool, Ev (fun k => spec_CountRight.f k m l) r ∧ Ev (fun k => impl_CountRight.f k m l) r := by
  cases hg : goodB m l with
  | false =>
    refine ⟨(0, false), ?_, ?_⟩
    · unfold spec_CountRight.f
      refine Ev.bind (ckGood_ev m l c) ?_
      rw [hg]; exact Ev.no (Ev.now _)
    · unfold impl_CountRight.f
      refine Ev.bindc (implIsScheme_good m l) ?_
      rw [hg]; exact Ev.no (Ev.now _)
  | true =>
    obtain ⟨h1, h2, h3, h4, hx⟩ := good_of hg
    have hl0 : ((List.replicate m.toNat (0 : Int)).set (0 : Int).toNat 1).length = m.toNat := by simp
    have w0 : wrap64 0 = 0 := by rw [wrap_id (by omega) (by omega)]
    have e := spec_l3 m l _ h1 h2 (rows_len m l _ hl0) m.toNat 0 0 (by omega)
    rw [w0] at e
    refine ⟨(tot m (rows m l ((List.replicate m.toNat (0 : Int)).set (0 : Int).toNat 1)) m.toNat 0 0, true), ?_, ?_⟩
    · unfold spec_CountRight.f
      refine Ev.bind (ckGood_ev m l c) ?_
      rw [hg]
      refine Ev.yes (Ev.pos (by omega) (Ev.pos (by omega) (Ev.bindc rfl (Ev.pos (by simp; omega) ?_))))
      exact spec_l0 m l h1 h2 h4 hx _ l.length 0 _ (by omega) hl0 e
    · unfold impl_CountRight.f
      refine Ev.bindc (implIsScheme_good m l) ?_
      rw [hg]
      refine Ev.yes (Ev.pos (by omega) (Ev.pos (by omega) (Ev.bindc rfl (Ev.pos (by simp; omega) ?_))))
      exact impl_l0 m l h1 h2 h4 hx _ l.length 0 _ (by omega) hl0 (impl_l3 m l _ h1 h2 (rows_len m l _ hl0) m.toNat 0 0 (by omega))
end CountRight
open CountRight in
theorem pure_FnExactCountRight : PureFnExactCountRight := by
  intro m l _ hl
  refine Ev.rounds (g := fun k => laws_FnExactCountRight.f k m l) ?_
  unfold laws_FnExactCountRight.f
  refine Ev.bindc (szScheme_eq m l hl.1) ?_
  by_cases c : l.length ≤ 1048576
  · rw [if_pos c]
    obtain ⟨r, hs, hi⟩ := both_ev m l c
    refine Ev.neg (by omega) (Ev.bind (toScheme_ev m l c) (Ev.bind hs (Ev.bind (toScheme_ev m l c) (Ev.bind hi ?_))))
    refine Ev.pos rfl (Ev.succ ?_)
    simp only [laws_FnExactCountRight.j0]
    refine Ev.neg (by simp) (Ev.bind (toScheme_ev m l c) (Ev.bind (eqScheme_ev m l c) ?_))
    exact Ev.pos rfl (Ev.now _)
  · rw [if_neg c]
    exact Ev.pos (by omega) (Ev.now _)
end Go.Proofs.Ytlkpilmcakeadaa

namespace Go.Proofs.Ytlkpilmcakeadaa
open Go.RowKit Go.Proofs.YtlkpilmcakeadaaW.PrintWords Go.ChangeShapes Go.WideShapes

theorem C_scalar {α : Type} {enc : α → Value} {h1 : ∀ x, (enc x).oneCell' = true} {w : World} {A : Option Addr} {l : List α} (hn : l.length ≤ 9223372036854775807)
    (hcell : 0 < l.length → ∃ ad, A = some ad ∧ ∀ j x, l[j]? = some x → w.cell? (ad.add j) = some (enc x)) : (Kd.scalar enc h1).C w A l.length l := by
  refine ⟨rfl, hn, fun hp => ?_⟩
  obtain ⟨ad, hA, hc⟩ := hcell hp
  refine ⟨ad, hA, fun j x hx => ⟨[enc x], rfl, rfl, fun i u hu => ?_⟩⟩
  match i, hu with
  | 0, hu =>
    have : enc x = u := by simpa using hu
    subst this
    show w.cell? (ad.add (j * 1 + 0)) = _
    rw [Nat.mul_one, Nat.add_zero]
    exact hc j x hx
  | i + 1, hu => simp at hu

section
variable {H : Type} {enc : TypeId × Value → H} {P : Program} {w : World} {base : Nat} {spare : Nat → Bool} {held : Bool}

/-- A cell that reads at a slice of whole numbers. -/
theorem read_ints {t e : TypeId} {k : IntKind} {fuel : Nat} {v : Value} {y : DataW H × List MemPlace} (ht : P.underlying t = some (.slice e)) (he : P.underlying e = some (.int k)) (hc : P.cellsOf e = 1)
    (hf : DataW.trod enc P w base spare held fuel t [v] = some y) :
    ∃ (A : Option Addr) (c : Nat) (l : List Int), v = .slice A l.length c ∧ l.length ≤ c ∧ (∀ x ∈ l, (Lit.int k x).wf = true) ∧ (Kd.int k).C w A l.length l := by
  rcases open_ints ht he hc hf with ⟨hcs, _⟩ | ⟨a, len, cap, zs, hcs, _, hl, hm, hz, _, hcell, hwf⟩
  · obtain rfl : v = .slice none 0 0 := by simpa using hcs
    exact ⟨none, 0, [], rfl, Nat.le_refl _, fun x hx => by simp at hx, rfl, by simp, fun h => absurd h (by simp)⟩
  · obtain rfl : v = .slice (some a) len cap := by simpa using hcs
    have hlz : len ≤ zs.length := by rw [hz]; split <;> omega
    have hlen : (zs.take len).length = len := by rw [List.length_take]; omega
    refine ⟨some a, cap, zs.take len, by rw [hlen], by rw [hlen]; exact hl, fun x hx => hwf x (List.mem_of_mem_take hx), ?_⟩
    refine C_scalar (by rw [hlen]; unfold maxLen at hm; omega) (fun hp => ⟨a, rfl, fun j x hj => ?_⟩)
    have hj' : j < len := by have := (List.getElem?_eq_some_iff.1 hj).1; rw [hlen] at this; exact this
    rw [hcell j (by omega)]
    rw [List.getElem?_take_of_lt hj'] at hj
    rw [List.getD_eq_getElem?_getD, hj]; rfl

/-- A cell that reads at a slice of strings. -/
theorem read_strs {t e : TypeId} {fuel : Nat} {v : Value} {y : DataW H × List MemPlace} (ht : P.underlying t = some (.slice e)) (he : P.underlying e = some .string) (hc : P.cellsOf e = 1)
    (hf : DataW.trod enc P w base spare held fuel t [v] = some y) :
    ∃ (A : Option Addr) (c : Nat) (l : List ByteArray), v = .slice A l.length c ∧ l.length ≤ c ∧ (∀ s ∈ l, s.size ≤ 9223372036854775807) ∧ Kd.string.C w A l.length l := by
  rcases open_strings ht he hc hf with ⟨hcs, _⟩ | ⟨a, len, cap, zs, hcs, _, hl, hm, hz, _, hcell, hwf⟩
  · obtain rfl : v = .slice none 0 0 := by simpa using hcs
    exact ⟨none, 0, [], rfl, Nat.le_refl _, fun x hx => by simp at hx, rfl, by simp, fun h => absurd h (by simp)⟩
  · obtain rfl : v = .slice (some a) len cap := by simpa using hcs
    have hlz : len ≤ zs.length := by rw [hz]; split <;> omega
    have hlen : (zs.take len).length = len := by rw [List.length_take]; omega
    refine ⟨some a, cap, zs.take len, by rw [hlen], by rw [hlen]; exact hl, fun x hx => by have := hwf x (List.mem_of_mem_take hx); unfold maxLen at this; omega, ?_⟩
    refine C_scalar (by rw [hlen]; unfold maxLen at hm; omega) (fun hp => ⟨a, rfl, fun j x hj => ?_⟩)
    have hj' : j < len := by have := (List.getElem?_eq_some_iff.1 hj).1; rw [hlen] at this; exact this
    rw [hcell j (by omega)]
    rw [List.getElem?_take_of_lt hj'] at hj
    rw [List.getD_eq_getElem?_getD, hj]; rfl

theorem read_int {t : TypeId} {k : IntKind} {fuel : Nat} {v : Value} {y : DataW H × List MemPlace} (ht : P.underlying t = some (.int k))
    (hf : DataW.trod enc P w base spare held fuel t [v] = some y) : ∃ n : Int, v = .int k n ∧ (Lit.int k n).wf = true := by
  obtain ⟨n, e1, _, h⟩ := DataW.trod_int ht hf
  exact ⟨n, by simpa using e1, h⟩
end

/-- The cells of a datum that holds numbers alone, an array's elements being numbers or structs of numbers. -/
def litsOf : DataW Unit → List Value
  | .lit (.int k n) => [.int k n]
  | .agg l => l.flatMap fun
    | .lit (.int k n) => [.int k n]
    | .agg l2 => l2.flatMap fun
      | .lit (.int k n) => [.int k n]
      | _ => []
    | _ => []
  | _ => []
end Go.Proofs.Ytlkpilmcakeadaa

/- FnExactCountRightSaid: the law 'FnExactCountRight' answers true for every input, and leaves its arguments as they were. The row, over the walk of its calls and the pure statement. -/
namespace Go.Proofs.Ytlkpilmcakeadaa.fnExactCountRight
open Go.ChangeShapes Go.WideShapes Go.ChangeAt Go.RowKit Go.Proofs.Ytlkpilmcakeadaa.P Go.Proofs.YtlkpilmcakeadaaW.PrintWords
open Go.ChangeMaps (open_string shut_string)
set_option linter.unusedVariables false
theorem own : ownKnob Try.prog.godebug = none := by kernel_rfl
theorem laidOut : laidOutB Try.prog = true := by kernel_rfl
set_option maxRecDepth 100000 in
theorem lifted (os : Os) (started : os.Started) (H : Type) (enc : TypeId × Value → H) :
    ReturnsInHanded {} Try.checked os 5 .any (Rows.fnExactCountRightSpec.pre6 enc Try.prog Try.f5 Rows.fnExactCountRightRow.domain false) (Rows.fnExactCountRightSpec.post enc Try.prog Try.f5 false true false false) := by
  refine returnsInHanded_of_change_sized (C := Try.checked) own started (by kernel_rfl) Try.func5
    (ChangeSpec.witness6 (enc := enc) (C := Try.checked) false ⟨#[], #[.agg #[.int .i64 0, .slice none 0 0]], []⟩ 8 (by kernel_rfl) (by kernel_rfl) (by kernel_rfl) (by kernel_rfl)) ?_
  intro W base args ds gs before hval0 hW hcnd hsz0 _
  have hval : ∀ (j : Nat) t v, Try.f5.params[j]? = some t → args[j]? = some v → Value.okWide Try.prog W .any base t v := hval0
  have hW' := hW
  obtain ⟨p, q, hA0, hV, rfl, hfz, hnd⟩ := hW
  have hA : DataW.TrodAll enc Try.prog W 0 (fun _ => true) true Try.f5.params.toList args.toList ds p := hA0
  rw [Try.params5] at hA hval
  obtain ⟨v0, vs0, d0, ds0, p0, q0, hargs, rfl, rfl, h0, r0⟩ := trodAll_cons hA
  obtain ⟨rfl, rfl, rfl⟩ := trodAll_nil r0
  obtain rfl : args = #[v0] := by cases args; simp_all
  obtain ⟨rfl, rfl⟩ := trodVars_none hV
  have k0 := h0
  have lt0 : ∀ x ∈ p0, x.block < W.heap.size := by obtain ⟨m, hm⟩ := k0; exact DataW.trod_lt m _ _ _ hm
  obtain ⟨v0_0, v0_1, y0_0, y0_1, n0, rfl, rfl, rfl, g0_0, g0_1⟩ := Go.Joins.open_agg2 Try.underlying29 (by kernel_rfl) (by kernel_rfl) (hval 0 29 v0 rfl rfl) h0
  obtain ⟨a0_0, rfl, w0_0⟩ := read_int Try.underlying3 g0_0
  obtain ⟨A0_1, c0_1, l0_1, rfl, hc0_1, hw0_1, hr0_1⟩ := read_ints Try.underlying27 Try.underlying3 (by kernel_rfl) g0_1
  clear hA0 hval0
  obtain ⟨k, hk⟩ := pure_FnExactCountRight a0_0 l0_1 w0_0 ⟨hr0_1.2.1, hw0_1⟩
  refine (laws_FnExactCountRight.calls k a0_0 A0_1 c0_1 l0_1 true W hr0_1 hc0_1 hk).mono fun e W' ⟨he, bel0⟩ => ?_
  have bel : Below W.heap.size W W' := bel0
  subst he
  exact ⟨_, rfl, _, _, _, [], _, [], hW', trodAll_mk1 (shut_bool Try.underlying4 _), (trodAll_cons_mk (Below.trod laidOut (by kernel_rfl) (of_decide_eq_true (by kernel_rfl)) k0 bel lt0) trodAll_mk0), rfl, bel.frame _, fun h => by cases h⟩
theorem over : Rows.fnExactCountRightRow.holds Try.pinned (OpenSpec.ofChange Rows.fnExactCountRightSpec) :=
  OpenClaim.holds_of_wide 5 Try.f5 rfl rfl rfl rfl rfl rfl rfl ⟨rfl, rfl, rfl, rfl, rfl⟩ rfl rfl rfl rfl rfl (by kernel_rfl) Try.func5 (by kernel_rfl)
    (of_decide_eq_true (by kernel_rfl)) (by unfold Func.isWrapper; first | (rw [if_pos (by decide +kernel)]; kernel_rfl) | (rw [if_neg (by decide +kernel)]; exact ⟨rfl, rfl⟩))
    (fun os started H enc _ => lifted os started H enc)
theorem proved : Rows.FnExactCountRightSaid := over
#print axioms proved
end Go.Proofs.Ytlkpilmcakeadaa.fnExactCountRight
namespace Go.Proofs.Ytlkpilmcakeadaa
theorem fnExactCountRight_holds : Rows.FnExactCountRightSaid := fnExactCountRight.proved
end Go.Proofs.Ytlkpilmcakeadaa

