/- Part 2 of 2 of the proof of: FnExactMissedSinglesSaid: the law 'FnExactMissedSingles' answers true for every input, and leaves its arguments as they were. The row, over the walk of its calls and the pure statement. -/
import Derived.Test.YtlkpilmcakeadaaMFnExactMissedSingles1
import Derived.Test.YtlkpilmcakeadaaWWords
import Derived.Test.YtlkpilmcakeadaaWMore
import Derived.WalkKit
import Derived.ProofKit
import Derived.OpenShut
import Derived.ShutString
import Derived.ChangeOld
import Derived.Below
import Derived.SizedLaws
import Derived.ChangeSlices
import Derived.SliceStrings
import Derived.Lib.SmallJoins
import Derived.LaidLaws
import Derived.LaidHandle
import Derived.LaidMore
import Derived.Test.YtlkpilmcakeadaaRows
-- printed by xprint.py
namespace Go.Proofs.Ytlkpilmcakeadaa.P
open Go.RowKit Go.Proofs.YtlkpilmcakeadaaW.PrintWords Go.Proofs.YtlkpilmcakeadaaW.PrintLast Go.Proofs.YtlkpilmcakeadaaW.PrintMore
attribute [local go_sem] max2_int min2_int max_two min_two max_three min_three max_four min_four   -- for this text's walks alone
set_option linter.unusedVariables false
set_option linter.unusedSimpArgs false

/-! ### laws_FnExactMissedSingles: function 7 -/
mutual
def laws_FnExactMissedSingles.j0 : Nat → Int → List (List Int) → Bool → List (List Int) → Bool → Bool → Int → List Int → Int → List Int → Option (Bool)
 | 0, _, _, _, _, _, _, _, _, _, _ => none
 | k + 1, x1, x6, x7, x9, x10, x44, x102000, x102001, x116000, x116001 => if x44 = true then (some false) else ((laws_toScheme.f k x102000 x102001).bind fun bt121 => ((laws_eqScheme.f k x116000 x116001 bt121.1 bt121.2).bind fun t125 => (if t125 = true then ((laws_markScheme.f k x116000 x116001 1).bind fun bt126 => (if bt126.1 < 0 then (laws_FnExactMissedSingles.j1 k x1 x6 x7 x9 true x102000 x102001) else ((laws_eqIntSS.f k x9 x6).bind fun t128 => (if t128 = true then (laws_FnExactMissedSingles.j1 k x1 x6 x7 x9 (x10 != x7) x102000 x102001) else (laws_FnExactMissedSingles.j1 k x1 x6 x7 x9 true x102000 x102001))))) else (some false))))
def laws_FnExactMissedSingles.j1 : Nat → Int → List (List Int) → Bool → List (List Int) → Bool → Int → List Int → Option (Bool)
 | 0, _, _, _, _, _, _, _ => none
 | k + 1, x1, x6, x7, x9, x65, x102000, x102001 => if x65 = true then (some false) else ((laws_markIntSS.f k x9 1).bind fun (t129, x9m) => ((laws_heldIntSS.f k x9m 1).bind fun t130 => (if t130 < 0 then (some false) else (if t130 = t129 then ((laws_toScheme.f k x102000 x102001).bind fun bt131 => ((impl_MissedSingles.f k bt131.1 bt131.2 x1).bind fun bt135 => ((laws_eqIntSS.f k bt135.1 x6).bind fun t139 => (if t139 = true then (laws_FnExactMissedSingles.j2 k x9m t129 (bt135.2 != x7)) else (laws_FnExactMissedSingles.j2 k x9m t129 true))))) else (some false)))))
def laws_FnExactMissedSingles.j2 : Nat → List (List Int) → Int → Bool → Option (Bool)
 | 0, _, _, _ => none
 | k + 1, x9, x12, x92 => if x92 = true then (some false) else ((laws_heldIntSS.f k x9 1).bind fun t140 => (if t140 < 0 then (some false) else (if t140 = x12 then (some true) else (some false))))
end
def laws_FnExactMissedSingles.f (k : Nat) (a0_0 : Int) (l0_1 : List Int) (a1 : Int) : Option (Bool) := (laws_szScheme.f a0_0 l0_1 1048576).bind fun t102 => (if t102 < 0 then (some true) else ((laws_toScheme.f k a0_0 l0_1).bind fun bt103 => ((spec_MissedSingles.f k bt103.1 bt103.2 a1).bind fun bt107 => ((laws_toScheme.f k a0_0 l0_1).bind fun bt111 => ((impl_MissedSingles.f k bt111.1 bt111.2 a1).bind fun bt116 => ((laws_eqIntSS.f k bt116.1 bt107.1).bind fun t120 => (if t120 = true then (laws_FnExactMissedSingles.j0 k a1 bt107.1 bt107.2 bt116.1 bt116.2 (bt116.2 != bt107.2) a0_0 l0_1 bt111.1 bt111.2) else (laws_FnExactMissedSingles.j0 k a1 bt107.1 bt107.2 bt116.1 bt116.2 true a0_0 l0_1 bt111.1 bt111.2))))))))
theorem laws_FnExactMissedSingles.mono_l : ∀ k, (∀ y0 y1 y2 y3 y4 y5 y6 y7 y8 y9, LeO (laws_FnExactMissedSingles.j0 k y0 y1 y2 y3 y4 y5 y6 y7 y8 y9) (laws_FnExactMissedSingles.j0 (k + 1) y0 y1 y2 y3 y4 y5 y6 y7 y8 y9)) ∧ (∀ y0 y1 y2 y3 y4 y5 y6, LeO (laws_FnExactMissedSingles.j1 k y0 y1 y2 y3 y4 y5 y6) (laws_FnExactMissedSingles.j1 (k + 1) y0 y1 y2 y3 y4 y5 y6)) ∧ (∀ y0 y1 y2, LeO (laws_FnExactMissedSingles.j2 k y0 y1 y2) (laws_FnExactMissedSingles.j2 (k + 1) y0 y1 y2))
 | 0 => ⟨by intros; intro r h; simp [laws_FnExactMissedSingles.j0] at h, by intros; intro r h; simp [laws_FnExactMissedSingles.j1] at h, by intros; intro r h; simp [laws_FnExactMissedSingles.j2] at h⟩
 | k + 1 => by
  obtain ⟨ih0, ih1, ih2⟩ := laws_FnExactMissedSingles.mono_l k
  refine ⟨?_, ?_, ?_⟩
  ·
   intro y0 y1 y2 y3 y4 y5 y6 y7 y8 y9
   unfold laws_FnExactMissedSingles.j0
   repeat' first
   | (with_reducible exact ih0 _ _ _ _ _ _ _ _ _ _)
   | (with_reducible exact ih1 _ _ _ _ _ _ _)
   | (with_reducible exact ih2 _ _ _)
   | (with_reducible exact impl_MissedSingles.mono _ _ _ _)
   | (with_reducible exact laws_eqIntSS.mono _ _ _)
   | (with_reducible exact laws_eqScheme.mono _ _ _ _ _)
   | (with_reducible exact laws_heldIntSS.mono _ _ _)
   | (with_reducible exact laws_markIntSS.mono _ _ _)
   | (with_reducible exact laws_markScheme.mono _ _ _ _)
   | (with_reducible exact laws_toScheme.mono _ _ _)
   | (with_reducible exact spec_MissedSingles.mono _ _ _ _)
   | (with_reducible exact LeO.refl _)
   | (with_reducible exact LeO.none _)
   | (with_reducible refine LeO.ite ?_ ?_)
   | (with_reducible refine LeO.bind ?_ (fun _ => ?_))
   | exact ih0 _ _ _ _ _ _ _ _ _ _
   | exact ih1 _ _ _ _ _ _ _
   | exact ih2 _ _ _
   | exact impl_MissedSingles.mono _ _ _ _
   | exact laws_eqIntSS.mono _ _ _
   | exact laws_eqScheme.mono _ _ _ _ _
   | exact laws_heldIntSS.mono _ _ _
   | exact laws_markIntSS.mono _ _ _
   | exact laws_markScheme.mono _ _ _ _
   | exact laws_toScheme.mono _ _ _
   | exact spec_MissedSingles.mono _ _ _ _
   | exact LeO.none _
   | refine LeO.ite ?_ ?_
   | refine LeO.bind ?_ (fun _ => ?_)
  ·
   intro y0 y1 y2 y3 y4 y5 y6
   unfold laws_FnExactMissedSingles.j1
   repeat' first
   | (with_reducible exact ih0 _ _ _ _ _ _ _ _ _ _)
   | (with_reducible exact ih1 _ _ _ _ _ _ _)
   | (with_reducible exact ih2 _ _ _)
   | (with_reducible exact impl_MissedSingles.mono _ _ _ _)
   | (with_reducible exact laws_eqIntSS.mono _ _ _)
   | (with_reducible exact laws_eqScheme.mono _ _ _ _ _)
   | (with_reducible exact laws_heldIntSS.mono _ _ _)
   | (with_reducible exact laws_markIntSS.mono _ _ _)
   | (with_reducible exact laws_markScheme.mono _ _ _ _)
   | (with_reducible exact laws_toScheme.mono _ _ _)
   | (with_reducible exact spec_MissedSingles.mono _ _ _ _)
   | (with_reducible exact LeO.refl _)
   | (with_reducible exact LeO.none _)
   | (with_reducible refine LeO.ite ?_ ?_)
   | (with_reducible refine LeO.bind ?_ (fun _ => ?_))
   | exact ih0 _ _ _ _ _ _ _ _ _ _
   | exact ih1 _ _ _ _ _ _ _
   | exact ih2 _ _ _
   | exact impl_MissedSingles.mono _ _ _ _
   | exact laws_eqIntSS.mono _ _ _
   | exact laws_eqScheme.mono _ _ _ _ _
   | exact laws_heldIntSS.mono _ _ _
   | exact laws_markIntSS.mono _ _ _
   | exact laws_markScheme.mono _ _ _ _
   | exact laws_toScheme.mono _ _ _
   | exact spec_MissedSingles.mono _ _ _ _
   | exact LeO.none _
   | refine LeO.ite ?_ ?_
   | refine LeO.bind ?_ (fun _ => ?_)
  ·
   intro y0 y1 y2
   unfold laws_FnExactMissedSingles.j2
   repeat' first
   | (with_reducible exact ih0 _ _ _ _ _ _ _ _ _ _)
   | (with_reducible exact ih1 _ _ _ _ _ _ _)
   | (with_reducible exact ih2 _ _ _)
   | (with_reducible exact impl_MissedSingles.mono _ _ _ _)
   | (with_reducible exact laws_eqIntSS.mono _ _ _)
   | (with_reducible exact laws_eqScheme.mono _ _ _ _ _)
   | (with_reducible exact laws_heldIntSS.mono _ _ _)
   | (with_reducible exact laws_markIntSS.mono _ _ _)
   | (with_reducible exact laws_markScheme.mono _ _ _ _)
   | (with_reducible exact laws_toScheme.mono _ _ _)
   | (with_reducible exact spec_MissedSingles.mono _ _ _ _)
   | (with_reducible exact LeO.refl _)
   | (with_reducible exact LeO.none _)
   | (with_reducible refine LeO.ite ?_ ?_)
   | (with_reducible refine LeO.bind ?_ (fun _ => ?_))
   | exact ih0 _ _ _ _ _ _ _ _ _ _
   | exact ih1 _ _ _ _ _ _ _
   | exact ih2 _ _ _
   | exact impl_MissedSingles.mono _ _ _ _
   | exact laws_eqIntSS.mono _ _ _
   | exact laws_eqScheme.mono _ _ _ _ _
   | exact laws_heldIntSS.mono _ _ _
   | exact laws_markIntSS.mono _ _ _
   | exact laws_markScheme.mono _ _ _ _
   | exact laws_toScheme.mono _ _ _
   | exact spec_MissedSingles.mono _ _ _ _
   | exact LeO.none _
   | refine LeO.ite ?_ ?_
   | refine LeO.bind ?_ (fun _ => ?_)
theorem laws_FnExactMissedSingles.mono : ∀ y0 y1 y2 k, LeO (laws_FnExactMissedSingles.f k y0 y1 y2) (laws_FnExactMissedSingles.f (k + 1) y0 y1 y2) := by
 intro y0 y1 y2 k
 obtain ⟨ih0, ih1, ih2⟩ := laws_FnExactMissedSingles.mono_l k
 unfold laws_FnExactMissedSingles.f
 repeat' first
   | (with_reducible exact ih0 _ _ _ _ _ _ _ _ _ _)
   | (with_reducible exact ih1 _ _ _ _ _ _ _)
   | (with_reducible exact ih2 _ _ _)
   | (with_reducible exact impl_MissedSingles.mono _ _ _ _)
   | (with_reducible exact laws_eqIntSS.mono _ _ _)
   | (with_reducible exact laws_eqScheme.mono _ _ _ _ _)
   | (with_reducible exact laws_heldIntSS.mono _ _ _)
   | (with_reducible exact laws_markIntSS.mono _ _ _)
   | (with_reducible exact laws_markScheme.mono _ _ _ _)
   | (with_reducible exact laws_toScheme.mono _ _ _)
   | (with_reducible exact spec_MissedSingles.mono _ _ _ _)
   | (with_reducible exact LeO.refl _)
   | (with_reducible exact LeO.none _)
   | (with_reducible refine LeO.ite ?_ ?_)
   | (with_reducible refine LeO.bind ?_ (fun _ => ?_))
   | exact ih0 _ _ _ _ _ _ _ _ _ _
   | exact ih1 _ _ _ _ _ _ _
   | exact ih2 _ _ _
   | exact impl_MissedSingles.mono _ _ _ _
   | exact laws_eqIntSS.mono _ _ _
   | exact laws_eqScheme.mono _ _ _ _ _
   | exact laws_heldIntSS.mono _ _ _
   | exact laws_markIntSS.mono _ _ _
   | exact laws_markScheme.mono _ _ _ _
   | exact laws_toScheme.mono _ _ _
   | exact spec_MissedSingles.mono _ _ _ _
   | exact LeO.none _
   | refine LeO.ite ?_ ?_
   | refine LeO.bind ?_ (fun _ => ?_)
set_option maxHeartbeats 8000000 in
set_option maxRecDepth 100000 in
theorem laws_FnExactMissedSingles.calls (k : Nat) (a0_0 : Int) (A0_1 : Option Addr) (c0_1 : Nat) (l0_1 : List Int) (a1 : Int) (r : Bool) (w : World) (hr0_1 : Kd.C (Kd.int .i64) w A0_1 l0_1.length l0_1) (hc0_1 : l0_1.length ≤ c0_1) (h : laws_FnExactMissedSingles.f k a0_0 l0_1 a1 = some r) :
  Calls Try.prog 7 #[.agg #[.int .i64 a0_0, .slice A0_1 l0_1.length c0_1], .int .i64 a1] w fun e w' => e = .returned (.bool r) ∧ Below w.heap.size w w' := by
 have hu29 := Try.underlying29
 have hu33 := Try.underlying33
 have HR0_1 := Aside0.mk hr0_1
 have HC0_1 := Aside0.mk hc0_1
 clear hr0_1 hc0_1
 have HB := Aside0.mk (Below.refl w.heap.size w)
 have H : ((laws_szScheme.f a0_0 l0_1 1048576).bind fun t102 => (if t102 < 0 then (some true) else ((laws_toScheme.f k a0_0 l0_1).bind fun bt103 => ((spec_MissedSingles.f k bt103.1 bt103.2 a1).bind fun bt107 => ((laws_toScheme.f k a0_0 l0_1).bind fun bt111 => ((impl_MissedSingles.f k bt111.1 bt111.2 a1).bind fun bt116 => ((laws_eqIntSS.f k bt116.1 bt107.1).bind fun t120 => (if t120 = true then (laws_FnExactMissedSingles.j0 k a1 bt107.1 bt107.2 bt116.1 bt116.2 (bt116.2 != bt107.2) a0_0 l0_1 bt111.1 bt111.2) else (laws_FnExactMissedSingles.j0 k a1 bt107.1 bt107.2 bt116.1 bt116.2 true a0_0 l0_1 bt111.1 bt111.2))))))))) = some r := h
 clear h
 replace H := Option.bind_eq_some_iff.mp H
 obtain ⟨t102, A30, H⟩ := H
 replace H : (if t102 < 0 then (some true) else ((laws_toScheme.f k a0_0 l0_1).bind fun bt103 => ((spec_MissedSingles.f k bt103.1 bt103.2 a1).bind fun bt107 => ((laws_toScheme.f k a0_0 l0_1).bind fun bt111 => ((impl_MissedSingles.f k bt111.1 bt111.2 a1).bind fun bt116 => ((laws_eqIntSS.f k bt116.1 bt107.1).bind fun t120 => (if t120 = true then (laws_FnExactMissedSingles.j0 k a1 bt107.1 bt107.2 bt116.1 bt116.2 (bt116.2 != bt107.2) a0_0 l0_1 bt111.1 bt111.2) else (laws_FnExactMissedSingles.j0 k a1 bt107.1 bt107.2 bt116.1 bt116.2 true a0_0 l0_1 bt111.1 bt111.2)))))))) = some r := H
 have A3 := Aside0.mk A30
 clear A30
 by_cases c4 : t102 < 0
 ·
  rw [if_pos c4] at H
  have c4b0 : decide (t102 < 0) = true := decide_eq_true c4
  clear c4
  obtain rfl := Option.some.inj H
  go_enter Try.func7, Try.ntmps7
  go_wp2_with (first | ((with_reducible refine gate_dst (N := 2) rfl ?_); refine box_event ?hg (N := 2) ?hd (cs := #[.int .i64 a0_0, .slice A0_1 l0_1.length c0_1]) (t := 29) ?hr ?_; (case hd => rfl); (case hg => rfl); (case hr => first | (go_simp; done) | (go_simp; rfl)); intro gb101 hg w5 hbox hb; have n0_ := Aside0.mk (below_step (by repeat (first | (with_reducible first | exact HB.out | apply below_alloc | apply pw_below_drewN | apply below_drew1) | exact HB.out)) hb); have n1_ := Aside0.mk (hbox); have n2_ := Aside0.mk ((by rw [hg]; exact (below_size (by repeat (first | (with_reducible first | exact HB.out | apply below_alloc | apply pw_below_drewN | apply below_drew1) | exact HB.out))) : w.heap.size ≤ gb101)); have n3_ := Aside0.mk ((by rw [hg]; exact (below_size (by repeat (first | (with_reducible first | exact HB.out | apply below_alloc | apply pw_below_drewN | apply below_drew1) | exact HB.out))) : w.heap.size ≤ gb101)); clear HB; have HB := n0_; have BK101 := n1_; have GW101 := n2_; have GE101 := n3_; clear n0_ n1_ n2_ n3_; clear hb hbox hg; have hcz6_0 : w5.cell? ⟨gb101, 0, none⟩ = some (.int .i64 a0_0) := (blk_cell BK101.out 0).trans rfl; have hcz6_1 : w5.cell? ⟨gb101, 1, none⟩ = some (.slice A0_1 l0_1.length c0_1) := (blk_cell BK101.out 1).trans rfl; have hfz6_0 := blk_frozen BK101.out 0; have hfz6_1 := blk_frozen BK101.out 1) | ((with_reducible refine gate_callee (f := 13) rfl ?_); refine goesL_ (some 18) rfl rfl Try.func13 (by kernel_rfl) rfl #[.agg #[.int .i64 a0_0, .slice A0_1 l0_1.length c0_1], .int .i64 1048576] rfl (by (try simp only [List.map_toArray, List.map_cons, List.map_nil]); first | done | rfl | (simp only [List.length_drop, List.length_take]; rfl)) ?_; (with_reducible refine (laws_szScheme.calls a0_0 _ _ l0_1 1048576 t102 _ ?side1 ?side2 A3.out).mono ?_); (case side1 => repeat (first | exact (Kd.C_below HR0_1.out HB.out) | (with_reducible refine Kd.C_alloc ?_ _) | (with_reducible refine Kd.C_drewN ?_ _) | (with_reducible refine Kd.C_drew ?_))); (case side2 => exact HC0_1.out); rintro e w7 ⟨rfl, hb⟩; refine ⟨_, rfl, ?_⟩; have n0_ := Aside0.mk (blk_below (g := gb101) (o := .cells #[.int .i64 a0_0, .slice A0_1 l0_1.length c0_1] 29 (0, 0)) (by (with_reducible repeat (first | refine blk_drewN ?_ _ | refine blk_drew ?_ | refine blk_alloc ?_ _)); exact BK101.out) hb); have n1_ := Aside0.mk (below_step (by repeat (first | (with_reducible first | exact HB.out | apply below_alloc | apply pw_below_drewN | apply below_drew1 | refine below_set ?_ GE101.out) | exact HB.out)) hb); clear BK101; clear HB; have BK101 := n0_; have HB := n1_; clear n0_ n1_; (try clear hb); (try clear hb2); (try clear hk); (try clear hi)))
  go_ret
  exact ⟨by first | rfl | (simp [errW_none, errW_some] <;> rfl) | (simp [*, errW_none, errW_some] <;> rfl), by repeat (first | (with_reducible first | exact HB.out | apply below_alloc | apply pw_below_drewN | apply below_drew1 | refine below_set ?_ GE101.out) | exact HB.out)⟩
 ·
  rw [if_neg c4] at H
  have c4b0 : decide (t102 < 0) = false := decide_eq_false c4
  clear c4
  replace H := Option.bind_eq_some_iff.mp H
  obtain ⟨⟨t103, t104⟩, A80, H⟩ := H
  replace H : ((spec_MissedSingles.f k t103 t104 a1).bind fun bt107 => ((laws_toScheme.f k a0_0 l0_1).bind fun bt111 => ((impl_MissedSingles.f k bt111.1 bt111.2 a1).bind fun bt116 => ((laws_eqIntSS.f k bt116.1 bt107.1).bind fun t120 => (if t120 = true then (laws_FnExactMissedSingles.j0 k a1 bt107.1 bt107.2 bt116.1 bt116.2 (bt116.2 != bt107.2) a0_0 l0_1 bt111.1 bt111.2) else (laws_FnExactMissedSingles.j0 k a1 bt107.1 bt107.2 bt116.1 bt116.2 true a0_0 l0_1 bt111.1 bt111.2)))))) = some r := H
  have A8 := Aside0.mk A80
  clear A80
  replace H := Option.bind_eq_some_iff.mp H
  obtain ⟨⟨t107, t110⟩, A90, H⟩ := H
  replace H : ((laws_toScheme.f k a0_0 l0_1).bind fun bt111 => ((impl_MissedSingles.f k bt111.1 bt111.2 a1).bind fun bt116 => ((laws_eqIntSS.f k bt116.1 t107).bind fun t120 => (if t120 = true then (laws_FnExactMissedSingles.j0 k a1 t107 t110 bt116.1 bt116.2 (bt116.2 != t110) a0_0 l0_1 bt111.1 bt111.2) else (laws_FnExactMissedSingles.j0 k a1 t107 t110 bt116.1 bt116.2 true a0_0 l0_1 bt111.1 bt111.2))))) = some r := H
  have A9 := Aside0.mk A90
  clear A90
  replace H := Option.bind_eq_some_iff.mp H
  obtain ⟨⟨t111, t112⟩, A100, H⟩ := H
  replace H : ((impl_MissedSingles.f k t111 t112 a1).bind fun bt116 => ((laws_eqIntSS.f k bt116.1 t107).bind fun t120 => (if t120 = true then (laws_FnExactMissedSingles.j0 k a1 t107 t110 bt116.1 bt116.2 (bt116.2 != t110) a0_0 l0_1 t111 t112) else (laws_FnExactMissedSingles.j0 k a1 t107 t110 bt116.1 bt116.2 true a0_0 l0_1 t111 t112)))) = some r := H
  have A10 := Aside0.mk A100
  clear A100
  replace H := Option.bind_eq_some_iff.mp H
  obtain ⟨⟨t116, t119⟩, A110, H⟩ := H
  replace H : ((laws_eqIntSS.f k t116 t107).bind fun t120 => (if t120 = true then (laws_FnExactMissedSingles.j0 k a1 t107 t110 t116 t119 (t119 != t110) a0_0 l0_1 t111 t112) else (laws_FnExactMissedSingles.j0 k a1 t107 t110 t116 t119 true a0_0 l0_1 t111 t112))) = some r := H
  have A11 := Aside0.mk A110
  clear A110
  have HC12 := Aside0.mk H
  clear H
  go_enter Try.func7, Try.ntmps7
  go_upto_region 8 with (first | ((with_reducible refine gate_dst (N := 2) rfl ?_); refine box_event ?hg (N := 2) ?hd (cs := #[.int .i64 a0_0, .slice A0_1 l0_1.length c0_1]) (t := 29) ?hr ?_; (case hd => rfl); (case hg => rfl); (case hr => first | (go_simp; done) | (go_simp; rfl)); intro gb101 hg w13 hbox hb; have n0_ := Aside0.mk (below_step (by repeat (first | (with_reducible first | exact HB.out | apply below_alloc | apply pw_below_drewN | apply below_drew1) | exact HB.out)) hb); have n1_ := Aside0.mk (hbox); have n2_ := Aside0.mk ((by rw [hg]; exact (below_size (by repeat (first | (with_reducible first | exact HB.out | apply below_alloc | apply pw_below_drewN | apply below_drew1) | exact HB.out))) : w.heap.size ≤ gb101)); have n3_ := Aside0.mk ((by rw [hg]; exact (below_size (by repeat (first | (with_reducible first | exact HB.out | apply below_alloc | apply pw_below_drewN | apply below_drew1) | exact HB.out))) : w.heap.size ≤ gb101)); clear HB; have HB := n0_; have BK101 := n1_; have GW101 := n2_; have GE101 := n3_; clear n0_ n1_ n2_ n3_; clear hb hbox hg; have hcz14_0 : w13.cell? ⟨gb101, 0, none⟩ = some (.int .i64 a0_0) := (blk_cell BK101.out 0).trans rfl; have hcz14_1 : w13.cell? ⟨gb101, 1, none⟩ = some (.slice A0_1 l0_1.length c0_1) := (blk_cell BK101.out 1).trans rfl; have hfz14_0 := blk_frozen BK101.out 0; have hfz14_1 := blk_frozen BK101.out 1) | ((with_reducible refine gate_callee (f := 13) rfl ?_); refine goesL_ (some 18) rfl rfl Try.func13 (by kernel_rfl) rfl #[.agg #[.int .i64 a0_0, .slice A0_1 l0_1.length c0_1], .int .i64 1048576] rfl (by (try simp only [List.map_toArray, List.map_cons, List.map_nil]); first | done | rfl | (simp only [List.length_drop, List.length_take]; rfl)) ?_; (with_reducible refine (laws_szScheme.calls a0_0 _ _ l0_1 1048576 t102 _ ?side1 ?side2 A3.out).mono ?_); (case side1 => repeat (first | exact (Kd.C_below HR0_1.out HB.out) | (with_reducible refine Kd.C_alloc ?_ _) | (with_reducible refine Kd.C_drewN ?_ _) | (with_reducible refine Kd.C_drew ?_))); (case side2 => exact HC0_1.out); rintro e w15 ⟨rfl, hb⟩; refine ⟨_, rfl, ?_⟩; have n0_ := Aside0.mk (blk_below (g := gb101) (o := .cells #[.int .i64 a0_0, .slice A0_1 l0_1.length c0_1] 29 (0, 0)) (by (with_reducible repeat (first | refine blk_drewN ?_ _ | refine blk_drew ?_ | refine blk_alloc ?_ _)); exact BK101.out) hb); have n1_ := Aside0.mk (below_step (by repeat (first | (with_reducible first | exact HB.out | apply below_alloc | apply pw_below_drewN | apply below_drew1 | refine below_set ?_ GE101.out) | exact HB.out)) hb); clear BK101; clear HB; have BK101 := n0_; have HB := n1_; clear n0_ n1_; (try clear hb); (try clear hb2); (try clear hk); (try clear hi); have hcz16_0 : w15.cell? ⟨gb101, 0, none⟩ = some (.int .i64 a0_0) := (blk_cell BK101.out 0).trans rfl; have hcz16_1 : w15.cell? ⟨gb101, 1, none⟩ = some (.slice A0_1 l0_1.length c0_1) := (blk_cell BK101.out 1).trans rfl; have hfz16_0 := blk_frozen BK101.out 0; have hfz16_1 := blk_frozen BK101.out 1) | ((with_reducible refine gate_callee (f := 15) rfl ?_); refine goesL_ (some 23) rfl rfl Try.func15 (by kernel_rfl) rfl #[.agg #[.int .i64 a0_0, .slice A0_1 l0_1.length c0_1]] rfl (by (try simp only [List.map_toArray, List.map_cons, List.map_nil]); first | done | rfl | (simp only [List.length_drop, List.length_take]; rfl)) ?_; (with_reducible refine (laws_toScheme.calls k a0_0 _ _ l0_1 t103 t104 _ ?side1 ?side2 A8.out).mono ?_); (case side1 => repeat (first | exact (Kd.C_below HR0_1.out HB.out) | (with_reducible refine Kd.C_alloc ?_ _) | (with_reducible refine Kd.C_drewN ?_ _) | (with_reducible refine Kd.C_drew ?_))); (case side2 => exact HC0_1.out); rintro e w17 ⟨v105, rfl, ho0, hb⟩; refine ⟨_, rfl, ?_⟩; have n0_ := Aside0.mk (Kd.R_lower ho0 (below_size (by repeat (first | (with_reducible first | exact HB.out | apply below_alloc | apply pw_below_drewN | apply below_drew1 | refine below_set ?_ GE101.out) | exact HB.out)))); have n1_ := Aside0.mk (blk_below (g := gb101) (o := .cells #[.int .i64 a0_0, .slice A0_1 l0_1.length c0_1] 29 (0, 0)) (by (with_reducible repeat (first | refine blk_drewN ?_ _ | refine blk_drew ?_ | refine blk_alloc ?_ _)); exact BK101.out) hb); have n2_ := Aside0.mk (below_step (by repeat (first | (with_reducible first | exact HB.out | apply below_alloc | apply pw_below_drewN | apply below_drew1 | refine below_set ?_ GE101.out) | exact HB.out)) hb); clear BK101; clear HB; have HO106 := n0_; have BK101 := n1_; have HB := n2_; clear n0_ n1_ n2_; (try clear hb); (try clear hb2); (try clear hk); (try clear hi); (try clear ho0); obtain ⟨Ao18, co18, eo18⟩ := Kd.R_slice HO106.out; subst eo18) | ((with_reducible refine gate_callee (f := 22) rfl ?_); refine goesL_ (some 25) rfl rfl Try.func22 (by kernel_rfl) rfl #[.agg #[.int .i64 t103, .slice Ao18 t104.length co18], .int .i64 a1] rfl (by (try simp only [List.map_toArray, List.map_cons, List.map_nil]); first | done | rfl | (simp only [List.length_drop, List.length_take]; rfl)) ?_; (with_reducible refine (spec_MissedSingles.calls k t103 _ _ t104 a1 t107 t110 _ ?side1 ?side2 A9.out).mono ?_); (case side1 => repeat (first | exact (Kd.R_reads' HO106.out).2.2 | (with_reducible refine Kd.C_alloc ?_ _) | (with_reducible refine Kd.C_drewN ?_ _) | (with_reducible refine Kd.C_drew ?_))); (case side2 => exact (Kd.R_reads' HO106.out).2.1); rintro e w19 ⟨v108, rfl, ho0, hb⟩; refine ⟨_, rfl, ?_⟩; have n0_ := Aside0.mk (Kd.R_below (by (with_reducible repeat (first | apply Kd.R_alloc | apply Kd.R_drewN | apply Kd.R_drew)); exact HO106.out) hb); have n1_ := Aside0.mk (Kd.S_lower (Kd.S_new' ho0 (Kd.R_lt (by (with_reducible repeat (first | apply Kd.R_alloc | apply Kd.R_drewN | apply Kd.R_drew)); exact HO106.out))) (below_size (by repeat (first | (with_reducible first | exact HB.out | apply below_alloc | apply pw_below_drewN | apply below_drew1 | refine below_set ?_ GE101.out) | exact HB.out)))); have n2_ := Aside0.mk (blk_below (g := gb101) (o := .cells #[.int .i64 a0_0, .slice A0_1 l0_1.length c0_1] 29 (0, 0)) (by (with_reducible repeat (first | refine blk_drewN ?_ _ | refine blk_drew ?_ | refine blk_alloc ?_ _)); exact BK101.out) hb); have n3_ := Aside0.mk (below_step (by repeat (first | (with_reducible first | exact HB.out | apply below_alloc | apply pw_below_drewN | apply below_drew1 | refine below_set ?_ GE101.out) | exact HB.out)) hb); clear HO106; clear BK101; clear HB; have HO106 := n0_; have HO109 := n1_; have BK101 := n2_; have HB := n3_; clear n0_ n1_ n2_ n3_; (try clear hb); (try clear hb2); (try clear hk); (try clear hi); (try clear ho0); have hcz20_0 : w19.cell? ⟨gb101, 0, none⟩ = some (.int .i64 a0_0) := (blk_cell BK101.out 0).trans rfl; have hcz20_1 : w19.cell? ⟨gb101, 1, none⟩ = some (.slice A0_1 l0_1.length c0_1) := (blk_cell BK101.out 1).trans rfl; have hfz20_0 := blk_frozen BK101.out 0; have hfz20_1 := blk_frozen BK101.out 1) | ((with_reducible refine gate_callee (f := 15) rfl ?_); refine goesL_ (some 29) rfl rfl Try.func15 (by kernel_rfl) rfl #[.agg #[.int .i64 a0_0, .slice A0_1 l0_1.length c0_1]] rfl (by (try simp only [List.map_toArray, List.map_cons, List.map_nil]); first | done | rfl | (simp only [List.length_drop, List.length_take]; rfl)) ?_; (with_reducible refine (laws_toScheme.calls k a0_0 _ _ l0_1 t111 t112 _ ?side1 ?side2 A10.out).mono ?_); (case side1 => repeat (first | exact (Kd.C_below HR0_1.out HB.out) | (with_reducible refine Kd.C_alloc ?_ _) | (with_reducible refine Kd.C_drewN ?_ _) | (with_reducible refine Kd.C_drew ?_))); (case side2 => exact HC0_1.out); rintro e w21 ⟨v113, rfl, ho0, hb⟩; refine ⟨_, rfl, ?_⟩; have n0_ := Aside0.mk (Kd.R_elder' (by (with_reducible repeat (first | apply Kd.R_alloc | apply Kd.R_drewN | apply Kd.R_drew)); exact HO106.out) (Kd.R_base ho0) hb); have n1_ := Aside0.mk (Kd.S_elder' (by (with_reducible repeat (first | apply Kd.S_alloc | apply Kd.S_drewN | apply Kd.S_drew)); exact HO109.out) (Kd.R_base ho0) hb); have n2_ := Aside0.mk (Kd.R_lower (Kd.R_new' ho0 (Kd.R_lt (by (with_reducible repeat (first | apply Kd.R_alloc | apply Kd.R_drewN | apply Kd.R_drew)); exact HO106.out))) (below_size (by repeat (first | (with_reducible first | exact HB.out | apply below_alloc | apply pw_below_drewN | apply below_drew1 | refine below_set ?_ GE101.out) | exact HB.out)))); have n3_ := Aside0.mk (blk_below (g := gb101) (o := .cells #[.int .i64 a0_0, .slice A0_1 l0_1.length c0_1] 29 (0, 0)) (by (with_reducible repeat (first | refine blk_drewN ?_ _ | refine blk_drew ?_ | refine blk_alloc ?_ _)); exact BK101.out) hb); have n4_ := Aside0.mk (below_step (by repeat (first | (with_reducible first | exact HB.out | apply below_alloc | apply pw_below_drewN | apply below_drew1 | refine below_set ?_ GE101.out) | exact HB.out)) hb); clear HO106; clear HO109; clear BK101; clear HB; have HO106 := n0_; have HO109 := n1_; have HO114 := n2_; have BK101 := n3_; have HB := n4_; clear n0_ n1_ n2_ n3_ n4_; (try clear hb); (try clear hb2); (try clear hk); (try clear hi); (try clear ho0)) | ((with_reducible refine gate_dst (N := 8) rfl ?_); refine box_event ?hg (N := 8) ?hd (cs := #[.int .i64 0, .slice none 0 0]) (t := 33) ?hr ?_; (case hd => rfl); (case hg => rfl); (case hr => first | (go_simp; done) | (go_simp; rfl)); intro gb115 hg w22 hbox hb; have n0_ := Aside0.mk (Kd.R_below (by (with_reducible repeat (first | apply Kd.R_alloc | apply Kd.R_drewN | apply Kd.R_drew)); exact HO106.out) hb); have n1_ := Aside0.mk (Kd.S_below (by (with_reducible repeat (first | apply Kd.S_alloc | apply Kd.S_drewN | apply Kd.S_drew)); exact HO109.out) hb); have n2_ := Aside0.mk (Kd.R_below (by (with_reducible repeat (first | apply Kd.R_alloc | apply Kd.R_drewN | apply Kd.R_drew)); exact HO114.out) hb); have n3_ := Aside0.mk (blk_below (g := gb101) (o := .cells #[.int .i64 a0_0, .slice A0_1 l0_1.length c0_1] 29 (0, 0)) (by (with_reducible repeat (first | refine blk_drewN ?_ _ | refine blk_drew ?_ | refine blk_alloc ?_ _)); exact BK101.out) hb); have n4_ := Aside0.mk (below_step (by repeat (first | (with_reducible first | exact HB.out | apply below_alloc | apply pw_below_drewN | apply below_drew1 | refine below_set ?_ GE101.out) | exact HB.out)) hb); have n5_ := Aside0.mk (hbox); have n6_ := Aside0.mk ((by rw [hg]; exact (below_size (by repeat (first | (with_reducible first | exact HB.out | apply below_alloc | apply pw_below_drewN | apply below_drew1 | refine below_set ?_ GE101.out) | exact HB.out))) : w.heap.size ≤ gb115)); have n7_ := Aside0.mk ((by rw [hg]; exact (below_size (by repeat (first | (with_reducible first | exact HB.out | apply below_alloc | apply pw_below_drewN | apply below_drew1 | refine below_set ?_ GE101.out) | exact HB.out))) : w.heap.size ≤ gb115)); have n8_ := Aside0.mk ((by rw [hg]; exact Nat.ne_of_lt (blk_lt (g := gb101) (o := .cells #[.int .i64 a0_0, .slice A0_1 l0_1.length c0_1] 29 (0, 0)) (by (with_reducible repeat (first | refine blk_drewN ?_ _ | refine blk_drew ?_ | refine blk_alloc ?_ _)); exact BK101.out)) : gb101 ≠ gb115)); have n9_ := Aside0.mk ((by rw [hg]; exact Nat.ne_of_gt (blk_lt (g := gb101) (o := .cells #[.int .i64 a0_0, .slice A0_1 l0_1.length c0_1] 29 (0, 0)) (by (with_reducible repeat (first | refine blk_drewN ?_ _ | refine blk_drew ?_ | refine blk_alloc ?_ _)); exact BK101.out)) : gb115 ≠ gb101)); clear HO106; clear HO109; clear HO114; clear BK101; clear HB; have HO106 := n0_; have HO109 := n1_; have HO114 := n2_; have BK101 := n3_; have HB := n4_; have BK115 := n5_; have GW115 := n6_; have GE115 := n7_; have NB101_115 := n8_; have NB115_101 := n9_; clear n0_ n1_ n2_ n3_ n4_ n5_ n6_ n7_ n8_ n9_; clear hb hbox hg; have hnb23 := NB115_101.out; have hnc23 := NB101_115.out; have hcz24_0 : w22.cell? ⟨gb115, 0, none⟩ = some (.int .i64 0) := (blk_cell BK115.out 0).trans rfl; have hcz24_1 : w22.cell? ⟨gb115, 1, none⟩ = some (.slice none 0 0) := (blk_cell BK115.out 1).trans rfl; have hfz24_0 := blk_frozen BK115.out 0; have hfz24_1 := blk_frozen BK115.out 1; obtain ⟨Ao25, co25, eo25⟩ := Kd.R_slice HO114.out; subst eo25) | ((with_reducible refine gate_callee (f := 23) rfl ?_); refine goesL_ (some 33) rfl rfl Try.func23 (by kernel_rfl) rfl #[.agg #[.int .i64 t111, .slice Ao25 t112.length co25], .int .i64 a1] rfl (by (try simp only [List.map_toArray, List.map_cons, List.map_nil]); first | done | rfl | (simp only [List.length_drop, List.length_take]; rfl)) ?_; (with_reducible refine (impl_MissedSingles.calls k t111 _ _ t112 a1 t116 t119 _ ?side1 ?side2 A11.out).mono ?_); (case side1 => refine (Kd.R_reads' (e := 3) (base := w.heap.size) (ok := fun k_ => (True ∧ some k_ ≠ (.slice Ao18 t104.length co18 : Value).ownBlock)) (n := t112.length) (c := co25) ?_).2.2; exact (by (with_reducible repeat (first | apply Kd.R_alloc | apply Kd.R_drewN | apply Kd.R_drew)); exact (Kd.R_mono (Kd.R_far (p := ⟨gb115, 1, none⟩) (Kd.R_far (p := ⟨gb115, 0, none⟩) (Kd.R_types HO114.out BK115.out (by decide)) (fun _ hk => hk.2) (.int .i64 t111)) (fun _ hk => hk.2) (.slice Ao25 t112.length co25)) (fun _ h_ => h_.1)))); (case side2 => exact (Kd.R_reads' HO114.out).2.1); rintro e w26 ⟨v117, rfl, ho0, hb⟩; refine ⟨_, rfl, ?_⟩; obtain ⟨N_, hq1_, hq2_, hNb_⟩ := ms_two (by (with_reducible repeat (first | apply Kd.S_alloc | apply Kd.S_drewN | apply Kd.S_drew)); exact (Kd.S_mono (Kd.S_far (p := ⟨gb115, 1, none⟩) (Kd.S_far (p := ⟨gb115, 0, none⟩) (Kd.S_types HO109.out BK115.out (by decide)) (fun _ hk => hk.2) (.int .i64 t111)) (fun _ hk => hk.2) (.slice Ao25 t112.length co25)) (fun _ h_ => h_.1))) hb (Kd.S_new' ho0 (Kd.R_lt (by (with_reducible repeat (first | apply Kd.R_alloc | apply Kd.R_drewN | apply Kd.R_drew)); exact (Kd.R_mono (Kd.R_far (p := ⟨gb115, 1, none⟩) (Kd.R_far (p := ⟨gb115, 0, none⟩) (Kd.R_types HO106.out BK115.out (by decide)) (fun _ hk => hk.2) (.int .i64 t111)) (fun _ hk => hk.2) (.slice Ao25 t112.length co25)) (fun _ h_ => h_.1))))); have HNBK101 := Aside0.mk (hNb_ gb101 (.cells #[.int .i64 a0_0, .slice A0_1 l0_1.length c0_1] 29 (0, 0)) (by (with_reducible repeat (first | refine blk_drewN ?_ _ | refine blk_drew ?_ | refine blk_alloc ?_ _)); refine blk_far ?_ NB101_115.out _; (with_reducible repeat (first | refine blk_drewN ?_ _ | refine blk_drew ?_ | refine blk_alloc ?_ _)); refine blk_far ?_ NB101_115.out _; (with_reducible repeat (first | refine blk_drewN ?_ _ | refine blk_drew ?_ | refine blk_alloc ?_ _)); exact BK101.out)); have HNBK115 := Aside0.mk (hNb_ gb115 (.cells #[.int .i64 t111, .slice Ao25 t112.length co25] 33 (0, 0)) (by (with_reducible repeat (first | refine blk_drewN ?_ _ | refine blk_drew ?_ | refine blk_alloc ?_ _)); refine blk_put (cs := #[.int .i64 t111, .slice none 0 0]) ?_ 1 _ rfl; (with_reducible repeat (first | refine blk_drewN ?_ _ | refine blk_drew ?_ | refine blk_alloc ?_ _)); refine blk_put (cs := #[.int .i64 0, .slice none 0 0]) ?_ 0 _ rfl; (with_reducible repeat (first | refine blk_drewN ?_ _ | refine blk_drew ?_ | refine blk_alloc ?_ _)); exact BK115.out)); clear hNb_; have n0_ := Aside0.mk (Kd.R_below (by (with_reducible repeat (first | apply Kd.R_alloc | apply Kd.R_drewN | apply Kd.R_drew)); exact (Kd.R_mono (Kd.R_far (p := ⟨gb115, 1, none⟩) (Kd.R_far (p := ⟨gb115, 0, none⟩) (Kd.R_types HO106.out BK115.out (by decide)) (fun _ hk => hk.2) (.int .i64 t111)) (fun _ hk => hk.2) (.slice Ao25 t112.length co25)) (fun _ h_ => h_.1))) hb); have n1_ := Aside0.mk (hq1_); have n2_ := Aside0.mk (Kd.R_below (by (with_reducible repeat (first | apply Kd.R_alloc | apply Kd.R_drewN | apply Kd.R_drew)); exact (Kd.R_mono (Kd.R_far (p := ⟨gb115, 1, none⟩) (Kd.R_far (p := ⟨gb115, 0, none⟩) (Kd.R_types HO114.out BK115.out (by decide)) (fun _ hk => hk.2) (.int .i64 t111)) (fun _ hk => hk.2) (.slice Ao25 t112.length co25)) (fun _ h_ => h_.1))) hb); have n3_ := Aside0.mk (Kd.S_lower (Kd.S_new' (hq2_) (Kd.R_lt (by (with_reducible repeat (first | apply Kd.R_alloc | apply Kd.R_drewN | apply Kd.R_drew)); exact (Kd.R_mono (Kd.R_far (p := ⟨gb115, 1, none⟩) (Kd.R_far (p := ⟨gb115, 0, none⟩) (Kd.R_types HO114.out BK115.out (by decide)) (fun _ hk => hk.2) (.int .i64 t111)) (fun _ hk => hk.2) (.slice Ao25 t112.length co25)) (fun _ h_ => h_.1))))) (below_size (by repeat (first | (with_reducible first | exact HB.out | apply below_alloc | apply pw_below_drewN | apply below_drew1 | refine below_set ?_ GE101.out | refine below_set ?_ GE115.out) | exact HB.out)))); have n4_ := Aside0.mk (blk_below (g := gb101) (o := .cells #[.int .i64 a0_0, .slice A0_1 l0_1.length c0_1] 29 (0, 0)) (by (with_reducible repeat (first | refine blk_drewN ?_ _ | refine blk_drew ?_ | refine blk_alloc ?_ _)); refine blk_far ?_ NB101_115.out _; (with_reducible repeat (first | refine blk_drewN ?_ _ | refine blk_drew ?_ | refine blk_alloc ?_ _)); refine blk_far ?_ NB101_115.out _; (with_reducible repeat (first | refine blk_drewN ?_ _ | refine blk_drew ?_ | refine blk_alloc ?_ _)); exact BK101.out) hb); have n5_ := Aside0.mk (blk_below (g := gb115) (o := .cells #[.int .i64 t111, .slice Ao25 t112.length co25] 33 (0, 0)) (by (with_reducible repeat (first | refine blk_drewN ?_ _ | refine blk_drew ?_ | refine blk_alloc ?_ _)); refine blk_put (cs := #[.int .i64 t111, .slice none 0 0]) ?_ 1 _ rfl; (with_reducible repeat (first | refine blk_drewN ?_ _ | refine blk_drew ?_ | refine blk_alloc ?_ _)); refine blk_put (cs := #[.int .i64 0, .slice none 0 0]) ?_ 0 _ rfl; (with_reducible repeat (first | refine blk_drewN ?_ _ | refine blk_drew ?_ | refine blk_alloc ?_ _)); exact BK115.out) hb); have n6_ := Aside0.mk (below_step (by repeat (first | (with_reducible first | exact HB.out | apply below_alloc | apply pw_below_drewN | apply below_drew1 | refine below_set ?_ GE101.out | refine below_set ?_ GE115.out) | exact HB.out)) hb); clear HO106; clear HO109; clear HO114; clear BK101; clear BK115; clear HB; have HO106 := n0_; have HO109 := n1_; have HO114 := n2_; have HO118 := n3_; have BK101 := n4_; have BK115 := n5_; have HB := n6_; clear n0_ n1_ n2_ n3_ n4_ n5_ n6_; (try clear hb); (try clear hb2); (try clear hk); (try clear hi); (try clear ho0)))
  (try simp only [Act.put, List.setIfInBounds_toArray, List.set_cons_zero, List.set_cons_succ])
  go_cut [44] (fun v44 wc => ∃ (kq : Nat) (x44_11 : Bool), v44 = .bool x44_11 ∧ Aside0 (laws_FnExactMissedSingles.j0 kq a1 t107 t110 t116 t119 x44_11 a0_0 l0_1 t111 t112 = some r) ∧ Aside0 (kq ≤ k) ∧ Aside0 (Kd.S (Kd.slice 3 (Kd.int .i64)) 27 wc w.heap.size (fun k_ => k_ < N_ ∧ some k_ ≠ ((.slice Ao25 t112.length co25) : Value).ownBlock) v108 t107) ∧ Aside0 (Kd.S (Kd.slice 3 (Kd.int .i64)) 27 wc w.heap.size (fun k_ => N_ ≤ k_ ∧ some k_ ≠ ((.slice Ao25 t112.length co25) : Value).ownBlock) v117 t116) ∧ Aside0 (Kd.R (Kd.int .i64) 3 wc w.heap.size (fun _ => True) (.slice Ao25 t112.length co25) t112) ∧ Aside0 (wc.heap[gb101]? = some (.cells #[.int .i64 a0_0, (.slice A0_1 l0_1.length c0_1)] 29 (0, 0))) ∧ Aside0 (wc.heap[gb115]? = some (.cells #[.int .i64 t111, (.slice Ao25 t112.length co25)] 33 (0, 0))) ∧ Aside0 (Below w.heap.size w wc))
  case first =>
   have H := HC12.out
   clear HC12
   replace H := Option.bind_eq_some_iff.mp H
   obtain ⟨t120, A270, H⟩ := H
   replace H : (if t120 = true then (laws_FnExactMissedSingles.j0 k a1 t107 t110 t116 t119 (t119 != t110) a0_0 l0_1 t111 t112) else (laws_FnExactMissedSingles.j0 k a1 t107 t110 t116 t119 true a0_0 l0_1 t111 t112)) = some r := H
   have A27 := Aside0.mk A270
   clear A270
   by_cases c28 : t120 = true
   ·
    subst c28
    have H1 : (laws_FnExactMissedSingles.j0 k a1 t107 t110 t116 t119 (t119 != t110) a0_0 l0_1 t111 t112) = some r := by rw [if_pos rfl] at H; exact H
    clear H
    have H := H1
    clear H1
    have H' := Aside0.mk H
    clear H
    obtain ⟨Ao29, co29, eo29⟩ := Kd.S_slice HO118.out
    subst eo29
    obtain ⟨Ao30, co30, eo30⟩ := Kd.S_slice HO109.out
    subst eo30
    go_wp2_with (first | ((with_reducible refine gate_callee (f := 10) rfl ?_); refine goesL_ (some 38) rfl rfl Try.func10 (by kernel_rfl) rfl #[.slice Ao29 t116.length co29, .slice Ao30 t107.length co30] rfl (by (try simp only [List.map_toArray, List.map_cons, List.map_nil]); first | done | rfl | (simp only [List.length_drop, List.length_take]; rfl)) ?_; (with_reducible refine (laws_eqIntSS.calls k _ _ t116 _ _ t107 true _ ?side1 ?side2 ?side3 ?side4 A27.out).mono ?_); (case side1 => repeat (first | exact (Kd.S_reads' HO118.out).2.2 | (with_reducible refine Kd.C_alloc ?_ _) | (with_reducible refine Kd.C_drewN ?_ _) | (with_reducible refine Kd.C_drew ?_))); (case side2 => exact (Kd.S_reads' HO118.out).2.1); (case side3 => repeat (first | exact (Kd.S_reads' HO109.out).2.2 | (with_reducible refine Kd.C_alloc ?_ _) | (with_reducible refine Kd.C_drewN ?_ _) | (with_reducible refine Kd.C_drew ?_))); (case side4 => exact (Kd.S_reads' HO109.out).2.1); rintro e w' ⟨rfl, ⟨nd, rfl⟩⟩; refine ⟨_, rfl, ?_⟩))
    go_meet
    case rel => exact ⟨_, ((t119 != t110)), (by first | rfl | (simp; done) | (simp [*]; done)), H', ⟨by first | omega | exact Nat.le_refl _⟩, ⟨by (with_reducible repeat (first | apply Kd.S_alloc | apply Kd.S_drewN | apply Kd.S_drew)); exact Kd.S_mono HO109.out (fun _ hk => ⟨hk.2, hk.1.2⟩)⟩, ⟨by (with_reducible repeat (first | apply Kd.S_alloc | apply Kd.S_drewN | apply Kd.S_drew)); exact Kd.S_mono HO118.out (fun _ hk => ⟨hk.1.2, hk.2⟩)⟩, ⟨by (with_reducible repeat (first | apply Kd.R_alloc | apply Kd.R_drewN | apply Kd.R_drew)); exact Kd.R_mono HO114.out (fun _ hk => trivial)⟩, ⟨by (with_reducible repeat (first | refine blk_drewN ?_ _ | refine blk_drew ?_ | refine blk_alloc ?_ _)); exact BK101.out⟩, ⟨by (with_reducible repeat (first | refine blk_drewN ?_ _ | refine blk_drew ?_ | refine blk_alloc ?_ _)); exact BK115.out⟩, ⟨by repeat (first | (with_reducible first | exact HB.out | apply below_alloc | apply pw_below_drewN | apply below_drew1 | refine below_set ?_ GE101.out | refine below_set ?_ GE115.out) | exact HB.out)⟩⟩
   ·
    replace c28 := Bool.eq_false_iff.mpr c28
    subst c28
    have H1 : (laws_FnExactMissedSingles.j0 k a1 t107 t110 t116 t119 true a0_0 l0_1 t111 t112) = some r := by rw [if_neg (show ¬ (false = true) by decide)] at H; exact H
    clear H
    have H := H1
    clear H1
    have H' := Aside0.mk H
    clear H
    obtain ⟨Ao31, co31, eo31⟩ := Kd.S_slice HO118.out
    subst eo31
    obtain ⟨Ao32, co32, eo32⟩ := Kd.S_slice HO109.out
    subst eo32
    go_wp2_with (first | ((with_reducible refine gate_callee (f := 10) rfl ?_); refine goesL_ (some 38) rfl rfl Try.func10 (by kernel_rfl) rfl #[.slice Ao31 t116.length co31, .slice Ao32 t107.length co32] rfl (by (try simp only [List.map_toArray, List.map_cons, List.map_nil]); first | done | rfl | (simp only [List.length_drop, List.length_take]; rfl)) ?_; (with_reducible refine (laws_eqIntSS.calls k _ _ t116 _ _ t107 false _ ?side1 ?side2 ?side3 ?side4 A27.out).mono ?_); (case side1 => repeat (first | exact (Kd.S_reads' HO118.out).2.2 | (with_reducible refine Kd.C_alloc ?_ _) | (with_reducible refine Kd.C_drewN ?_ _) | (with_reducible refine Kd.C_drew ?_))); (case side2 => exact (Kd.S_reads' HO118.out).2.1); (case side3 => repeat (first | exact (Kd.S_reads' HO109.out).2.2 | (with_reducible refine Kd.C_alloc ?_ _) | (with_reducible refine Kd.C_drewN ?_ _) | (with_reducible refine Kd.C_drew ?_))); (case side4 => exact (Kd.S_reads' HO109.out).2.1); rintro e w' ⟨rfl, ⟨nd, rfl⟩⟩; refine ⟨_, rfl, ?_⟩))
    go_meet
    case rel => exact ⟨_, (true), (by first | rfl | (simp; done) | (simp [*]; done)), H', ⟨by first | omega | exact Nat.le_refl _⟩, ⟨by (with_reducible repeat (first | apply Kd.S_alloc | apply Kd.S_drewN | apply Kd.S_drew)); exact Kd.S_mono HO109.out (fun _ hk => ⟨hk.2, hk.1.2⟩)⟩, ⟨by (with_reducible repeat (first | apply Kd.S_alloc | apply Kd.S_drewN | apply Kd.S_drew)); exact Kd.S_mono HO118.out (fun _ hk => ⟨hk.1.2, hk.2⟩)⟩, ⟨by (with_reducible repeat (first | apply Kd.R_alloc | apply Kd.R_drewN | apply Kd.R_drew)); exact Kd.R_mono HO114.out (fun _ hk => trivial)⟩, ⟨by (with_reducible repeat (first | refine blk_drewN ?_ _ | refine blk_drew ?_ | refine blk_alloc ?_ _)); exact BK101.out⟩, ⟨by (with_reducible repeat (first | refine blk_drewN ?_ _ | refine blk_drew ?_ | refine blk_alloc ?_ _)); exact BK115.out⟩, ⟨by repeat (first | (with_reducible first | exact HB.out | apply below_alloc | apply pw_below_drewN | apply below_drew1 | refine below_set ?_ GE101.out | refine below_set ?_ GE115.out) | exact HB.out)⟩⟩
  case rest =>
   clear HC12
   try clear c1
   try clear c2
   try clear p2
   try clear c4
   try clear c4b0
   try clear c7
   try clear c10
   try clear c13
   try clear c15
   try clear c22
   try clear c23
   try clear c28
   try clear hcz14_0
   try clear hcz14_1
   try clear hcz16_0
   try clear hcz16_1
   try clear hcz20_0
   try clear hcz20_1
   try clear hcz24_0
   try clear hcz24_1
   try clear hcz6_0
   try clear hcz6_1
   try clear hfz14_0
   try clear hfz14_1
   try clear hfz16_0
   try clear hfz16_1
   try clear hfz20_0
   try clear hfz20_1
   try clear hfz24_0
   try clear hfz24_1
   try clear hfz6_0
   try clear hfz6_1
   obtain ⟨kq, x44_11, rfl, HA, HJ11, HO_6, HO_9, HO_116001, BK101, BK115, HB⟩ := hcut
   cases kq with
   | zero => exact absurd HA.out (by simp [laws_FnExactMissedSingles.j0])
   | succ kj11 =>
    have H := HA.out
    clear HA
    simp only [laws_FnExactMissedSingles.j0] at H
    by_cases c33 : x44_11 = true
    ·
     subst c33
     have H1 : (some false) = some r := by rw [if_pos rfl] at H; exact H
     clear H
     have H := H1
     clear H1
     obtain rfl := Option.some.inj H
     go_wp2
     go_ret
     exact ⟨by first | rfl | (simp [errW_none, errW_some] <;> rfl) | (simp [*, errW_none, errW_some] <;> rfl), by repeat (first | (with_reducible first | exact HB.out | apply below_alloc | apply pw_below_drewN | apply below_drew1 | refine below_set ?_ GE101.out | refine below_set ?_ GE115.out) | exact HB.out)⟩
    ·
     replace c33 := Bool.eq_false_iff.mpr c33
     subst c33
     have H1 : ((laws_toScheme.f kj11 a0_0 l0_1).bind fun bt121 => ((laws_eqScheme.f kj11 t111 t112 bt121.1 bt121.2).bind fun t125 => (if t125 = true then ((laws_markScheme.f kj11 t111 t112 1).bind fun bt126 => (if bt126.1 < 0 then (laws_FnExactMissedSingles.j1 kj11 a1 t107 t110 t116 true a0_0 l0_1) else ((laws_eqIntSS.f kj11 t116 t107).bind fun t128 => (if t128 = true then (laws_FnExactMissedSingles.j1 kj11 a1 t107 t110 t116 (t119 != t110) a0_0 l0_1) else (laws_FnExactMissedSingles.j1 kj11 a1 t107 t110 t116 true a0_0 l0_1))))) else (some false)))) = some r := by rw [if_neg (show ¬ (false = true) by decide)] at H; exact H
     clear H
     have H := H1
     clear H1
     replace H := Option.bind_eq_some_iff.mp H
     obtain ⟨⟨t121, t122⟩, A340, H⟩ := H
     replace H : ((laws_eqScheme.f kj11 t111 t112 t121 t122).bind fun t125 => (if t125 = true then ((laws_markScheme.f kj11 t111 t112 1).bind fun bt126 => (if bt126.1 < 0 then (laws_FnExactMissedSingles.j1 kj11 a1 t107 t110 t116 true a0_0 l0_1) else ((laws_eqIntSS.f kj11 t116 t107).bind fun t128 => (if t128 = true then (laws_FnExactMissedSingles.j1 kj11 a1 t107 t110 t116 (t119 != t110) a0_0 l0_1) else (laws_FnExactMissedSingles.j1 kj11 a1 t107 t110 t116 true a0_0 l0_1))))) else (some false))) = some r := H
     have A34 := Aside0.mk A340
     clear A340
     replace H := Option.bind_eq_some_iff.mp H
     obtain ⟨t125, A350, H⟩ := H
     replace H : (if t125 = true then ((laws_markScheme.f kj11 t111 t112 1).bind fun bt126 => (if bt126.1 < 0 then (laws_FnExactMissedSingles.j1 kj11 a1 t107 t110 t116 true a0_0 l0_1) else ((laws_eqIntSS.f kj11 t116 t107).bind fun t128 => (if t128 = true then (laws_FnExactMissedSingles.j1 kj11 a1 t107 t110 t116 (t119 != t110) a0_0 l0_1) else (laws_FnExactMissedSingles.j1 kj11 a1 t107 t110 t116 true a0_0 l0_1))))) else (some false)) = some r := H
     have A35 := Aside0.mk A350
     clear A350
     by_cases c36 : t125 = true
     ·
      subst c36
      have H1 : ((laws_markScheme.f kj11 t111 t112 1).bind fun bt126 => (if bt126.1 < 0 then (laws_FnExactMissedSingles.j1 kj11 a1 t107 t110 t116 true a0_0 l0_1) else ((laws_eqIntSS.f kj11 t116 t107).bind fun t128 => (if t128 = true then (laws_FnExactMissedSingles.j1 kj11 a1 t107 t110 t116 (t119 != t110) a0_0 l0_1) else (laws_FnExactMissedSingles.j1 kj11 a1 t107 t110 t116 true a0_0 l0_1))))) = some r := by rw [if_pos rfl] at H; exact H
      clear H
      have H := H1
      clear H1
      replace H := Option.bind_eq_some_iff.mp H
      obtain ⟨⟨t126, t127⟩, A370, H⟩ := H
      replace H : (if t126 < 0 then (laws_FnExactMissedSingles.j1 kj11 a1 t107 t110 t116 true a0_0 l0_1) else ((laws_eqIntSS.f kj11 t116 t107).bind fun t128 => (if t128 = true then (laws_FnExactMissedSingles.j1 kj11 a1 t107 t110 t116 (t119 != t110) a0_0 l0_1) else (laws_FnExactMissedSingles.j1 kj11 a1 t107 t110 t116 true a0_0 l0_1)))) = some r := H
      have A37 := Aside0.mk A370
      clear A370
      have HC38 := Aside0.mk H
      clear H
      try go_wp2
      have n0_ := Aside0.mk (Kd.S_drew HO_6.out)
      have n1_ := Aside0.mk (Kd.S_drew HO_9.out)
      have n2_ := Aside0.mk (Kd.R_drew HO_116001.out)
      have n3_ := Aside0.mk (blk_drew BK101.out)
      have n4_ := Aside0.mk (blk_drew BK115.out)
      have n5_ := Aside0.mk (below_drew1 HB.out)
      clear HO_6
      clear HO_9
      clear HO_116001
      clear BK101
      clear BK115
      clear HB
      have HO_6 := n0_
      have HO_9 := n1_
      have HO_116001 := n2_
      have BK101 := n3_
      have BK115 := n4_
      have HB := n5_
      clear n0_ n1_ n2_ n3_ n4_ n5_
      refine start_ (n := 5) (S := fun w' => w'.cell? ⟨gb115, 0, none⟩ = some (.int .i64 t111) ∧ w'.cell? ⟨gb115, 1, none⟩ = some (.slice Ao25 t112.length co25) ∧ w'.cell? ⟨gb101, 0, none⟩ = some (.int .i64 a0_0) ∧ w'.cell? ⟨gb101, 1, none⟩ = some (.slice A0_1 l0_1.length c0_1)) (ds := []) #[false, false, false, false, false] (by kernel_rfl) rfl rfl ⟨(blk_cell BK115.out 0).trans rfl, (blk_cell BK115.out 1).trans rfl, (blk_cell BK101.out 0).trans rfl, (blk_cell BK101.out 1).trans rfl⟩ (fun hHeld => ?_)
      generalize wc.drew = w39 at HO_6 HO_9 HO_116001 BK101 BK115 HB hHeld ⊢
      refine take_ (i := 0) (N := some 45) (v := ?_) (a' := ?_) #[true, false, false, false, false] rfl rfl (by kernel_rfl) (fun _ _ _ h => h) (Or.inl ⟨by rfl, ?_⟩) hHeld ?_ ?_
      rotate_left
      ·
       rintro w' ⟨s0, s1, s2, s3⟩
       go_simp
       with_reducible rfl
      rotate_left
      ·
       simp only [Act.put, List.setIfInBounds_toArray, List.set_cons_zero, List.set_cons_succ, i64_w, i32_w]
       rfl
      refine take_ (i := 1) (N := some 46) (v := ?_) (a' := ?_) #[true, true, false, false, false] rfl rfl (by kernel_rfl) (fun _ _ _ h => h) (Or.inl ⟨by rfl, ?_⟩) hHeld ?_ ?_
      rotate_left
      ·
       rintro w' ⟨s0, s1, s2, s3⟩
       go_simp
       with_reducible rfl
      rotate_left
      ·
       simp only [Act.put, List.setIfInBounds_toArray, List.set_cons_zero, List.set_cons_succ, i64_w, i32_w]
       rfl
      refine one_ (i := 2) (N := some 47) #[true, true, true, false, false] rfl rfl (by kernel_rfl) (by decide) (fun K hK => ?_)
      refine goes_ Try.func15 (by kernel_rfl) rfl #[.agg #[.int .i64 a0_0, .slice A0_1 l0_1.length c0_1]] (by rfl) rfl rfl (by (try simp only [List.map_toArray, List.map_cons, List.map_nil]); first | done | rfl | (simp only [List.length_drop, List.length_take]; rfl)) ?_
      with_reducible refine (laws_toScheme.calls kj11 a0_0 _ _ l0_1 t121 t122 _ ?side1 ?side2 A34.out).mono ?_
      (case side1 => repeat (first | exact (Kd.C_below HR0_1.out HB.out) | (with_reducible refine Kd.C_alloc ?_ _) | (with_reducible refine Kd.C_drewN ?_ _) | (with_reducible refine Kd.C_drew ?_)))
      (case side2 => exact HC0_1.out)
      rintro e w40 ⟨v123, rfl, ho0, hb⟩
      refine ⟨_, rfl, ?_⟩
      have n0_ := Aside0.mk (Kd.S_elder' (by (with_reducible repeat (first | apply Kd.S_alloc | apply Kd.S_drewN | apply Kd.S_drew)); exact HO_6.out) (Kd.R_base ho0) hb)
      have n1_ := Aside0.mk (Kd.S_elder' (by (with_reducible repeat (first | apply Kd.S_alloc | apply Kd.S_drewN | apply Kd.S_drew)); exact HO_9.out) (Kd.R_base ho0) hb)
      have n2_ := Aside0.mk (Kd.R_elder' (by (with_reducible repeat (first | apply Kd.R_alloc | apply Kd.R_drewN | apply Kd.R_drew)); exact HO_116001.out) (Kd.R_base ho0) hb)
      have n3_ := Aside0.mk (Kd.R_lower (Kd.R_new' ho0 (Kd.R_lt (by (with_reducible repeat (first | apply Kd.R_alloc | apply Kd.R_drewN | apply Kd.R_drew)); exact HO_116001.out))) (below_size (by repeat (first | (with_reducible first | exact HB.out | apply below_alloc | apply pw_below_drewN | apply below_drew1 | refine below_set ?_ GE101.out | refine below_set ?_ GE115.out) | exact HB.out))))
      have n4_ := Aside0.mk (blk_below (g := gb101) (o := .cells #[.int .i64 a0_0, .slice A0_1 l0_1.length c0_1] 29 (0, 0)) (by (with_reducible repeat (first | refine blk_drewN ?_ _ | refine blk_drew ?_ | refine blk_alloc ?_ _)); exact BK101.out) hb)
      have n5_ := Aside0.mk (blk_below (g := gb115) (o := .cells #[.int .i64 t111, .slice Ao25 t112.length co25] 33 (0, 0)) (by (with_reducible repeat (first | refine blk_drewN ?_ _ | refine blk_drew ?_ | refine blk_alloc ?_ _)); exact BK115.out) hb)
      have n6_ := Aside0.mk (below_step (by repeat (first | (with_reducible first | exact HB.out | apply below_alloc | apply pw_below_drewN | apply below_drew1 | refine below_set ?_ GE101.out | refine below_set ?_ GE115.out) | exact HB.out)) hb)
      clear HO_6
      clear HO_9
      clear HO_116001
      clear BK101
      clear BK115
      clear HB
      have HO_6 := n0_
      have HO_9 := n1_
      have HO_116001 := n2_
      have HO124 := n3_
      have BK101 := n4_
      have BK115 := n5_
      have HB := n6_
      clear n0_ n1_ n2_ n3_ n4_ n5_ n6_
      (try clear hb)
      (try clear hb2)
      (try clear hk)
      (try clear hi)
      (try clear ho0)
      obtain ⟨Ao41, co41, eo41⟩ := Kd.R_slice HO124.out
      (first | subst eo41 | (injection eo41 with f1_ f2_ f3_; have f4_ := f1_.symm; have f5_ := f3_.symm; clear f1_ f2_ f3_; subst f4_; subst f5_))
      refine hK.out _ _ ⟨(blk_cell BK115.out 0).trans rfl, (blk_cell BK115.out 1).trans rfl, (blk_cell BK101.out 0).trans rfl, (blk_cell BK101.out 1).trans rfl⟩ (fun hHeld => ?_)
      clear hK K
      refine norm_ (a' := ?_) ?_ ?_
      rotate_left
      ·
       show Act.put _ (some 47) _ = _
       simp only [Act.put, List.setIfInBounds_toArray, List.set_cons_zero, List.set_cons_succ, i64_w, i32_w]
       rfl
      refine one_ (i := 3) (N := some 48) #[true, true, true, true, false] rfl rfl (by kernel_rfl) (by decide) (fun K hK => ?_)
      refine goes_ Try.func17 (by kernel_rfl) rfl #[.agg #[.int .i64 t111, .slice Ao25 t112.length co25], .agg #[.int .i64 t121, .slice Ao41 t122.length co41]] (by rfl) rfl rfl (by (try simp only [List.map_toArray, List.map_cons, List.map_nil]); first | done | rfl | (simp only [List.length_drop, List.length_take]; rfl)) ?_
      with_reducible refine (laws_eqScheme.calls kj11 t111 _ _ t112 t121 _ _ t122 true _ ?side1 ?side2 ?side3 ?side4 A35.out).mono ?_
      (case side1 => repeat (first | exact (Kd.R_reads' HO_116001.out).2.2 | (with_reducible refine Kd.C_alloc ?_ _) | (with_reducible refine Kd.C_drewN ?_ _) | (with_reducible refine Kd.C_drew ?_)))
      (case side2 => exact (Kd.R_reads' HO_116001.out).2.1)
      (case side3 => repeat (first | exact (Kd.R_reads' HO124.out).2.2 | (with_reducible refine Kd.C_alloc ?_ _) | (with_reducible refine Kd.C_drewN ?_ _) | (with_reducible refine Kd.C_drew ?_)))
      (case side4 => exact (Kd.R_reads' HO124.out).2.1)
      rintro e w42 ⟨rfl, hb⟩
      refine ⟨_, rfl, ?_⟩
      have n0_ := Aside0.mk (Kd.S_below (by (with_reducible repeat (first | apply Kd.S_alloc | apply Kd.S_drewN | apply Kd.S_drew)); exact HO_6.out) hb)
      have n1_ := Aside0.mk (Kd.S_below (by (with_reducible repeat (first | apply Kd.S_alloc | apply Kd.S_drewN | apply Kd.S_drew)); exact HO_9.out) hb)
      have n2_ := Aside0.mk (Kd.R_below (by (with_reducible repeat (first | apply Kd.R_alloc | apply Kd.R_drewN | apply Kd.R_drew)); exact HO_116001.out) hb)
      have n3_ := Aside0.mk (Kd.R_below (by (with_reducible repeat (first | apply Kd.R_alloc | apply Kd.R_drewN | apply Kd.R_drew)); exact HO124.out) hb)
      have n4_ := Aside0.mk (blk_below (g := gb101) (o := .cells #[.int .i64 a0_0, .slice A0_1 l0_1.length c0_1] 29 (0, 0)) (by (with_reducible repeat (first | refine blk_drewN ?_ _ | refine blk_drew ?_ | refine blk_alloc ?_ _)); exact BK101.out) hb)
      have n5_ := Aside0.mk (blk_below (g := gb115) (o := .cells #[.int .i64 t111, .slice Ao25 t112.length co25] 33 (0, 0)) (by (with_reducible repeat (first | refine blk_drewN ?_ _ | refine blk_drew ?_ | refine blk_alloc ?_ _)); exact BK115.out) hb)
      have n6_ := Aside0.mk (below_step (by repeat (first | (with_reducible first | exact HB.out | apply below_alloc | apply pw_below_drewN | apply below_drew1 | refine below_set ?_ GE101.out | refine below_set ?_ GE115.out) | exact HB.out)) hb)
      clear HO_6
      clear HO_9
      clear HO_116001
      clear HO124
      clear BK101
      clear BK115
      clear HB
      have HO_6 := n0_
      have HO_9 := n1_
      have HO_116001 := n2_
      have HO124 := n3_
      have BK101 := n4_
      have BK115 := n5_
      have HB := n6_
      clear n0_ n1_ n2_ n3_ n4_ n5_ n6_
      (try clear hb)
      (try clear hb2)
      (try clear hk)
      (try clear hi)
      refine hK.out _ _ ⟨(blk_cell BK115.out 0).trans rfl, (blk_cell BK115.out 1).trans rfl, (blk_cell BK101.out 0).trans rfl, (blk_cell BK101.out 1).trans rfl⟩ (fun hHeld => ?_)
      clear hK K
      refine norm_ (a' := ?_) ?_ ?_
      rotate_left
      ·
       show Act.put _ (some 48) _ = _
       simp only [Act.put, List.setIfInBounds_toArray, List.set_cons_zero, List.set_cons_succ, i64_w, i32_w]
       rfl
      refine pure_ (i := 4) (N := some 49) (v := ?_) (a' := ?_) #[true, true, true, true, true] rfl rfl (by kernel_rfl) (fun _ _ _ h => h) (Or.inl ⟨by rfl, ?_⟩) ?_ ?_
      rotate_left
      ·
       intro w'
       go_simp
       with_reducible rfl
      rotate_left
      ·
       simp only [Act.put, List.setIfInBounds_toArray, List.set_cons_zero, List.set_cons_succ, i64_w, i32_w]
       rfl
      refine done_ (by kernel_rfl) ?_
      have hnb43 := NB115_101.out
      have hnc43 := NB101_115.out
      have hcz44_0 : w42.cell? ⟨gb115, 0, none⟩ = some (.int .i64 t111) := (blk_cell BK115.out 0).trans rfl
      have hcz44_1 : w42.cell? ⟨gb115, 1, none⟩ = some (.slice Ao25 t112.length co25) := (blk_cell BK115.out 1).trans rfl
      have hfz44_0 := blk_frozen BK115.out 0
      have hfz44_1 := blk_frozen BK115.out 1
      go_upto_region 14 with (first | ((with_reducible refine gate_callee (f := 24) rfl ?_); refine goesL_ (some 52) rfl rfl Try.func24 (by kernel_rfl) rfl #[.agg #[.int .i64 t111, .slice Ao25 t112.length co25], .int .i64 1] rfl (by (try simp only [List.map_toArray, List.map_cons, List.map_nil]); first | done | rfl | (simp only [List.length_drop, List.length_take]; rfl)) ?_; (with_reducible refine (laws_markScheme.calls kj11 t111 (fun k_ => some k_ = (.slice Ao25 t112.length co25 : Value).ownBlock) (.slice Ao25 t112.length co25) t112 1 t126 t127 w _ ?side1 ?side2 A37.out).mono ?_); (case side1 => repeat (first | (with_reducible first | exact HB.out | apply below_alloc | apply pw_below_drewN | apply below_drew1 | refine below_set ?_ GE101.out | refine below_set ?_ GE115.out) | exact HB.out)); (case side2 => exact Kd.R_tight rfl HO_116001.out); rintro e w45 ⟨rfl, hy0, hb, hkp⟩; refine ⟨_, rfl, ?_⟩; have n0_ := Aside0.mk (Kd.S_mono (ok' := fun k_ => k_ < N_ ∧ some k_ ≠ (.slice Ao25 t112.length co25 : Value).ownBlock ∧ some k_ ≠ (.slice Ao41 t122.length co41 : Value).ownBlock) (Kd.S_keptB (HO_6.out) hkp (fun k_ hk_ hs_ => (hk_.1.2) hs_)) (fun k_ hk_ => ⟨hk_.1.1.1, hk_.1.1.2, hk_.1.2⟩)); have n1_ := Aside0.mk (Kd.S_mono (ok' := fun k_ => N_ ≤ k_ ∧ some k_ ≠ (.slice Ao25 t112.length co25 : Value).ownBlock ∧ some k_ ≠ (.slice Ao41 t122.length co41 : Value).ownBlock) (Kd.S_keptB (HO_9.out) hkp (fun k_ hk_ hs_ => (hk_.1.2) hs_)) (fun k_ hk_ => ⟨hk_.1.1.1, hk_.1.1.2, hk_.1.2⟩)); have n2_ := Aside0.mk (Kd.R_reok rfl hy0 (fun k_ e_ => HO_116001.out.1 k_ e_)); have n3_ := Aside0.mk (blk_kept (by (with_reducible repeat (first | refine blk_drewN ?_ _ | refine blk_drew ?_ | refine blk_alloc ?_ _)); exact BK101.out) hkp (fun hs_ => (fun e_ => (Kd.R_ne HO_116001.out BK101.out (by decide)) e_) hs_)); have n4_ := Aside0.mk (blk_kept (by (with_reducible repeat (first | refine blk_drewN ?_ _ | refine blk_drew ?_ | refine blk_alloc ?_ _)); exact BK115.out) hkp (fun hs_ => (fun e_ => (Kd.R_ne HO_116001.out BK115.out (by decide)) e_) hs_)); have n5_ := Aside0.mk (Kd.R_mono (ok' := fun k_ => some k_ ≠ (.slice Ao25 t112.length co25 : Value).ownBlock) (Kd.R_keptB (HO124.out) hkp (fun k_ hk_ hs_ => (hk_.2) hs_)) (fun k_ hk_ => hk_.1.2)); have n6_ := Aside0.mk (hb); clear HO_6; clear HO_9; clear HO_116001; clear BK101; clear BK115; clear HO124; clear HB; have HO_6 := n0_; have HO_9 := n1_; have HO_116001 := n2_; have BK101 := n3_; have BK115 := n4_; have HO124 := n5_; have HB := n6_; clear n0_ n1_ n2_ n3_ n4_ n5_ n6_; (try clear hb); (try clear hkp); (try clear hy0)))
      (try simp only [Act.put, List.setIfInBounds_toArray, List.set_cons_zero, List.set_cons_succ])
      go_cut [65] (fun v65 wc => ∃ (kq : Nat) (x65_37 : Bool), v65 = .bool x65_37 ∧ Aside0 (laws_FnExactMissedSingles.j1 kq a1 t107 t110 t116 x65_37 a0_0 l0_1 = some r) ∧ Aside0 (kq ≤ kj11) ∧ Aside0 (Kd.S (Kd.slice 3 (Kd.int .i64)) 27 wc w.heap.size (fun k_ => k_ < N_ ∧ some k_ ≠ ((.slice Ao25 t112.length co25) : Value).ownBlock) v108 t107) ∧ Aside0 (Kd.S (Kd.slice 3 (Kd.int .i64)) 27 wc w.heap.size (fun k_ => N_ ≤ k_ ∧ some k_ ≠ ((.slice Ao25 t112.length co25) : Value).ownBlock) v117 t116) ∧ Aside0 (Kd.R (Kd.int .i64) 3 wc w.heap.size (fun _ => True) (.slice Ao25 t112.length co25) t127) ∧ Aside0 (wc.heap[gb101]? = some (.cells #[.int .i64 a0_0, (.slice A0_1 l0_1.length c0_1)] 29 (0, 0))) ∧ Aside0 (wc.heap[gb115]? = some (.cells #[.int .i64 t111, (.slice Ao25 t112.length co25)] 33 (0, 0))) ∧ Aside0 (Below w.heap.size w wc))
      case first =>
       have H := HC38.out
       clear HC38
       by_cases c46 : t126 < 0
       ·
        rw [if_pos c46] at H
        have c46b0 : decide (t126 < 0) = true := decide_eq_true c46
        clear c46
        (first | rw [c46b0] | (simp only [i64_w, i32_w]; rw [c46b0]) | skip)
        have H' := Aside0.mk H
        clear H
        go_wp2
        go_meet
        case rel => exact ⟨_, (true), (by first | rfl | (simp; done) | (simp [*]; done)), H', ⟨by have := HJ11.out; first | omega | exact Nat.le_refl _⟩, ⟨by (with_reducible repeat (first | apply Kd.S_alloc | apply Kd.S_drewN | apply Kd.S_drew)); exact Kd.S_mono HO_6.out (fun _ hk => ⟨hk.1, hk.2.1⟩)⟩, ⟨by (with_reducible repeat (first | apply Kd.S_alloc | apply Kd.S_drewN | apply Kd.S_drew)); exact Kd.S_mono HO_9.out (fun _ hk => ⟨hk.1, hk.2.1⟩)⟩, ⟨by (with_reducible repeat (first | apply Kd.R_alloc | apply Kd.R_drewN | apply Kd.R_drew)); exact Kd.R_mono HO_116001.out (fun _ hk => trivial)⟩, ⟨by (with_reducible repeat (first | refine blk_drewN ?_ _ | refine blk_drew ?_ | refine blk_alloc ?_ _)); exact BK101.out⟩, ⟨by (with_reducible repeat (first | refine blk_drewN ?_ _ | refine blk_drew ?_ | refine blk_alloc ?_ _)); exact BK115.out⟩, ⟨by repeat (first | (with_reducible first | exact HB.out | apply below_alloc | apply pw_below_drewN | apply below_drew1 | refine below_set ?_ GE101.out | refine below_set ?_ GE115.out) | exact HB.out)⟩⟩
       ·
        rw [if_neg c46] at H
        have c46b0 : decide (t126 < 0) = false := decide_eq_false c46
        clear c46
        (first | rw [c46b0] | (simp only [i64_w, i32_w]; rw [c46b0]) | skip)
        replace H := Option.bind_eq_some_iff.mp H
        obtain ⟨t128, A470, H⟩ := H
        replace H : (if t128 = true then (laws_FnExactMissedSingles.j1 kj11 a1 t107 t110 t116 (t119 != t110) a0_0 l0_1) else (laws_FnExactMissedSingles.j1 kj11 a1 t107 t110 t116 true a0_0 l0_1)) = some r := H
        have A47 := Aside0.mk A470
        clear A470
        by_cases c48 : t128 = true
        ·
         subst c48
         have H1 : (laws_FnExactMissedSingles.j1 kj11 a1 t107 t110 t116 (t119 != t110) a0_0 l0_1) = some r := by rw [if_pos rfl] at H; exact H
         clear H
         have H := H1
         clear H1
         have H' := Aside0.mk H
         clear H
         obtain ⟨Ao49, co49, eo49⟩ := Kd.S_slice HO_9.out
         subst eo49
         obtain ⟨Ao50, co50, eo50⟩ := Kd.S_slice HO_6.out
         subst eo50
         go_wp2_with (first | (go_at_call 10; (with_reducible refine (laws_eqIntSS.calls kj11 _ _ t116 _ _ t107 true _ ?side1 ?side2 ?side3 ?side4 A47.out).mono ?_); (case side1 => repeat (first | exact (Kd.S_reads' HO_9.out).2.2 | (with_reducible refine Kd.C_alloc ?_ _) | (with_reducible refine Kd.C_drewN ?_ _) | (with_reducible refine Kd.C_drew ?_))); (case side2 => exact (Kd.S_reads' HO_9.out).2.1); (case side3 => repeat (first | exact (Kd.S_reads' HO_6.out).2.2 | (with_reducible refine Kd.C_alloc ?_ _) | (with_reducible refine Kd.C_drewN ?_ _) | (with_reducible refine Kd.C_drew ?_))); (case side4 => exact (Kd.S_reads' HO_6.out).2.1); rintro e w' ⟨rfl, ⟨nd, rfl⟩⟩))
         go_meet
         case rel => exact ⟨_, ((t119 != t110)), (by first | rfl | (simp; done) | (simp [*]; done)), H', ⟨by have := HJ11.out; first | omega | exact Nat.le_refl _⟩, ⟨by (with_reducible repeat (first | apply Kd.S_alloc | apply Kd.S_drewN | apply Kd.S_drew)); exact Kd.S_mono HO_6.out (fun _ hk => ⟨hk.1, hk.2.1⟩)⟩, ⟨by (with_reducible repeat (first | apply Kd.S_alloc | apply Kd.S_drewN | apply Kd.S_drew)); exact Kd.S_mono HO_9.out (fun _ hk => ⟨hk.1, hk.2.1⟩)⟩, ⟨by (with_reducible repeat (first | apply Kd.R_alloc | apply Kd.R_drewN | apply Kd.R_drew)); exact Kd.R_mono HO_116001.out (fun _ hk => trivial)⟩, ⟨by (with_reducible repeat (first | refine blk_drewN ?_ _ | refine blk_drew ?_ | refine blk_alloc ?_ _)); exact BK101.out⟩, ⟨by (with_reducible repeat (first | refine blk_drewN ?_ _ | refine blk_drew ?_ | refine blk_alloc ?_ _)); exact BK115.out⟩, ⟨by repeat (first | (with_reducible first | exact HB.out | apply below_alloc | apply pw_below_drewN | apply below_drew1 | refine below_set ?_ GE101.out | refine below_set ?_ GE115.out) | exact HB.out)⟩⟩
        ·
         replace c48 := Bool.eq_false_iff.mpr c48
         subst c48
         have H1 : (laws_FnExactMissedSingles.j1 kj11 a1 t107 t110 t116 true a0_0 l0_1) = some r := by rw [if_neg (show ¬ (false = true) by decide)] at H; exact H
         clear H
         have H := H1
         clear H1
         have H' := Aside0.mk H
         clear H
         obtain ⟨Ao51, co51, eo51⟩ := Kd.S_slice HO_9.out
         subst eo51
         obtain ⟨Ao52, co52, eo52⟩ := Kd.S_slice HO_6.out
         subst eo52
         go_wp2_with (first | (go_at_call 10; (with_reducible refine (laws_eqIntSS.calls kj11 _ _ t116 _ _ t107 false _ ?side1 ?side2 ?side3 ?side4 A47.out).mono ?_); (case side1 => repeat (first | exact (Kd.S_reads' HO_9.out).2.2 | (with_reducible refine Kd.C_alloc ?_ _) | (with_reducible refine Kd.C_drewN ?_ _) | (with_reducible refine Kd.C_drew ?_))); (case side2 => exact (Kd.S_reads' HO_9.out).2.1); (case side3 => repeat (first | exact (Kd.S_reads' HO_6.out).2.2 | (with_reducible refine Kd.C_alloc ?_ _) | (with_reducible refine Kd.C_drewN ?_ _) | (with_reducible refine Kd.C_drew ?_))); (case side4 => exact (Kd.S_reads' HO_6.out).2.1); rintro e w' ⟨rfl, ⟨nd, rfl⟩⟩))
         go_meet
         case rel => exact ⟨_, (true), (by first | rfl | (simp; done) | (simp [*]; done)), H', ⟨by have := HJ11.out; first | omega | exact Nat.le_refl _⟩, ⟨by (with_reducible repeat (first | apply Kd.S_alloc | apply Kd.S_drewN | apply Kd.S_drew)); exact Kd.S_mono HO_6.out (fun _ hk => ⟨hk.1, hk.2.1⟩)⟩, ⟨by (with_reducible repeat (first | apply Kd.S_alloc | apply Kd.S_drewN | apply Kd.S_drew)); exact Kd.S_mono HO_9.out (fun _ hk => ⟨hk.1, hk.2.1⟩)⟩, ⟨by (with_reducible repeat (first | apply Kd.R_alloc | apply Kd.R_drewN | apply Kd.R_drew)); exact Kd.R_mono HO_116001.out (fun _ hk => trivial)⟩, ⟨by (with_reducible repeat (first | refine blk_drewN ?_ _ | refine blk_drew ?_ | refine blk_alloc ?_ _)); exact BK101.out⟩, ⟨by (with_reducible repeat (first | refine blk_drewN ?_ _ | refine blk_drew ?_ | refine blk_alloc ?_ _)); exact BK115.out⟩, ⟨by repeat (first | (with_reducible first | exact HB.out | apply below_alloc | apply pw_below_drewN | apply below_drew1 | refine below_set ?_ GE101.out | refine below_set ?_ GE115.out) | exact HB.out)⟩⟩
      case rest =>
       clear HC38
       try clear c1
       try clear c2
       try clear p2
       try clear c3
       try clear c4
       try clear c4b0
       try clear c7
       try clear c10
       try clear c13
       try clear c15
       try clear c17
       try clear c22
       try clear c23
       try clear c24
       try clear c28
       try clear c33
       try clear c36
       try clear c43
       try clear c46
       try clear c46b0
       try clear c48
       try clear hcz14_0
       try clear hcz14_1
       try clear hcz16_0
       try clear hcz16_1
       try clear hcz20_0
       try clear hcz20_1
       try clear hcz24_0
       try clear hcz24_1
       try clear hcz44_0
       try clear hcz44_1
       try clear hcz6_0
       try clear hcz6_1
       try clear hfz14_0
       try clear hfz14_1
       try clear hfz16_0
       try clear hfz16_1
       try clear hfz20_0
       try clear hfz20_1
       try clear hfz24_0
       try clear hfz24_1
       try clear hfz44_0
       try clear hfz44_1
       try clear hfz6_0
       try clear hfz6_1
       try clear p2
       obtain ⟨kq, x65_37, rfl, HA, HJ37, HO_6, HO_9, HO_116001, BK101, BK115, HB⟩ := hcut
       have hl116001_37 := (Kd.R_reads' HO_116001.out).1
       rw [hl116001_37] at HO_116001
       (try simp only [hl116001_37])
       (try simp only [hl116001_37] at BK101)
       (try simp only [hl116001_37] at BK115)
       (try simp only [hl116001_37] at HO_6)
       (try simp only [hl116001_37] at HO_9)
       cases kq with
       | zero => exact absurd HA.out (by simp [laws_FnExactMissedSingles.j1])
       | succ kj37 =>
        have H := HA.out
        clear HA
        simp only [laws_FnExactMissedSingles.j1] at H
        by_cases c53 : x65_37 = true
        ·
         subst c53
         have H1 : (some false) = some r := by rw [if_pos rfl] at H; exact H
         clear H
         have H := H1
         clear H1
         obtain rfl := Option.some.inj H
         go_wp2
         go_ret
         exact ⟨by first | rfl | (simp [errW_none, errW_some] <;> rfl) | (simp [*, errW_none, errW_some] <;> rfl), by repeat (first | (with_reducible first | exact HB.out | apply below_alloc | apply pw_below_drewN | apply below_drew1 | refine below_set ?_ GE101.out | refine below_set ?_ GE115.out) | exact HB.out)⟩
        ·
         replace c53 := Bool.eq_false_iff.mpr c53
         subst c53
         have H1 : ((laws_markIntSS.f kj37 t116 1).bind fun (t129, t116m) => ((laws_heldIntSS.f kj37 t116m 1).bind fun t130 => (if t130 < 0 then (some false) else (if t130 = t129 then ((laws_toScheme.f kj37 a0_0 l0_1).bind fun bt131 => ((impl_MissedSingles.f kj37 bt131.1 bt131.2 a1).bind fun bt135 => ((laws_eqIntSS.f kj37 bt135.1 t107).bind fun t139 => (if t139 = true then (laws_FnExactMissedSingles.j2 kj37 t116m t129 (bt135.2 != t110)) else (laws_FnExactMissedSingles.j2 kj37 t116m t129 true))))) else (some false))))) = some r := by rw [if_neg (show ¬ (false = true) by decide)] at H; exact H
         clear H
         have H := H1
         clear H1
         replace H := Option.bind_eq_some_iff.mp H
         obtain ⟨⟨t129, t116m⟩, A540, H⟩ := H
         replace H : ((laws_heldIntSS.f kj37 t116m 1).bind fun t130 => (if t130 < 0 then (some false) else (if t130 = t129 then ((laws_toScheme.f kj37 a0_0 l0_1).bind fun bt131 => ((impl_MissedSingles.f kj37 bt131.1 bt131.2 a1).bind fun bt135 => ((laws_eqIntSS.f kj37 bt135.1 t107).bind fun t139 => (if t139 = true then (laws_FnExactMissedSingles.j2 kj37 t116m t129 (bt135.2 != t110)) else (laws_FnExactMissedSingles.j2 kj37 t116m t129 true))))) else (some false)))) = some r := H
         have A54 := Aside0.mk A540
         clear A540
         replace H := Option.bind_eq_some_iff.mp H
         obtain ⟨t130, A550, H⟩ := H
         replace H : (if t130 < 0 then (some false) else (if t130 = t129 then ((laws_toScheme.f kj37 a0_0 l0_1).bind fun bt131 => ((impl_MissedSingles.f kj37 bt131.1 bt131.2 a1).bind fun bt135 => ((laws_eqIntSS.f kj37 bt135.1 t107).bind fun t139 => (if t139 = true then (laws_FnExactMissedSingles.j2 kj37 t116m t129 (bt135.2 != t110)) else (laws_FnExactMissedSingles.j2 kj37 t116m t129 true))))) else (some false))) = some r := H
         have A55 := Aside0.mk A550
         clear A550
         by_cases c56 : t130 < 0
         ·
          rw [if_pos c56] at H
          have c56b0 : decide (t130 < 0) = true := decide_eq_true c56
          clear c56
          obtain rfl := Option.some.inj H
          obtain ⟨Ao57, co57, eo57⟩ := Kd.S_slice HO_9.out
          subst eo57
          go_wp2_with (first | ((with_reducible refine gate_callee (f := 11) rfl ?_); refine goesL_ (some 68) rfl rfl Try.func11 (by kernel_rfl) rfl #[.slice Ao57 t116.length co57, .int .i64 1] rfl (by (try simp only [List.map_toArray, List.map_cons, List.map_nil]); first | done | rfl | (simp only [List.length_drop, List.length_take]; rfl)) ?_; (with_reducible refine (laws_markIntSS.calls kj37 (fun k_ => N_ ≤ k_ ∧ some k_ ≠ ((.slice Ao25 t127.length co25) : Value).ownBlock) (.slice Ao57 t116.length co57) t116 1 t129 t116m w _ ?side1 ?side2 A54.out).mono ?_); (case side1 => repeat (first | (with_reducible first | exact HB.out | apply below_alloc | apply pw_below_drewN | apply below_drew1) | exact HB.out)); (case side2 => ((with_reducible repeat (first | apply Kd.S_alloc | apply Kd.S_drewN | apply Kd.S_drew)); exact HO_9.out)); rintro e wmk_ ⟨rfl, hy0, hb, hkp⟩; refine ⟨_, rfl, ?_⟩; have n0_ := Aside0.mk (Kd.S_mono (Kd.S_keptB (by (with_reducible repeat (first | apply Kd.S_alloc | apply Kd.S_drewN | apply Kd.S_drew)); exact HO_6.out) hkp (by intro k_ hk_ hs_; exact absurd hs_.1 (Nat.not_le.mpr hk_.1))) (fun k_ hk_ => hk_.1)); have n1_ := Aside0.mk (Kd.S_mono (ok' := fun k_ => True ∧ some k_ ≠ ((.slice Ao25 t127.length co25) : Value).ownBlock) hy0 (fun k_ hk_ => ⟨trivial, hk_.elim (fun h_ => h_.2) (fun h_ e_ => absurd h_ (Nat.not_le.mpr (Kd.R_lt HO_116001.out k_ e_.symm)))⟩)); have n2_ := Aside0.mk hb; have hlm_ := (Kd.S_reads' n1_.out).1; rw [hlm_] at n1_; (try rw [hlm_]); have n3_ := Aside0.mk (Kd.R_mono (ok' := fun _ => True) (Kd.R_keptB (Kd.R_tight rfl (by (with_reducible repeat (first | apply Kd.R_alloc | apply Kd.R_drewN | apply Kd.R_drew)); exact HO_116001.out)) hkp (by intro k_ hk_ hs_; exact hs_.2 hk_)) (fun _ _ => trivial)); have n4_ := Aside0.mk (blk_kept (by (with_reducible repeat (first | refine blk_drewN ?_ _ | refine blk_drew ?_ | refine blk_alloc ?_ _)); exact BK101.out) hkp (by intro hs_; exact absurd hs_.1 (Nat.not_le.mpr HNBK101.out))); have n5_ := Aside0.mk (blk_kept (by (with_reducible repeat (first | refine blk_drewN ?_ _ | refine blk_drew ?_ | refine blk_alloc ?_ _)); exact BK115.out) hkp (by intro hs_; exact absurd hs_.1 (Nat.not_le.mpr HNBK115.out))); clear HO_6; clear HO_9; clear HB; clear HO_116001; clear BK101; clear BK115; have HO_6 := n0_; have HO_9 := n1_; have HB := n2_; have HO_116001 := n3_; have BK101 := n4_; have BK115 := n5_; clear n0_ n1_ n2_ n3_ n4_ n5_; clear hy0 hb hkp) | ((with_reducible refine gate_callee (f := 12) rfl ?_); refine goesL_ (some 71) rfl rfl Try.func12 (by kernel_rfl) rfl #[.slice Ao57 t116m.length co57, .int .i64 1] rfl (by (try simp only [List.map_toArray, List.map_cons, List.map_nil]); first | done | rfl | (simp only [List.length_drop, List.length_take]; rfl)) ?_; (with_reducible refine (laws_heldIntSS.calls kj37 _ _ t116m 1 t130 _ ?side1 ?side2 A55.out).mono ?_); (case side1 => repeat (first | exact (Kd.S_reads' HO_9.out).2.2 | (with_reducible refine Kd.C_alloc ?_ _) | (with_reducible refine Kd.C_drewN ?_ _) | (with_reducible refine Kd.C_drew ?_))); (case side2 => exact (Kd.S_reads' HO_9.out).2.1); rintro e w' ⟨rfl, ⟨nd, rfl⟩⟩; refine ⟨_, rfl, ?_⟩))
          go_ret
          exact ⟨by first | rfl | (simp [errW_none, errW_some] <;> rfl) | (simp [*, errW_none, errW_some] <;> rfl), by repeat (first | (with_reducible first | exact HB.out | apply below_alloc | apply pw_below_drewN | apply below_drew1 | refine below_set ?_ GE101.out | refine below_set ?_ GE115.out) | exact HB.out)⟩
         ·
          rw [if_neg c56] at H
          have c56b0 : decide (t130 < 0) = false := decide_eq_false c56
          clear c56
          by_cases c58 : t130 = t129
          ·
           rw [if_pos c58] at H
           have c58b0 : (t130 == t129) = true := beq_iff_eq.mpr c58
           have c58b1 : (t130 != t129) = false := bne_eq_false_iff_eq.mpr c58
           clear c58
           replace H := Option.bind_eq_some_iff.mp H
           obtain ⟨⟨t131, t132⟩, A590, H⟩ := H
           replace H : ((impl_MissedSingles.f kj37 t131 t132 a1).bind fun bt135 => ((laws_eqIntSS.f kj37 bt135.1 t107).bind fun t139 => (if t139 = true then (laws_FnExactMissedSingles.j2 kj37 t116m t129 (bt135.2 != t110)) else (laws_FnExactMissedSingles.j2 kj37 t116m t129 true)))) = some r := H
           have A59 := Aside0.mk A590
           clear A590
           replace H := Option.bind_eq_some_iff.mp H
           obtain ⟨⟨t135, t138⟩, A600, H⟩ := H
           replace H : ((laws_eqIntSS.f kj37 t135 t107).bind fun t139 => (if t139 = true then (laws_FnExactMissedSingles.j2 kj37 t116m t129 (t138 != t110)) else (laws_FnExactMissedSingles.j2 kj37 t116m t129 true))) = some r := H
           have A60 := Aside0.mk A600
           clear A600
           have HC61 := Aside0.mk H
           clear H
           obtain ⟨Ao62, co62, eo62⟩ := Kd.S_slice HO_9.out
           subst eo62
           go_upto_region 25 with (first | ((with_reducible refine gate_callee (f := 11) rfl ?_); refine goesL_ (some 68) rfl rfl Try.func11 (by kernel_rfl) rfl #[.slice Ao62 t116.length co62, .int .i64 1] rfl (by (try simp only [List.map_toArray, List.map_cons, List.map_nil]); first | done | rfl | (simp only [List.length_drop, List.length_take]; rfl)) ?_; (with_reducible refine (laws_markIntSS.calls kj37 (fun k_ => N_ ≤ k_ ∧ some k_ ≠ ((.slice Ao25 t127.length co25) : Value).ownBlock) (.slice Ao62 t116.length co62) t116 1 t129 t116m w _ ?side1 ?side2 A54.out).mono ?_); (case side1 => repeat (first | (with_reducible first | exact HB.out | apply below_alloc | apply pw_below_drewN | apply below_drew1) | exact HB.out)); (case side2 => ((with_reducible repeat (first | apply Kd.S_alloc | apply Kd.S_drewN | apply Kd.S_drew)); exact HO_9.out)); rintro e wmk_ ⟨rfl, hy0, hb, hkp⟩; refine ⟨_, rfl, ?_⟩; have n0_ := Aside0.mk (Kd.S_mono (Kd.S_keptB (by (with_reducible repeat (first | apply Kd.S_alloc | apply Kd.S_drewN | apply Kd.S_drew)); exact HO_6.out) hkp (by intro k_ hk_ hs_; exact absurd hs_.1 (Nat.not_le.mpr hk_.1))) (fun k_ hk_ => hk_.1)); have n1_ := Aside0.mk (Kd.S_mono (ok' := fun k_ => True ∧ some k_ ≠ ((.slice Ao25 t127.length co25) : Value).ownBlock) hy0 (fun k_ hk_ => ⟨trivial, hk_.elim (fun h_ => h_.2) (fun h_ e_ => absurd h_ (Nat.not_le.mpr (Kd.R_lt HO_116001.out k_ e_.symm)))⟩)); have n2_ := Aside0.mk hb; have hlm_ := (Kd.S_reads' n1_.out).1; rw [hlm_] at n1_; (try rw [hlm_]); have n3_ := Aside0.mk (Kd.R_mono (ok' := fun _ => True) (Kd.R_keptB (Kd.R_tight rfl (by (with_reducible repeat (first | apply Kd.R_alloc | apply Kd.R_drewN | apply Kd.R_drew)); exact HO_116001.out)) hkp (by intro k_ hk_ hs_; exact hs_.2 hk_)) (fun _ _ => trivial)); have n4_ := Aside0.mk (blk_kept (by (with_reducible repeat (first | refine blk_drewN ?_ _ | refine blk_drew ?_ | refine blk_alloc ?_ _)); exact BK101.out) hkp (by intro hs_; exact absurd hs_.1 (Nat.not_le.mpr HNBK101.out))); have n5_ := Aside0.mk (blk_kept (by (with_reducible repeat (first | refine blk_drewN ?_ _ | refine blk_drew ?_ | refine blk_alloc ?_ _)); exact BK115.out) hkp (by intro hs_; exact absurd hs_.1 (Nat.not_le.mpr HNBK115.out))); clear HO_6; clear HO_9; clear HB; clear HO_116001; clear BK101; clear BK115; have HO_6 := n0_; have HO_9 := n1_; have HB := n2_; have HO_116001 := n3_; have BK101 := n4_; have BK115 := n5_; clear n0_ n1_ n2_ n3_ n4_ n5_; clear hy0 hb hkp) | ((with_reducible refine gate_callee (f := 12) rfl ?_); refine goesL_ (some 71) rfl rfl Try.func12 (by kernel_rfl) rfl #[.slice Ao62 t116m.length co62, .int .i64 1] rfl (by (try simp only [List.map_toArray, List.map_cons, List.map_nil]); first | done | rfl | (simp only [List.length_drop, List.length_take]; rfl)) ?_; (with_reducible refine (laws_heldIntSS.calls kj37 _ _ t116m 1 t130 _ ?side1 ?side2 A55.out).mono ?_); (case side1 => repeat (first | exact (Kd.S_reads' HO_9.out).2.2 | (with_reducible refine Kd.C_alloc ?_ _) | (with_reducible refine Kd.C_drewN ?_ _) | (with_reducible refine Kd.C_drew ?_))); (case side2 => exact (Kd.S_reads' HO_9.out).2.1); rintro e w' ⟨rfl, ⟨nd, rfl⟩⟩; refine ⟨_, rfl, ?_⟩; have hnb63 := NB101_115.out; have hnc63 := NB115_101.out; have hcz64_0 : wmk_.cell? ⟨gb101, 0, none⟩ = some (.int .i64 a0_0) := (blk_cell BK101.out 0).trans rfl; have hcz64_1 : wmk_.cell? ⟨gb101, 1, none⟩ = some (.slice A0_1 l0_1.length c0_1) := (blk_cell BK101.out 1).trans rfl; have hfz64_0 := blk_frozen BK101.out 0; have hfz64_1 := blk_frozen BK101.out 1) | ((with_reducible refine gate_callee (f := 15) rfl ?_); refine goesL_ (some 79) rfl rfl Try.func15 (by kernel_rfl) rfl #[.agg #[.int .i64 a0_0, .slice A0_1 l0_1.length c0_1]] rfl (by (try simp only [List.map_toArray, List.map_cons, List.map_nil]); first | done | rfl | (simp only [List.length_drop, List.length_take]; rfl)) ?_; (with_reducible refine (laws_toScheme.calls kj37 a0_0 _ _ l0_1 t131 t132 _ ?side1 ?side2 A59.out).mono ?_); (case side1 => repeat (first | exact (Kd.C_below HR0_1.out (by repeat (first | (with_reducible first | exact HB.out | apply below_alloc | apply pw_below_drewN | apply below_drew1 | refine below_set ?_ GE101.out | refine below_set ?_ GE115.out) | exact HB.out))) | (with_reducible refine Kd.C_alloc ?_ _) | (with_reducible refine Kd.C_drewN ?_ _) | (with_reducible refine Kd.C_drew ?_))); (case side2 => exact HC0_1.out); rintro e w65 ⟨v133, rfl, ho0, hb⟩; refine ⟨_, rfl, ?_⟩; have n0_ := Aside0.mk (Kd.S_elder' (by (with_reducible repeat (first | apply Kd.S_alloc | apply Kd.S_drewN | apply Kd.S_drew)); exact HO_6.out) (Kd.R_base ho0) hb); have n1_ := Aside0.mk (Kd.S_elder' (by (with_reducible repeat (first | apply Kd.S_alloc | apply Kd.S_drewN | apply Kd.S_drew)); exact HO_9.out) (Kd.R_base ho0) hb); have n2_ := Aside0.mk (Kd.R_elder' (by (with_reducible repeat (first | apply Kd.R_alloc | apply Kd.R_drewN | apply Kd.R_drew)); exact HO_116001.out) (Kd.R_base ho0) hb); have n3_ := Aside0.mk (Kd.R_lower (Kd.R_new' ho0 (Kd.R_lt (by (with_reducible repeat (first | apply Kd.R_alloc | apply Kd.R_drewN | apply Kd.R_drew)); exact HO_116001.out))) (below_size (by repeat (first | (with_reducible first | exact HB.out | apply below_alloc | apply pw_below_drewN | apply below_drew1 | refine below_set ?_ GE101.out | refine below_set ?_ GE115.out) | exact HB.out)))); have n4_ := Aside0.mk (blk_below (g := gb101) (o := .cells #[.int .i64 a0_0, .slice A0_1 l0_1.length c0_1] 29 (0, 0)) (by (with_reducible repeat (first | refine blk_drewN ?_ _ | refine blk_drew ?_ | refine blk_alloc ?_ _)); exact BK101.out) hb); have n5_ := Aside0.mk (blk_below (g := gb115) (o := .cells #[.int .i64 t111, .slice Ao25 t127.length co25] 33 (0, 0)) (by (with_reducible repeat (first | refine blk_drewN ?_ _ | refine blk_drew ?_ | refine blk_alloc ?_ _)); exact BK115.out) hb); have n6_ := Aside0.mk (below_step (by repeat (first | (with_reducible first | exact HB.out | apply below_alloc | apply pw_below_drewN | apply below_drew1 | refine below_set ?_ GE101.out | refine below_set ?_ GE115.out) | exact HB.out)) hb); clear HO_6; clear HO_9; clear HO_116001; clear BK101; clear BK115; clear HB; have HO_6 := n0_; have HO_9 := n1_; have HO_116001 := n2_; have HO134 := n3_; have BK101 := n4_; have BK115 := n5_; have HB := n6_; clear n0_ n1_ n2_ n3_ n4_ n5_ n6_; (try clear hb); (try clear hb2); (try clear hk); (try clear hi); (try clear ho0); obtain ⟨Ao66, co66, eo66⟩ := Kd.R_slice HO134.out; subst eo66) | ((with_reducible refine gate_callee (f := 23) rfl ?_); refine goesL_ (some 81) rfl rfl Try.func23 (by kernel_rfl) rfl #[.agg #[.int .i64 t131, .slice Ao66 t132.length co66], .int .i64 a1] rfl (by (try simp only [List.map_toArray, List.map_cons, List.map_nil]); first | done | rfl | (simp only [List.length_drop, List.length_take]; rfl)) ?_; (with_reducible refine (impl_MissedSingles.calls kj37 t131 _ _ t132 a1 t135 t138 _ ?side1 ?side2 A60.out).mono ?_); (case side1 => repeat (first | exact (Kd.R_reads' HO134.out).2.2 | (with_reducible refine Kd.C_alloc ?_ _) | (with_reducible refine Kd.C_drewN ?_ _) | (with_reducible refine Kd.C_drew ?_))); (case side2 => exact (Kd.R_reads' HO134.out).2.1); rintro e w67 ⟨v136, rfl, ho0, hb⟩; refine ⟨_, rfl, ?_⟩; have n0_ := Aside0.mk (Kd.S_elder' (by (with_reducible repeat (first | apply Kd.S_alloc | apply Kd.S_drewN | apply Kd.S_drew)); exact HO_6.out) (Kd.S_base ho0) hb); have n1_ := Aside0.mk (Kd.S_elder' (by (with_reducible repeat (first | apply Kd.S_alloc | apply Kd.S_drewN | apply Kd.S_drew)); exact HO_9.out) (Kd.S_base ho0) hb); have n2_ := Aside0.mk (Kd.R_below (by (with_reducible repeat (first | apply Kd.R_alloc | apply Kd.R_drewN | apply Kd.R_drew)); exact HO_116001.out) hb); have n3_ := Aside0.mk (Kd.R_below (by (with_reducible repeat (first | apply Kd.R_alloc | apply Kd.R_drewN | apply Kd.R_drew)); exact HO134.out) hb); have n4_ := Aside0.mk (Kd.S_lower (Kd.S_new' (Kd.S_new' (Kd.S_new' (Kd.S_new' ho0 (Kd.S_lt (by (with_reducible repeat (first | apply Kd.S_alloc | apply Kd.S_drewN | apply Kd.S_drew)); exact HO_6.out))) (Kd.S_lt (by (with_reducible repeat (first | apply Kd.S_alloc | apply Kd.S_drewN | apply Kd.S_drew)); exact HO_9.out))) (Kd.R_lt (by (with_reducible repeat (first | apply Kd.R_alloc | apply Kd.R_drewN | apply Kd.R_drew)); exact HO_116001.out))) (Kd.R_lt (by (with_reducible repeat (first | apply Kd.R_alloc | apply Kd.R_drewN | apply Kd.R_drew)); exact HO134.out))) (below_size (by repeat (first | (with_reducible first | exact HB.out | apply below_alloc | apply pw_below_drewN | apply below_drew1 | refine below_set ?_ GE101.out | refine below_set ?_ GE115.out) | exact HB.out)))); have n5_ := Aside0.mk (blk_below (g := gb101) (o := .cells #[.int .i64 a0_0, .slice A0_1 l0_1.length c0_1] 29 (0, 0)) (by (with_reducible repeat (first | refine blk_drewN ?_ _ | refine blk_drew ?_ | refine blk_alloc ?_ _)); exact BK101.out) hb); have n6_ := Aside0.mk (blk_below (g := gb115) (o := .cells #[.int .i64 t111, .slice Ao25 t127.length co25] 33 (0, 0)) (by (with_reducible repeat (first | refine blk_drewN ?_ _ | refine blk_drew ?_ | refine blk_alloc ?_ _)); exact BK115.out) hb); have n7_ := Aside0.mk (below_step (by repeat (first | (with_reducible first | exact HB.out | apply below_alloc | apply pw_below_drewN | apply below_drew1 | refine below_set ?_ GE101.out | refine below_set ?_ GE115.out) | exact HB.out)) hb); clear HO_6; clear HO_9; clear HO_116001; clear HO134; clear BK101; clear BK115; clear HB; have HO_6 := n0_; have HO_9 := n1_; have HO_116001 := n2_; have HO134 := n3_; have HO137 := n4_; have BK101 := n5_; have BK115 := n6_; have HB := n7_; clear n0_ n1_ n2_ n3_ n4_ n5_ n6_ n7_; (try clear hb); (try clear hb2); (try clear hk); (try clear hi); (try clear ho0)))
           (try simp only [Act.put, List.setIfInBounds_toArray, List.set_cons_zero, List.set_cons_succ])
           go_cut [92] (fun v92 wc => ∃ (kq : Nat) (x92_60 : Bool), v92 = .bool x92_60 ∧ Aside0 (laws_FnExactMissedSingles.j2 kq t116m t129 x92_60 = some r) ∧ Aside0 (kq ≤ kj37) ∧ Aside0 (Kd.S (Kd.slice 3 (Kd.int .i64)) 27 wc w.heap.size (fun k_ => some k_ ≠ ((.slice Ao25 t127.length co25) : Value).ownBlock) (.slice Ao62 t116m.length co62) t116m) ∧ Aside0 (Kd.R (Kd.int .i64) 3 wc w.heap.size (fun _ => True) (.slice Ao25 t127.length co25) t127) ∧ Aside0 (wc.heap[gb101]? = some (.cells #[.int .i64 a0_0, (.slice A0_1 l0_1.length c0_1)] 29 (0, 0))) ∧ Aside0 (wc.heap[gb115]? = some (.cells #[.int .i64 t111, (.slice Ao25 t127.length co25)] 33 (0, 0))) ∧ Aside0 (Below w.heap.size w wc))
           case first =>
            have H := HC61.out
            clear HC61
            replace H := Option.bind_eq_some_iff.mp H
            obtain ⟨t139, A680, H⟩ := H
            replace H : (if t139 = true then (laws_FnExactMissedSingles.j2 kj37 t116m t129 (t138 != t110)) else (laws_FnExactMissedSingles.j2 kj37 t116m t129 true)) = some r := H
            have A68 := Aside0.mk A680
            clear A680
            by_cases c69 : t139 = true
            ·
             subst c69
             have H1 : (laws_FnExactMissedSingles.j2 kj37 t116m t129 (t138 != t110)) = some r := by rw [if_pos rfl] at H; exact H
             clear H
             have H := H1
             clear H1
             have H' := Aside0.mk H
             clear H
             obtain ⟨Ao70, co70, eo70⟩ := Kd.S_slice HO137.out
             subst eo70
             obtain ⟨Ao71, co71, eo71⟩ := Kd.S_slice HO_6.out
             subst eo71
             go_wp2_with (first | ((with_reducible refine gate_callee (f := 10) rfl ?_); refine goesL_ (some 86) rfl rfl Try.func10 (by kernel_rfl) rfl #[.slice Ao70 t135.length co70, .slice Ao71 t107.length co71] rfl (by (try simp only [List.map_toArray, List.map_cons, List.map_nil]); first | done | rfl | (simp only [List.length_drop, List.length_take]; rfl)) ?_; (with_reducible refine (laws_eqIntSS.calls kj37 _ _ t135 _ _ t107 true _ ?side1 ?side2 ?side3 ?side4 A68.out).mono ?_); (case side1 => repeat (first | exact (Kd.S_reads' HO137.out).2.2 | (with_reducible refine Kd.C_alloc ?_ _) | (with_reducible refine Kd.C_drewN ?_ _) | (with_reducible refine Kd.C_drew ?_))); (case side2 => exact (Kd.S_reads' HO137.out).2.1); (case side3 => repeat (first | exact (Kd.S_reads' HO_6.out).2.2 | (with_reducible refine Kd.C_alloc ?_ _) | (with_reducible refine Kd.C_drewN ?_ _) | (with_reducible refine Kd.C_drew ?_))); (case side4 => exact (Kd.S_reads' HO_6.out).2.1); rintro e w' ⟨rfl, ⟨nd, rfl⟩⟩; refine ⟨_, rfl, ?_⟩))
             go_meet
             case rel => exact ⟨_, ((t138 != t110)), (by first | rfl | (simp; done) | (simp [*]; done)), H', ⟨by have := HJ11.out; have := HJ37.out; first | omega | exact Nat.le_refl _⟩, ⟨by (try simp only [hl116001_37]); (with_reducible repeat (first | apply Kd.S_alloc | apply Kd.S_drewN | apply Kd.S_drew)); exact Kd.S_mono HO_9.out (fun _ hk => hk.1.1.2)⟩, ⟨by (try simp only [hl116001_37]); (with_reducible repeat (first | apply Kd.R_alloc | apply Kd.R_drewN | apply Kd.R_drew)); exact Kd.R_mono HO_116001.out (fun _ hk => trivial)⟩, ⟨by (try simp only [hl116001_37]); (with_reducible repeat (first | refine blk_drewN ?_ _ | refine blk_drew ?_ | refine blk_alloc ?_ _)); exact BK101.out⟩, ⟨by (try simp only [hl116001_37]); (with_reducible repeat (first | refine blk_drewN ?_ _ | refine blk_drew ?_ | refine blk_alloc ?_ _)); exact BK115.out⟩, ⟨by repeat (first | (with_reducible first | exact HB.out | apply below_alloc | apply pw_below_drewN | apply below_drew1 | refine below_set ?_ GE101.out | refine below_set ?_ GE115.out) | exact HB.out)⟩⟩
            ·
             replace c69 := Bool.eq_false_iff.mpr c69
             subst c69
             have H1 : (laws_FnExactMissedSingles.j2 kj37 t116m t129 true) = some r := by rw [if_neg (show ¬ (false = true) by decide)] at H; exact H
             clear H
             have H := H1
             clear H1
             have H' := Aside0.mk H
             clear H
             obtain ⟨Ao72, co72, eo72⟩ := Kd.S_slice HO137.out
             subst eo72
             obtain ⟨Ao73, co73, eo73⟩ := Kd.S_slice HO_6.out
             subst eo73
             go_wp2_with (first | ((with_reducible refine gate_callee (f := 10) rfl ?_); refine goesL_ (some 86) rfl rfl Try.func10 (by kernel_rfl) rfl #[.slice Ao72 t135.length co72, .slice Ao73 t107.length co73] rfl (by (try simp only [List.map_toArray, List.map_cons, List.map_nil]); first | done | rfl | (simp only [List.length_drop, List.length_take]; rfl)) ?_; (with_reducible refine (laws_eqIntSS.calls kj37 _ _ t135 _ _ t107 false _ ?side1 ?side2 ?side3 ?side4 A68.out).mono ?_); (case side1 => repeat (first | exact (Kd.S_reads' HO137.out).2.2 | (with_reducible refine Kd.C_alloc ?_ _) | (with_reducible refine Kd.C_drewN ?_ _) | (with_reducible refine Kd.C_drew ?_))); (case side2 => exact (Kd.S_reads' HO137.out).2.1); (case side3 => repeat (first | exact (Kd.S_reads' HO_6.out).2.2 | (with_reducible refine Kd.C_alloc ?_ _) | (with_reducible refine Kd.C_drewN ?_ _) | (with_reducible refine Kd.C_drew ?_))); (case side4 => exact (Kd.S_reads' HO_6.out).2.1); rintro e w' ⟨rfl, ⟨nd, rfl⟩⟩; refine ⟨_, rfl, ?_⟩))
             go_meet
             case rel => exact ⟨_, (true), (by first | rfl | (simp; done) | (simp [*]; done)), H', ⟨by have := HJ11.out; have := HJ37.out; first | omega | exact Nat.le_refl _⟩, ⟨by (try simp only [hl116001_37]); (with_reducible repeat (first | apply Kd.S_alloc | apply Kd.S_drewN | apply Kd.S_drew)); exact Kd.S_mono HO_9.out (fun _ hk => hk.1.1.2)⟩, ⟨by (try simp only [hl116001_37]); (with_reducible repeat (first | apply Kd.R_alloc | apply Kd.R_drewN | apply Kd.R_drew)); exact Kd.R_mono HO_116001.out (fun _ hk => trivial)⟩, ⟨by (try simp only [hl116001_37]); (with_reducible repeat (first | refine blk_drewN ?_ _ | refine blk_drew ?_ | refine blk_alloc ?_ _)); exact BK101.out⟩, ⟨by (try simp only [hl116001_37]); (with_reducible repeat (first | refine blk_drewN ?_ _ | refine blk_drew ?_ | refine blk_alloc ?_ _)); exact BK115.out⟩, ⟨by repeat (first | (with_reducible first | exact HB.out | apply below_alloc | apply pw_below_drewN | apply below_drew1 | refine below_set ?_ GE101.out | refine below_set ?_ GE115.out) | exact HB.out)⟩⟩
           case rest =>
            clear HC61
            try clear c1
            try clear c2
            try clear p2
            try clear c3
            try clear c4
            try clear c4b0
            try clear c5
            try clear c6
            try clear c7
            try clear c10
            try clear c12
            try clear c13
            try clear c15
            try clear c17
            try clear c22
            try clear c23
            try clear c24
            try clear c28
            try clear c33
            try clear c36
            try clear c43
            try clear c46
            try clear c46b0
            try clear c48
            try clear c53
            try clear c56
            try clear c56b0
            try clear c58
            try clear c58b0
            try clear c58b1
            try clear c63
            try clear c69
            try clear hcz14_0
            try clear hcz14_1
            try clear hcz16_0
            try clear hcz16_1
            try clear hcz20_0
            try clear hcz20_1
            try clear hcz24_0
            try clear hcz24_1
            try clear hcz44_0
            try clear hcz44_1
            try clear hcz64_0
            try clear hcz64_1
            try clear hcz6_0
            try clear hcz6_1
            try clear hfz14_0
            try clear hfz14_1
            try clear hfz16_0
            try clear hfz16_1
            try clear hfz20_0
            try clear hfz20_1
            try clear hfz24_0
            try clear hfz24_1
            try clear hfz44_0
            try clear hfz44_1
            try clear hfz64_0
            try clear hfz64_1
            try clear hfz6_0
            try clear hfz6_1
            try clear p2
            obtain ⟨kq, x92_60, rfl, HA, HJ60, HO_9, HO_116001, BK101, BK115, HB⟩ := hcut
            cases kq with
            | zero => exact absurd HA.out (by simp [laws_FnExactMissedSingles.j2])
            | succ kj60 =>
             have H := HA.out
             clear HA
             simp only [laws_FnExactMissedSingles.j2] at H
             by_cases c74 : x92_60 = true
             ·
              subst c74
              have H1 : (some false) = some r := by rw [if_pos rfl] at H; exact H
              clear H
              have H := H1
              clear H1
              obtain rfl := Option.some.inj H
              go_wp2
              go_ret
              exact ⟨by first | rfl | (simp [errW_none, errW_some] <;> rfl) | (simp [*, errW_none, errW_some] <;> rfl), by repeat (first | (with_reducible first | exact HB.out | apply below_alloc | apply pw_below_drewN | apply below_drew1 | refine below_set ?_ GE101.out | refine below_set ?_ GE115.out) | exact HB.out)⟩
             ·
              replace c74 := Bool.eq_false_iff.mpr c74
              subst c74
              have H1 : ((laws_heldIntSS.f kj60 t116m 1).bind fun t140 => (if t140 < 0 then (some false) else (if t140 = t129 then (some true) else (some false)))) = some r := by rw [if_neg (show ¬ (false = true) by decide)] at H; exact H
              clear H
              have H := H1
              clear H1
              replace H := Option.bind_eq_some_iff.mp H
              obtain ⟨t140, A750, H⟩ := H
              replace H : (if t140 < 0 then (some false) else (if t140 = t129 then (some true) else (some false))) = some r := H
              have A75 := Aside0.mk A750
              clear A750
              by_cases c76 : t140 < 0
              ·
               rw [if_pos c76] at H
               have c76b0 : decide (t140 < 0) = true := decide_eq_true c76
               clear c76
               obtain rfl := Option.some.inj H
               go_wp2_with (first | ((with_reducible refine gate_callee (f := 12) rfl ?_); refine goesL_ (some 95) rfl rfl Try.func12 (by kernel_rfl) rfl #[.slice Ao62 t116m.length co62, .int .i64 1] rfl (by (try simp only [List.map_toArray, List.map_cons, List.map_nil]); first | done | rfl | (simp only [List.length_drop, List.length_take]; rfl)) ?_; (with_reducible refine (laws_heldIntSS.calls kj60 _ _ t116m 1 t140 _ ?side1 ?side2 A75.out).mono ?_); (case side1 => repeat (first | exact (Kd.S_reads' HO_9.out).2.2 | (with_reducible refine Kd.C_alloc ?_ _) | (with_reducible refine Kd.C_drewN ?_ _) | (with_reducible refine Kd.C_drew ?_))); (case side2 => exact (Kd.S_reads' HO_9.out).2.1); rintro e w' ⟨rfl, ⟨nd, rfl⟩⟩; refine ⟨_, rfl, ?_⟩))
               go_ret
               exact ⟨by first | rfl | (simp [errW_none, errW_some] <;> rfl) | (simp [*, errW_none, errW_some] <;> rfl), by repeat (first | (with_reducible first | exact HB.out | apply below_alloc | apply pw_below_drewN | apply below_drew1 | refine below_set ?_ GE101.out | refine below_set ?_ GE115.out) | exact HB.out)⟩
              ·
               rw [if_neg c76] at H
               have c76b0 : decide (t140 < 0) = false := decide_eq_false c76
               clear c76
               by_cases c77 : t140 = t129
               ·
                rw [if_pos c77] at H
                have c77b0 : (t140 == t129) = true := beq_iff_eq.mpr c77
                have c77b1 : (t140 != t129) = false := bne_eq_false_iff_eq.mpr c77
                clear c77
                obtain rfl := Option.some.inj H
                go_wp2_with (first | ((with_reducible refine gate_callee (f := 12) rfl ?_); refine goesL_ (some 95) rfl rfl Try.func12 (by kernel_rfl) rfl #[.slice Ao62 t116m.length co62, .int .i64 1] rfl (by (try simp only [List.map_toArray, List.map_cons, List.map_nil]); first | done | rfl | (simp only [List.length_drop, List.length_take]; rfl)) ?_; (with_reducible refine (laws_heldIntSS.calls kj60 _ _ t116m 1 t140 _ ?side1 ?side2 A75.out).mono ?_); (case side1 => repeat (first | exact (Kd.S_reads' HO_9.out).2.2 | (with_reducible refine Kd.C_alloc ?_ _) | (with_reducible refine Kd.C_drewN ?_ _) | (with_reducible refine Kd.C_drew ?_))); (case side2 => exact (Kd.S_reads' HO_9.out).2.1); rintro e w' ⟨rfl, ⟨nd, rfl⟩⟩; refine ⟨_, rfl, ?_⟩))
                go_ret
                exact ⟨by first | rfl | (simp [errW_none, errW_some] <;> rfl) | (simp [*, errW_none, errW_some] <;> rfl), by repeat (first | (with_reducible first | exact HB.out | apply below_alloc | apply pw_below_drewN | apply below_drew1 | refine below_set ?_ GE101.out | refine below_set ?_ GE115.out) | exact HB.out)⟩
               ·
                rw [if_neg c77] at H
                have c77b0 : (t140 == t129) = false := beq_eq_false_iff_ne.mpr c77
                have c77b1 : (t140 != t129) = true := bne_iff_ne.mpr c77
                obtain rfl := Option.some.inj H
                go_wp2_with (first | ((with_reducible refine gate_callee (f := 12) rfl ?_); refine goesL_ (some 95) rfl rfl Try.func12 (by kernel_rfl) rfl #[.slice Ao62 t116m.length co62, .int .i64 1] rfl (by (try simp only [List.map_toArray, List.map_cons, List.map_nil]); first | done | rfl | (simp only [List.length_drop, List.length_take]; rfl)) ?_; (with_reducible refine (laws_heldIntSS.calls kj60 _ _ t116m 1 t140 _ ?side1 ?side2 A75.out).mono ?_); (case side1 => repeat (first | exact (Kd.S_reads' HO_9.out).2.2 | (with_reducible refine Kd.C_alloc ?_ _) | (with_reducible refine Kd.C_drewN ?_ _) | (with_reducible refine Kd.C_drew ?_))); (case side2 => exact (Kd.S_reads' HO_9.out).2.1); rintro e w' ⟨rfl, ⟨nd, rfl⟩⟩; refine ⟨_, rfl, ?_⟩))
                go_ret
                exact ⟨by first | rfl | (simp [errW_none, errW_some] <;> rfl) | (simp [*, errW_none, errW_some] <;> rfl), by repeat (first | (with_reducible first | exact HB.out | apply below_alloc | apply pw_below_drewN | apply below_drew1 | refine below_set ?_ GE101.out | refine below_set ?_ GE115.out) | exact HB.out)⟩
          ·
           rw [if_neg c58] at H
           have c58b0 : (t130 == t129) = false := beq_eq_false_iff_ne.mpr c58
           have c58b1 : (t130 != t129) = true := bne_iff_ne.mpr c58
           obtain rfl := Option.some.inj H
           obtain ⟨Ao78, co78, eo78⟩ := Kd.S_slice HO_9.out
           subst eo78
           go_wp2_with (first | ((with_reducible refine gate_callee (f := 11) rfl ?_); refine goesL_ (some 68) rfl rfl Try.func11 (by kernel_rfl) rfl #[.slice Ao78 t116.length co78, .int .i64 1] rfl (by (try simp only [List.map_toArray, List.map_cons, List.map_nil]); first | done | rfl | (simp only [List.length_drop, List.length_take]; rfl)) ?_; (with_reducible refine (laws_markIntSS.calls kj37 (fun k_ => N_ ≤ k_ ∧ some k_ ≠ ((.slice Ao25 t127.length co25) : Value).ownBlock) (.slice Ao78 t116.length co78) t116 1 t129 t116m w _ ?side1 ?side2 A54.out).mono ?_); (case side1 => repeat (first | (with_reducible first | exact HB.out | apply below_alloc | apply pw_below_drewN | apply below_drew1) | exact HB.out)); (case side2 => ((with_reducible repeat (first | apply Kd.S_alloc | apply Kd.S_drewN | apply Kd.S_drew)); exact HO_9.out)); rintro e wmk_ ⟨rfl, hy0, hb, hkp⟩; refine ⟨_, rfl, ?_⟩; have n0_ := Aside0.mk (Kd.S_mono (Kd.S_keptB (by (with_reducible repeat (first | apply Kd.S_alloc | apply Kd.S_drewN | apply Kd.S_drew)); exact HO_6.out) hkp (by intro k_ hk_ hs_; exact absurd hs_.1 (Nat.not_le.mpr hk_.1))) (fun k_ hk_ => hk_.1)); have n1_ := Aside0.mk (Kd.S_mono (ok' := fun k_ => True ∧ some k_ ≠ ((.slice Ao25 t127.length co25) : Value).ownBlock) hy0 (fun k_ hk_ => ⟨trivial, hk_.elim (fun h_ => h_.2) (fun h_ e_ => absurd h_ (Nat.not_le.mpr (Kd.R_lt HO_116001.out k_ e_.symm)))⟩)); have n2_ := Aside0.mk hb; have hlm_ := (Kd.S_reads' n1_.out).1; rw [hlm_] at n1_; (try rw [hlm_]); have n3_ := Aside0.mk (Kd.R_mono (ok' := fun _ => True) (Kd.R_keptB (Kd.R_tight rfl (by (with_reducible repeat (first | apply Kd.R_alloc | apply Kd.R_drewN | apply Kd.R_drew)); exact HO_116001.out)) hkp (by intro k_ hk_ hs_; exact hs_.2 hk_)) (fun _ _ => trivial)); have n4_ := Aside0.mk (blk_kept (by (with_reducible repeat (first | refine blk_drewN ?_ _ | refine blk_drew ?_ | refine blk_alloc ?_ _)); exact BK101.out) hkp (by intro hs_; exact absurd hs_.1 (Nat.not_le.mpr HNBK101.out))); have n5_ := Aside0.mk (blk_kept (by (with_reducible repeat (first | refine blk_drewN ?_ _ | refine blk_drew ?_ | refine blk_alloc ?_ _)); exact BK115.out) hkp (by intro hs_; exact absurd hs_.1 (Nat.not_le.mpr HNBK115.out))); clear HO_6; clear HO_9; clear HB; clear HO_116001; clear BK101; clear BK115; have HO_6 := n0_; have HO_9 := n1_; have HB := n2_; have HO_116001 := n3_; have BK101 := n4_; have BK115 := n5_; clear n0_ n1_ n2_ n3_ n4_ n5_; clear hy0 hb hkp) | ((with_reducible refine gate_callee (f := 12) rfl ?_); refine goesL_ (some 71) rfl rfl Try.func12 (by kernel_rfl) rfl #[.slice Ao78 t116m.length co78, .int .i64 1] rfl (by (try simp only [List.map_toArray, List.map_cons, List.map_nil]); first | done | rfl | (simp only [List.length_drop, List.length_take]; rfl)) ?_; (with_reducible refine (laws_heldIntSS.calls kj37 _ _ t116m 1 t130 _ ?side1 ?side2 A55.out).mono ?_); (case side1 => repeat (first | exact (Kd.S_reads' HO_9.out).2.2 | (with_reducible refine Kd.C_alloc ?_ _) | (with_reducible refine Kd.C_drewN ?_ _) | (with_reducible refine Kd.C_drew ?_))); (case side2 => exact (Kd.S_reads' HO_9.out).2.1); rintro e w' ⟨rfl, ⟨nd, rfl⟩⟩; refine ⟨_, rfl, ?_⟩))
           go_ret
           exact ⟨by first | rfl | (simp [errW_none, errW_some] <;> rfl) | (simp [*, errW_none, errW_some] <;> rfl), by repeat (first | (with_reducible first | exact HB.out | apply below_alloc | apply pw_below_drewN | apply below_drew1 | refine below_set ?_ GE101.out | refine below_set ?_ GE115.out) | exact HB.out)⟩
     ·
      replace c36 := Bool.eq_false_iff.mpr c36
      subst c36
      have H1 : (some false) = some r := by rw [if_neg (show ¬ (false = true) by decide)] at H; exact H
      clear H
      have H := H1
      clear H1
      obtain rfl := Option.some.inj H
      try go_wp2
      have n0_ := Aside0.mk (Kd.S_drew HO_6.out)
      have n1_ := Aside0.mk (Kd.S_drew HO_9.out)
      have n2_ := Aside0.mk (Kd.R_drew HO_116001.out)
      have n3_ := Aside0.mk (blk_drew BK101.out)
      have n4_ := Aside0.mk (blk_drew BK115.out)
      have n5_ := Aside0.mk (below_drew1 HB.out)
      clear HO_6
      clear HO_9
      clear HO_116001
      clear BK101
      clear BK115
      clear HB
      have HO_6 := n0_
      have HO_9 := n1_
      have HO_116001 := n2_
      have BK101 := n3_
      have BK115 := n4_
      have HB := n5_
      clear n0_ n1_ n2_ n3_ n4_ n5_
      refine start_ (n := 5) (S := fun w' => w'.cell? ⟨gb115, 0, none⟩ = some (.int .i64 t111) ∧ w'.cell? ⟨gb115, 1, none⟩ = some (.slice Ao25 t112.length co25) ∧ w'.cell? ⟨gb101, 0, none⟩ = some (.int .i64 a0_0) ∧ w'.cell? ⟨gb101, 1, none⟩ = some (.slice A0_1 l0_1.length c0_1)) (ds := []) #[false, false, false, false, false] (by kernel_rfl) rfl rfl ⟨(blk_cell BK115.out 0).trans rfl, (blk_cell BK115.out 1).trans rfl, (blk_cell BK101.out 0).trans rfl, (blk_cell BK101.out 1).trans rfl⟩ (fun hHeld => ?_)
      generalize wc.drew = w79 at HO_6 HO_9 HO_116001 BK101 BK115 HB hHeld ⊢
      refine take_ (i := 0) (N := some 45) (v := ?_) (a' := ?_) #[true, false, false, false, false] rfl rfl (by kernel_rfl) (fun _ _ _ h => h) (Or.inl ⟨by rfl, ?_⟩) hHeld ?_ ?_
      rotate_left
      ·
       rintro w' ⟨s0, s1, s2, s3⟩
       go_simp
       with_reducible rfl
      rotate_left
      ·
       simp only [Act.put, List.setIfInBounds_toArray, List.set_cons_zero, List.set_cons_succ, i64_w, i32_w]
       rfl
      refine take_ (i := 1) (N := some 46) (v := ?_) (a' := ?_) #[true, true, false, false, false] rfl rfl (by kernel_rfl) (fun _ _ _ h => h) (Or.inl ⟨by rfl, ?_⟩) hHeld ?_ ?_
      rotate_left
      ·
       rintro w' ⟨s0, s1, s2, s3⟩
       go_simp
       with_reducible rfl
      rotate_left
      ·
       simp only [Act.put, List.setIfInBounds_toArray, List.set_cons_zero, List.set_cons_succ, i64_w, i32_w]
       rfl
      refine one_ (i := 2) (N := some 47) #[true, true, true, false, false] rfl rfl (by kernel_rfl) (by decide) (fun K hK => ?_)
      refine goes_ Try.func15 (by kernel_rfl) rfl #[.agg #[.int .i64 a0_0, .slice A0_1 l0_1.length c0_1]] (by rfl) rfl rfl (by (try simp only [List.map_toArray, List.map_cons, List.map_nil]); first | done | rfl | (simp only [List.length_drop, List.length_take]; rfl)) ?_
      with_reducible refine (laws_toScheme.calls kj11 a0_0 _ _ l0_1 t121 t122 _ ?side1 ?side2 A34.out).mono ?_
      (case side1 => repeat (first | exact (Kd.C_below HR0_1.out HB.out) | (with_reducible refine Kd.C_alloc ?_ _) | (with_reducible refine Kd.C_drewN ?_ _) | (with_reducible refine Kd.C_drew ?_)))
      (case side2 => exact HC0_1.out)
      rintro e w80 ⟨v123, rfl, ho0, hb⟩
      refine ⟨_, rfl, ?_⟩
      have n0_ := Aside0.mk (Kd.S_elder' (by (with_reducible repeat (first | apply Kd.S_alloc | apply Kd.S_drewN | apply Kd.S_drew)); exact HO_6.out) (Kd.R_base ho0) hb)
      have n1_ := Aside0.mk (Kd.S_elder' (by (with_reducible repeat (first | apply Kd.S_alloc | apply Kd.S_drewN | apply Kd.S_drew)); exact HO_9.out) (Kd.R_base ho0) hb)
      have n2_ := Aside0.mk (Kd.R_elder' (by (with_reducible repeat (first | apply Kd.R_alloc | apply Kd.R_drewN | apply Kd.R_drew)); exact HO_116001.out) (Kd.R_base ho0) hb)
      have n3_ := Aside0.mk (Kd.R_lower (Kd.R_new' ho0 (Kd.R_lt (by (with_reducible repeat (first | apply Kd.R_alloc | apply Kd.R_drewN | apply Kd.R_drew)); exact HO_116001.out))) (below_size (by repeat (first | (with_reducible first | exact HB.out | apply below_alloc | apply pw_below_drewN | apply below_drew1 | refine below_set ?_ GE101.out | refine below_set ?_ GE115.out) | exact HB.out))))
      have n4_ := Aside0.mk (blk_below (g := gb101) (o := .cells #[.int .i64 a0_0, .slice A0_1 l0_1.length c0_1] 29 (0, 0)) (by (with_reducible repeat (first | refine blk_drewN ?_ _ | refine blk_drew ?_ | refine blk_alloc ?_ _)); exact BK101.out) hb)
      have n5_ := Aside0.mk (blk_below (g := gb115) (o := .cells #[.int .i64 t111, .slice Ao25 t112.length co25] 33 (0, 0)) (by (with_reducible repeat (first | refine blk_drewN ?_ _ | refine blk_drew ?_ | refine blk_alloc ?_ _)); exact BK115.out) hb)
      have n6_ := Aside0.mk (below_step (by repeat (first | (with_reducible first | exact HB.out | apply below_alloc | apply pw_below_drewN | apply below_drew1 | refine below_set ?_ GE101.out | refine below_set ?_ GE115.out) | exact HB.out)) hb)
      clear HO_6
      clear HO_9
      clear HO_116001
      clear BK101
      clear BK115
      clear HB
      have HO_6 := n0_
      have HO_9 := n1_
      have HO_116001 := n2_
      have HO124 := n3_
      have BK101 := n4_
      have BK115 := n5_
      have HB := n6_
      clear n0_ n1_ n2_ n3_ n4_ n5_ n6_
      (try clear hb)
      (try clear hb2)
      (try clear hk)
      (try clear hi)
      (try clear ho0)
      obtain ⟨Ao81, co81, eo81⟩ := Kd.R_slice HO124.out
      (first | subst eo81 | (injection eo81 with f1_ f2_ f3_; have f4_ := f1_.symm; have f5_ := f3_.symm; clear f1_ f2_ f3_; subst f4_; subst f5_))
      refine hK.out _ _ ⟨(blk_cell BK115.out 0).trans rfl, (blk_cell BK115.out 1).trans rfl, (blk_cell BK101.out 0).trans rfl, (blk_cell BK101.out 1).trans rfl⟩ (fun hHeld => ?_)
      clear hK K
      refine norm_ (a' := ?_) ?_ ?_
      rotate_left
      ·
       show Act.put _ (some 47) _ = _
       simp only [Act.put, List.setIfInBounds_toArray, List.set_cons_zero, List.set_cons_succ, i64_w, i32_w]
       rfl
      refine one_ (i := 3) (N := some 48) #[true, true, true, true, false] rfl rfl (by kernel_rfl) (by decide) (fun K hK => ?_)
      refine goes_ Try.func17 (by kernel_rfl) rfl #[.agg #[.int .i64 t111, .slice Ao25 t112.length co25], .agg #[.int .i64 t121, .slice Ao81 t122.length co81]] (by rfl) rfl rfl (by (try simp only [List.map_toArray, List.map_cons, List.map_nil]); first | done | rfl | (simp only [List.length_drop, List.length_take]; rfl)) ?_
      with_reducible refine (laws_eqScheme.calls kj11 t111 _ _ t112 t121 _ _ t122 false _ ?side1 ?side2 ?side3 ?side4 A35.out).mono ?_
      (case side1 => repeat (first | exact (Kd.R_reads' HO_116001.out).2.2 | (with_reducible refine Kd.C_alloc ?_ _) | (with_reducible refine Kd.C_drewN ?_ _) | (with_reducible refine Kd.C_drew ?_)))
      (case side2 => exact (Kd.R_reads' HO_116001.out).2.1)
      (case side3 => repeat (first | exact (Kd.R_reads' HO124.out).2.2 | (with_reducible refine Kd.C_alloc ?_ _) | (with_reducible refine Kd.C_drewN ?_ _) | (with_reducible refine Kd.C_drew ?_)))
      (case side4 => exact (Kd.R_reads' HO124.out).2.1)
      rintro e w82 ⟨rfl, hb⟩
      refine ⟨_, rfl, ?_⟩
      have n0_ := Aside0.mk (Kd.S_below (by (with_reducible repeat (first | apply Kd.S_alloc | apply Kd.S_drewN | apply Kd.S_drew)); exact HO_6.out) hb)
      have n1_ := Aside0.mk (Kd.S_below (by (with_reducible repeat (first | apply Kd.S_alloc | apply Kd.S_drewN | apply Kd.S_drew)); exact HO_9.out) hb)
      have n2_ := Aside0.mk (Kd.R_below (by (with_reducible repeat (first | apply Kd.R_alloc | apply Kd.R_drewN | apply Kd.R_drew)); exact HO_116001.out) hb)
      have n3_ := Aside0.mk (Kd.R_below (by (with_reducible repeat (first | apply Kd.R_alloc | apply Kd.R_drewN | apply Kd.R_drew)); exact HO124.out) hb)
      have n4_ := Aside0.mk (blk_below (g := gb101) (o := .cells #[.int .i64 a0_0, .slice A0_1 l0_1.length c0_1] 29 (0, 0)) (by (with_reducible repeat (first | refine blk_drewN ?_ _ | refine blk_drew ?_ | refine blk_alloc ?_ _)); exact BK101.out) hb)
      have n5_ := Aside0.mk (blk_below (g := gb115) (o := .cells #[.int .i64 t111, .slice Ao25 t112.length co25] 33 (0, 0)) (by (with_reducible repeat (first | refine blk_drewN ?_ _ | refine blk_drew ?_ | refine blk_alloc ?_ _)); exact BK115.out) hb)
      have n6_ := Aside0.mk (below_step (by repeat (first | (with_reducible first | exact HB.out | apply below_alloc | apply pw_below_drewN | apply below_drew1 | refine below_set ?_ GE101.out | refine below_set ?_ GE115.out) | exact HB.out)) hb)
      clear HO_6
      clear HO_9
      clear HO_116001
      clear HO124
      clear BK101
      clear BK115
      clear HB
      have HO_6 := n0_
      have HO_9 := n1_
      have HO_116001 := n2_
      have HO124 := n3_
      have BK101 := n4_
      have BK115 := n5_
      have HB := n6_
      clear n0_ n1_ n2_ n3_ n4_ n5_ n6_
      (try clear hb)
      (try clear hb2)
      (try clear hk)
      (try clear hi)
      refine hK.out _ _ ⟨(blk_cell BK115.out 0).trans rfl, (blk_cell BK115.out 1).trans rfl, (blk_cell BK101.out 0).trans rfl, (blk_cell BK101.out 1).trans rfl⟩ (fun hHeld => ?_)
      clear hK K
      refine norm_ (a' := ?_) ?_ ?_
      rotate_left
      ·
       show Act.put _ (some 48) _ = _
       simp only [Act.put, List.setIfInBounds_toArray, List.set_cons_zero, List.set_cons_succ, i64_w, i32_w]
       rfl
      refine pure_ (i := 4) (N := some 49) (v := ?_) (a' := ?_) #[true, true, true, true, true] rfl rfl (by kernel_rfl) (fun _ _ _ h => h) (Or.inl ⟨by rfl, ?_⟩) ?_ ?_
      rotate_left
      ·
       intro w'
       go_simp
       with_reducible rfl
      rotate_left
      ·
       simp only [Act.put, List.setIfInBounds_toArray, List.set_cons_zero, List.set_cons_succ, i64_w, i32_w]
       rfl
      refine done_ (by kernel_rfl) ?_
      try go_wp2
      go_ret
      exact ⟨by first | rfl | (simp [errW_none, errW_some] <;> rfl) | (simp [*, errW_none, errW_some] <;> rfl), by repeat (first | (with_reducible first | exact HB.out | apply below_alloc | apply pw_below_drewN | apply below_drew1 | refine below_set ?_ GE101.out | refine below_set ?_ GE115.out) | exact HB.out)⟩


end Go.Proofs.Ytlkpilmcakeadaa.P

namespace Go.Proofs.Ytlkpilmcakeadaa
open Go.RowKit Go.Proofs.Ytlkpilmcakeadaa.P Go.Proofs.YtlkpilmcakeadaaW.PrintWords Go.Proofs.YtlkpilmcakeadaaW.PrintLast
/-- The pure statement of FnExactMissedSingles. -/
def PureFnExactMissedSingles : Prop := ∀ (a0_0 : Int) (l0_1 : List Int) (a1 : Int), (Lit.int .i64 a0_0).wf = true → (l0_1.length ≤ 9223372036854775807 ∧ ∀ x ∈ l0_1, (Lit.int .i64 x).wf = true) → (Lit.int .i64 a1).wf = true →  ∃ k, laws_FnExactMissedSingles.f k a0_0 l0_1 a1 = some true
end Go.Proofs.Ytlkpilmcakeadaa

namespace Go.Proofs.Ytlkpilmcakeadaa
open Go.RowKit Go.Proofs.YtlkpilmcakeadaaW.PrintWords
/-! Plain words for the pure statements: answers that stand from some number of rounds on. -/
theorem Ev.succ {α : Type} {g : Nat → Option α} {r : α} (h : Ev (fun k => g (k + 1)) r) : Ev g r := Ev.step (fun _ => rfl) h
theorem Ev.const {α : Type} {a : Option α} {r : α} (h : a = some r) : Ev (fun _ => a) r := ⟨0, fun _ _ => h⟩
theorem Ev.pos {α : Type} {c : Prop} [Decidable c] {g f : Nat → Option α} {r : α} (hc : c) (h : Ev g r) : Ev (fun k => if c then g k else f k) r := by simp only [if_pos hc]; exact h
theorem Ev.neg {α : Type} {c : Prop} [Decidable c] {g f : Nat → Option α} {r : α} (hc : ¬ c) (h : Ev f r) : Ev (fun k => if c then g k else f k) r := by simp only [if_neg hc]; exact h
theorem Ev.yes {α : Type} {c : Prop} [Decidable c] {g f : Nat → Option α} {r : α} (h : Ev g r) (hc : c := by first | omega | rfl | trivial | decide | simp | (simp; omega)) : Ev (fun k => if c then g k else f k) r := Ev.pos hc h
theorem Ev.no {α : Type} {c : Prop} [Decidable c] {g f : Nat → Option α} {r : α} (h : Ev f r) (hc : ¬ c := by first | omega | decide | simp | (simp; omega)) : Ev (fun k => if c then g k else f k) r := Ev.neg hc h
theorem Ev.bindc {α β : Type} {a : Option α} {x : α} {f : Nat → α → Option β} {r : β} (h : a = some x) (k : Ev (fun n => f n x) r) : Ev (fun n => a.bind (f n)) r := by subst h; exact k
theorem wrap_id {n : Int} (h1 : -9223372036854775808 ≤ n) (h2 : n ≤ 9223372036854775807) : wrap64 n = n := IntWalk.wrap64_in n ⟨h1, h2⟩
theorem wf_i64 {n : Int} (h : (Lit.int .i64 n).wf = true) : -9223372036854775808 ≤ n ∧ n ≤ 9223372036854775807 := by
  have e1 : IntKind.i64.min = -9223372036854775808 := rfl
  have e2 : IntKind.i64.max = 9223372036854775807 := rfl
  simp only [Lit.wf, e1, e2, Bool.and_eq_true, decide_eq_true_eq] at h
  exact h
theorem rd_nat (l : List Int) (j : Nat) (h : j < l.length) : rd l (j : Int) = l[j] := by unfold rd; simp [List.getD, h]
end Go.Proofs.Ytlkpilmcakeadaa

namespace Go.Proofs.Ytlkpilmcakeadaa
open Go.RowKit Go.Proofs.Ytlkpilmcakeadaa.P Go.Proofs.YtlkpilmcakeadaaW.PrintWords
theorem szIntS_eq (l : List Int) (h : l.length ≤ 9223372036854775807) : laws_szIntS.f l 1048576 = some (if l.length ≤ 1048576 then 1048576 - (l.length : Int) else -1) := by
  unfold laws_szIntS.f
  rw [wrap_id (by omega) (by omega)]
  by_cases c : l.length ≤ 1048576
  · rw [if_neg (by omega), if_pos c]
  · rw [if_pos (by omega), if_neg c]
theorem toIntS_l0 (x0 : List Int) (h : x0.length ≤ 1048576) : ∀ (d i : Nat) (x3 : List Int), i + d = x0.length → x3.length = x0.length → x3.take i = x0.take i → Ev (fun k => laws_toIntS.l0 k x0 x3 i) x0
  | 0, i, x3, hi, h3, ht => by
    apply Ev.succ
    simp only [laws_toIntS.l0]
    refine Ev.neg (by omega) (Ev.const ?_)
    have e : i = x0.length := by omega
    rw [e, List.take_of_length_le (by omega), List.take_of_length_le (by omega)] at ht
    rw [ht]
  | d + 1, i, x3, hi, h3, ht => by
    apply Ev.succ
    simp only [laws_toIntS.l0]
    refine Ev.pos (by omega) (Ev.pos (by omega) (Ev.pos (by omega) ?_))
    rw [wrap_id (by omega) (by omega), Int.toNat_natCast, rd_nat x0 i (by omega)]
    have := toIntS_l0 x0 h d (i + 1) (x3.set i x0[i]) (by omega) (by simp [h3]) (by
      rw [List.take_succ_eq_append_getElem (by simp; omega), List.take_succ_eq_append_getElem (by omega), List.take_set_of_le (Nat.le_refl _), ht]
      simp)
    exact_mod_cast this
theorem toIntS_ev (l : List Int) (h : l.length ≤ 1048576) : Ev (fun k => laws_toIntS.f k l) l := by
  unfold laws_toIntS.f
  refine Ev.pos (by omega) (Ev.pos (by omega) ?_)
  exact toIntS_l0 l h l.length 0 _ (by omega) (by simp) (by simp)
theorem eqIntS_l0 (a b : List Int) (h : a.length = b.length) (hl : a.length ≤ 9223372036854775806) : ∀ (d i : Nat), i + d = a.length → Ev (fun k => laws_eqIntS.l0 k a b i) (decide (a.drop i = b.drop i))
  | 0, i, hi => by
    apply Ev.succ
    simp only [laws_eqIntS.l0]
    refine Ev.neg (by omega) (Ev.const ?_)
    rw [List.drop_of_length_le (by omega), List.drop_of_length_le (by omega)]; simp
  | d + 1, i, hi => by
    apply Ev.succ
    simp only [laws_eqIntS.l0]
    refine Ev.pos (by omega) (Ev.pos (by omega) (Ev.pos (by omega) ?_))
    rw [wrap_id (by omega) (by omega), rd_nat a i (by omega), rd_nat b i (by omega), List.drop_eq_getElem_cons (l := a) (by omega), List.drop_eq_getElem_cons (l := b) (by omega)]
    by_cases e : a[i] = b[i]
    · refine Ev.pos e ?_
      have := eqIntS_l0 a b h hl d (i + 1) (by omega)
      simp only [List.cons.injEq, e, true_and]
      exact_mod_cast this
    · refine Ev.neg e (Ev.const ?_)
      rw [decide_eq_false (fun h' => e (List.cons.inj h').1)]
theorem eqIntS_ev (a b : List Int) (hl : a.length ≤ 9223372036854775806) : Ev (fun k => laws_eqIntS.f k a b) (decide (a = b)) := by
  unfold laws_eqIntS.f
  by_cases h : a.length = b.length
  · refine Ev.pos (by omega) ?_
    exact eqIntS_l0 a b h hl a.length 0 (by omega)
  · refine Ev.neg (by omega) (Ev.const ?_)
    have : a ≠ b := fun e => h (by rw [e])
    simp [this]
end Go.Proofs.Ytlkpilmcakeadaa

namespace Go.Proofs.Ytlkpilmcakeadaa
open Go.RowKit Go.Proofs.Ytlkpilmcakeadaa.P Go.Proofs.YtlkpilmcakeadaaW.PrintWords
theorem szScheme_eq (m : Int) (l : List Int) (h : l.length ≤ 9223372036854775807) : laws_szScheme.f m l 1048576 = some (if l.length ≤ 1048576 then 1048576 - (l.length : Int) else -1) := by
  unfold laws_szScheme.f
  rw [szIntS_eq l h]
  simp only [Option.bind_some]
  by_cases c : l.length ≤ 1048576
  · rw [if_pos c, if_neg (by omega)]
  · rw [if_neg c, if_pos (by omega)]
theorem toScheme_ev (m : Int) (l : List Int) (h : l.length ≤ 1048576) : Ev (fun k => laws_toScheme.f k m l) (m, l) := by
  unfold laws_toScheme.f
  exact Ev.bind (toIntS_ev l h) (Ev.now _)
theorem eqScheme_ev (m : Int) (l : List Int) (h : l.length ≤ 1048576) : Ev (fun k => laws_eqScheme.f k m l m l) true := by
  unfold laws_eqScheme.f
  refine Ev.pos rfl (Ev.bind (eqIntS_ev l l (by omega)) ?_)
  simp only [decide_true, if_true]
  exact Ev.now _
theorem l1In_eq (n a b : Int) : spec_l1In.f n a b = some (decide (a ≤ n) && decide (n ≤ b)) := by
  unfold spec_l1In.f
  by_cases h : a ≤ n
  · rw [if_pos h]; simp [h]
  · rw [if_neg h]; simp [h]
theorem l1All_l0 (lo hi : Int) (l : List Int) (hl : l.length ≤ 9223372036854775806) : ∀ (d i : Nat), i + d = l.length → Ev (fun k => spec_l1All.l0 k lo hi l (l.length : Int) i) ((l.drop i).all fun x => decide (lo ≤ x) && decide (x ≤ hi))
  | 0, i, hi => by
    apply Ev.succ
    simp only [spec_l1All.l0]
    refine Ev.neg (by omega) (Ev.const ?_)
    rw [List.drop_of_length_le (by omega)]; rfl
  | d + 1, i, he => by
    apply Ev.succ
    simp only [spec_l1All.l0]
    refine Ev.pos (by omega) (Ev.pos (by omega) (Ev.pos (by omega) (Ev.bindc (l1In_eq _ _ _) ?_)))
    rw [wrap_id (by omega) (by omega), rd_nat l i (by omega), List.drop_eq_getElem_cons (l := l) (by omega), List.all_cons]
    cases hc : (decide (lo ≤ l[i]) && decide (l[i] ≤ hi)) with
    | true =>
      refine Ev.pos rfl ?_
      have := l1All_l0 lo hi l hl d (i + 1) (by omega)
      simp only [Bool.true_and]
      exact_mod_cast this
    | false => exact Ev.neg (by decide) (Ev.now _)
theorem l1All_ev (lo hi : Int) (l : List Int) (hl : l.length ≤ 9223372036854775806) : Ev (fun k => spec_l1All.f k l lo hi) (l.all fun x => decide (lo ≤ x) && decide (x ≤ hi)) := by
  unfold spec_l1All.f
  exact l1All_l0 lo hi l hl l.length 0 (by omega)
/-- Is a scheme right? -/
def goodB (m : Int) (l : List Int) : Bool := decide (2 ≤ m) && decide (m ≤ 13) && (decide (1 ≤ l.length) && decide (l.length ≤ 12)) && l.all fun x => decide (0 ≤ x) && decide (x ≤ m - 1)
theorem ckGood_ev (m : Int) (l : List Int) (hl : l.length ≤ 1048576) : Ev (fun k => spec_ckGood.f k m l) (goodB m l) := by
  unfold spec_ckGood.f goodB
  refine Ev.bindc (l1In_eq _ _ _) ?_
  cases h1 : (decide (2 ≤ m) && decide (m ≤ 13)) with
  | false => exact Ev.neg (by decide) (Ev.now _)
  | true =>
    refine Ev.pos rfl (Ev.bindc (l1In_eq _ _ _) ?_)
    have hm : 2 ≤ m ∧ m ≤ 13 := by simpa using h1
    have e : (decide ((1 : Int) ≤ (l.length : Int)) && decide ((l.length : Int) ≤ 12)) = (decide (1 ≤ l.length) && decide (l.length ≤ 12)) := by
      congr 1 <;> (rw [decide_eq_decide]; omega)
    rw [e]
    cases h2 : (decide (1 ≤ l.length) && decide (l.length ≤ 12)) with
    | false => exact Ev.neg (by decide) (Ev.now _)
    | true =>
      refine Ev.pos rfl (Ev.bind (l1All_ev _ _ l (by omega)) ?_)
      rw [wrap_id (by omega) (by omega)]
      simp only [Bool.true_and]
      exact Ev.now _
theorem implIsScheme_good (m : Int) (l : List Int) : impl_IsScheme.f m l = some (goodB m l) := by
  unfold impl_IsScheme.f goodB
  by_cases h1 : 2 ≤ m ∧ m ≤ 13
  · rw [wrap_id (by omega) (by omega)]
    congr 1
    rw [← Bool.and_assoc (decide (2 ≤ m) && decide (m ≤ 13))]
    congr 1
    rw [List.not_any_eq_all_not]
    simp
  · have : (decide (2 ≤ m) && decide (m ≤ 13)) = false := by
      rw [Bool.and_eq_false_iff]; simp only [decide_eq_false_iff_not]; omega
    simp [this]
end Go.Proofs.Ytlkpilmcakeadaa

namespace Go.Proofs.Ytlkpilmcakeadaa
open Go.RowKit Go.Proofs.Ytlkpilmcakeadaa.P Go.Proofs.YtlkpilmcakeadaaW.PrintWords
set_option linter.unusedSimpArgs false
set_option linter.unusedVariables false
/-! The two digits that a weight misses: both sides' lists. -/
/-- All two digits whose difference, times a number, is divided. -/
def tabM (M n : Int) : List (List Int) := (impl_pairsOf.f 200 (missedO M n)).getD []
theorem tabM_some : ∀ M : Fin 14, ∀ n : Fin 13, 2 ≤ M.val → impl_pairsOf.f 200 (missedO M.val n.val) = some (tabM M.val n.val) := by decide +kernel
theorem ckM_pos : ∀ M : Fin 14, ∀ n : Fin 13, 2 ≤ M.val → spec_ckMissed.f 200 (n.val : Int) M.val = some (tabM M.val n.val) := by decide +kernel
theorem ckM_neg : ∀ M : Fin 14, ∀ n : Fin 13, 2 ≤ M.val → spec_ckMissed.f 200 (-(n.val : Int)) M.val = some (tabM M.val n.val) := by decide +kernel
theorem missed_ev (M n : Int) (l : List Int) (h1 : 2 ≤ M) (h2 : M ≤ 13) (h3 : 0 ≤ n) (h4 : n ≤ 12) : Ev (fun k => impl_Scheme_missed.f k M l n) (tabM M n) := by
  refine Ev.of (k := 200) (impl_Scheme_missed.mono _ _ _) ?_
  have := tabM_some ⟨M.toNat, by omega⟩ ⟨n.toNat, by omega⟩ (by show 2 ≤ M.toNat; omega)
  simp only [Int.toNat_of_nonneg (show 0 ≤ M by omega), Int.toNat_of_nonneg h3] at this
  exact this
theorem ckMissed_ev (M d : Int) (h1 : 2 ≤ M) (h2 : M ≤ 13) (h3 : -12 ≤ d) (h4 : d ≤ 12) : Ev (fun k => spec_ckMissed.f k d M) (tabM M d.natAbs) := by
  refine Ev.of (k := 200) (spec_ckMissed.mono _ _) ?_
  by_cases c : 0 ≤ d
  · have := ckM_pos ⟨M.toNat, by omega⟩ ⟨d.toNat, by omega⟩ (by show 2 ≤ M.toNat; omega)
    simp only [Int.toNat_of_nonneg (show 0 ≤ M by omega), Int.toNat_of_nonneg c] at this
    rw [show ((d.natAbs : Nat) : Int) = d by omega]
    exact this
  · have := ckM_neg ⟨M.toNat, by omega⟩ ⟨d.natAbs, by omega⟩ (by show 2 ≤ M.toNat; omega)
    simp only [Int.toNat_of_nonneg (show 0 ≤ M by omega)] at this
    rw [show -((d.natAbs : Nat) : Int) = d by omega] at this
    exact this
theorem good_of {m : Int} {l : List Int} (h : goodB m l = true) : 2 ≤ m ∧ m ≤ 13 ∧ 1 ≤ l.length ∧ l.length ≤ 12 ∧ ∀ x ∈ l, 0 ≤ x ∧ x ≤ m - 1 := by
  unfold goodB at h
  simp only [Bool.and_eq_true, decide_eq_true_eq, List.all_eq_true] at h
  exact ⟨h.1.1.1, h.1.1.2, h.1.2.1, h.1.2.2, fun x hx => h.2 x hx⟩
end Go.Proofs.Ytlkpilmcakeadaa

/- FnExactMissedSingles: both sides tell the same table, it is one of the call's own, and the scheme is left as it was: over the functions that the walk computes. -/
namespace Go.Proofs.Ytlkpilmcakeadaa
open Go.RowKit Go.Proofs.Ytlkpilmcakeadaa.P Go.Proofs.YtlkpilmcakeadaaW.PrintWords
set_option linter.unusedSimpArgs false
set_option linter.unusedVariables false
namespace MissedSingles
theorem in_eq (n a b : Int) : impl_in.f n a b = some (decide (a ≤ n) && decide (n ≤ b)) := by
  unfold impl_in.f
  by_cases h : a ≤ n
  · rw [if_pos h]; simp [h]
  · rw [if_neg h]; simp [h]
/-- A table that is equal to itself, and whose marks are found again. -/
def okT (t : List (List Int)) : Bool := (laws_eqIntSS.f 200 t t == some true) && (match laws_markIntSS.f 200 t 1 with
  | some (q, t') => decide (0 ≤ q) && (laws_heldIntSS.f 200 t' 1 == some q)
  | none => false)
set_option maxRecDepth 100000 in
theorem ok_tab : ∀ M : Fin 14, ∀ n : Fin 13, 2 ≤ M.val → okT (tabM M.val n.val) = true := by decide +kernel
theorem ok_nil : okT [] = true := by decide +kernel
theorem okT_ev {t : List (List Int)} (h : okT t = true) : Ev (fun k => laws_eqIntSS.f k t t) true ∧ ∃ q t', 0 ≤ q ∧ Ev (fun k => laws_markIntSS.f k t 1) (q, t') ∧ Ev (fun k => laws_heldIntSS.f k t' 1) q := by
  unfold okT at h
  rw [Bool.and_eq_true] at h
  refine ⟨Ev.of (k := 200) (laws_eqIntSS.mono _ _) (by simpa using h.1), ?_⟩
  have h2 := h.2
  split at h2
  · rename_i q t' e
    rw [Bool.and_eq_true, decide_eq_true_eq] at h2
    exact ⟨q, t', h2.1, Ev.of (k := 200) (laws_markIntSS.mono _ _) e, Ev.of (k := 200) (laws_heldIntSS.mono _ _) (by simpa using h2.2)⟩
  · cases h2
theorem mark_l0 : ∀ (d i : Nat) (l : List Int), i + d = l.length → l.length ≤ 1048576 → ∃ l', Ev (fun k => laws_markIntS.l0 k l ((i : Int) + 1) i) ((l.length : Int) + 1, l')
  | 0, i, l, hi, c => ⟨l, by
    apply Ev.succ
    simp only [laws_markIntS.l0]
    refine Ev.neg (by omega) (Ev.const ?_)
    rw [show i = l.length by omega]⟩
  | d + 1, i, l, hi, c => by
    obtain ⟨l', h⟩ := mark_l0 d (i + 1) (l.set i ((i : Int) + 1)) (by rw [List.length_set]; omega) (by rw [List.length_set]; omega)
    refine ⟨l', ?_⟩
    rw [List.length_set] at h
    apply Ev.succ
    simp only [laws_markIntS.l0]
    refine Ev.pos (by omega) (Ev.pos (by omega) ?_)
    rw [wrap_id (n := (i : Int) + 1 + 1) (by omega) (by omega), wrap_id (n := (i : Int) + 1) (by omega) (by omega), Int.toNat_natCast]
    exact_mod_cast h
theorem markScheme_ev (m : Int) (l : List Int) (c : l.length ≤ 1048576) : ∃ l', Ev (fun k => laws_markScheme.f k m l 1) ((l.length : Int) + 1, l') := by
  obtain ⟨l', h⟩ := mark_l0 l.length 0 l (by omega) c
  refine ⟨l', ?_⟩
  unfold laws_markScheme.f
  refine Ev.bind (a := ((l.length : Int) + 1, l')) ?_ (Ev.now _)
  unfold laws_markIntS.f
  exact_mod_cast h
theorem both_ev (m : Int) (l : List Int) (a : Int) (c : l.length ≤ 1048576) : ∃ (t : List (List Int)) (b : Bool), okT t = true ∧ Ev (fun k => spec_MissedSingles.f k m l a) (t, b) ∧ Ev (fun k => impl_MissedSingles.f k m l a) (t, b) := by
  unfold spec_MissedSingles.f impl_MissedSingles.f
  cases hg : goodB m l with
  | false =>
    refine ⟨[], false, ok_nil, ?_, ?_⟩
    · refine Ev.bind (ckGood_ev m l c) ?_
      rw [hg]; exact Ev.no (Ev.now _)
    · refine Ev.bindc (implIsScheme_good m l) ?_
      rw [hg]; exact Ev.no (Ev.now _)
  | true =>
    obtain ⟨h1, h2, h3, h4, hx⟩ := good_of hg
    have ew : wrap64 ((l.length : Int) - 1) = (l.length : Int) - 1 := wrap_id (by omega) (by omega)
    cases hn : (decide (0 ≤ a) && decide (a ≤ (l.length : Int) - 1)) with
    | false =>
      refine ⟨[], false, ok_nil, ?_, ?_⟩
      · refine Ev.bind (ckGood_ev m l c) ?_
        rw [hg]
        refine Ev.yes (Ev.bindc (x := false) (by rw [l1In_eq, ew, hn]) (Ev.no (Ev.now _)))
      · refine Ev.bindc (implIsScheme_good m l) ?_
        rw [hg]
        refine Ev.yes (Ev.bindc (x := false) (by rw [in_eq, ew, hn]) (Ev.no (Ev.now _)))
    | true =>
      have hn' := hn
      rw [Bool.and_eq_true, decide_eq_true_eq, decide_eq_true_eq] at hn'
      obtain ⟨i, rfl⟩ : ∃ i : Nat, a = (i : Int) := ⟨a.toNat, by omega⟩
      have hi : i < l.length := by omega
      have hb := hx _ (List.getElem_mem hi)
      have er : rd l (i : Int) = l[i] := rd_nat l i hi
      have e := ckMissed_ev m l[i] h1 h2 (by omega) (by omega)
      rw [show ((l[i].natAbs : Nat) : Int) = l[i] by omega] at e
      refine ⟨tabM m l[i], true, ?_, ?_, ?_⟩
      · have := ok_tab ⟨m.toNat, by omega⟩ ⟨l[i].toNat, by omega⟩ (by show 2 ≤ m.toNat; omega)
        simp only [Int.toNat_of_nonneg (show 0 ≤ m by omega), Int.toNat_of_nonneg hb.1] at this
        exact this
      · refine Ev.bind (ckGood_ev m l c) ?_
        rw [hg]
        refine Ev.yes (Ev.bindc (x := true) (by rw [l1In_eq, ew, hn]) (Ev.yes (Ev.pos (by omega) (Ev.pos (by omega) ?_))))
        rw [er]
        exact Ev.bind e (Ev.now _)
      · refine Ev.bindc (implIsScheme_good m l) ?_
        rw [hg]
        refine Ev.yes (Ev.bindc (x := true) (by rw [in_eq, ew, hn]) (Ev.yes (Ev.pos (by omega) (Ev.pos (by omega) ?_))))
        rw [er]
        exact Ev.bind (missed_ev m l[i] l h1 h2 (by omega) (by omega)) (Ev.now _)
end MissedSingles
open MissedSingles in
theorem pure_FnExactMissedSingles : PureFnExactMissedSingles := by
  intro m l a _ hl _
  refine Ev.rounds (g := fun k => laws_FnExactMissedSingles.f k m l a) ?_
  unfold laws_FnExactMissedSingles.f
  refine Ev.bindc (szScheme_eq m l hl.1) ?_
  by_cases c : l.length ≤ 1048576
  · rw [if_pos c]
    obtain ⟨t, b, hok, hs, hi⟩ := both_ev m l a c
    obtain ⟨heq, q, t', hq, hm, hh⟩ := okT_ev hok
    obtain ⟨l', hml⟩ := markScheme_ev m l c
    refine Ev.neg (by omega) (Ev.bind (toScheme_ev m l c) (Ev.bind hs (Ev.bind (toScheme_ev m l c) (Ev.bind hi (Ev.bind heq ?_)))))
    refine Ev.pos rfl (Ev.succ ?_)
    simp only [laws_FnExactMissedSingles.j0]
    refine Ev.neg (by simp) (Ev.bind (toScheme_ev m l c) (Ev.bind (eqScheme_ev m l c) (Ev.pos rfl (Ev.bind hml (Ev.neg (by show ¬ ((l.length : Int) + 1 < 0); omega) (Ev.bind heq (Ev.pos rfl (Ev.succ ?_))))))))
    simp only [laws_FnExactMissedSingles.j1]
    refine Ev.neg (by simp) (Ev.bind hm (Ev.bind hh (Ev.neg (by omega) (Ev.pos rfl (Ev.bind (toScheme_ev m l c) (Ev.bind hi (Ev.bind heq (Ev.pos rfl (Ev.succ ?_)))))))))
    simp only [laws_FnExactMissedSingles.j2]
    exact Ev.neg (by simp) (Ev.bind hh (Ev.neg (by omega) (Ev.pos rfl (Ev.now _))))
  · rw [if_neg c]
    exact Ev.pos (by omega) (Ev.now _)
end Go.Proofs.Ytlkpilmcakeadaa

namespace Go.Proofs.Ytlkpilmcakeadaa
open Go.RowKit Go.Proofs.YtlkpilmcakeadaaW.PrintWords Go.ChangeShapes Go.WideShapes

theorem C_scalar {α : Type} {enc : α → Value} {h1 : ∀ x, (enc x).oneCell' = true} {w : World} {A : Option Addr} {l : List α} (hn : l.length ≤ 9223372036854775807)
    (hcell : 0 < l.length → ∃ ad, A = some ad ∧ ∀ j x, l[j]? = some x → w.cell? (ad.add j) = some (enc x)) : (Kd.scalar enc h1).C w A l.length l := by
  refine ⟨rfl, hn, fun hp => ?_⟩
  obtain ⟨ad, hA, hc⟩ := hcell hp
  refine ⟨ad, hA, fun j x hx => ⟨[enc x], rfl, rfl, fun i u hu => ?_⟩⟩
  match i, hu with
  | 0, hu =>
    have : enc x = u := by simpa using hu
    subst this
    show w.cell? (ad.add (j * 1 + 0)) = _
    rw [Nat.mul_one, Nat.add_zero]
    exact hc j x hx
  | i + 1, hu => simp at hu

section
variable {H : Type} {enc : TypeId × Value → H} {P : Program} {w : World} {base : Nat} {spare : Nat → Bool} {held : Bool}

/-- A cell that reads at a slice of whole numbers. -/
theorem read_ints {t e : TypeId} {k : IntKind} {fuel : Nat} {v : Value} {y : DataW H × List MemPlace} (ht : P.underlying t = some (.slice e)) (he : P.underlying e = some (.int k)) (hc : P.cellsOf e = 1)
    (hf : DataW.trod enc P w base spare held fuel t [v] = some y) :
    ∃ (A : Option Addr) (c : Nat) (l : List Int), v = .slice A l.length c ∧ l.length ≤ c ∧ (∀ x ∈ l, (Lit.int k x).wf = true) ∧ (Kd.int k).C w A l.length l := by
  rcases open_ints ht he hc hf with ⟨hcs, _⟩ | ⟨a, len, cap, zs, hcs, _, hl, hm, hz, _, hcell, hwf⟩
  · obtain rfl : v = .slice none 0 0 := by simpa using hcs
    exact ⟨none, 0, [], rfl, Nat.le_refl _, fun x hx => by simp at hx, rfl, by simp, fun h => absurd h (by simp)⟩
  · obtain rfl : v = .slice (some a) len cap := by simpa using hcs
    have hlz : len ≤ zs.length := by rw [hz]; split <;> omega
    have hlen : (zs.take len).length = len := by rw [List.length_take]; omega
    refine ⟨some a, cap, zs.take len, by rw [hlen], by rw [hlen]; exact hl, fun x hx => hwf x (List.mem_of_mem_take hx), ?_⟩
    refine C_scalar (by rw [hlen]; unfold maxLen at hm; omega) (fun hp => ⟨a, rfl, fun j x hj => ?_⟩)
    have hj' : j < len := by have := (List.getElem?_eq_some_iff.1 hj).1; rw [hlen] at this; exact this
    rw [hcell j (by omega)]
    rw [List.getElem?_take_of_lt hj'] at hj
    rw [List.getD_eq_getElem?_getD, hj]; rfl

/-- A cell that reads at a slice of strings. -/
theorem read_strs {t e : TypeId} {fuel : Nat} {v : Value} {y : DataW H × List MemPlace} (ht : P.underlying t = some (.slice e)) (he : P.underlying e = some .string) (hc : P.cellsOf e = 1)
    (hf : DataW.trod enc P w base spare held fuel t [v] = some y) :
    ∃ (A : Option Addr) (c : Nat) (l : List ByteArray), v = .slice A l.length c ∧ l.length ≤ c ∧ (∀ s ∈ l, s.size ≤ 9223372036854775807) ∧ Kd.string.C w A l.length l := by
  rcases open_strings ht he hc hf with ⟨hcs, _⟩ | ⟨a, len, cap, zs, hcs, _, hl, hm, hz, _, hcell, hwf⟩
  · obtain rfl : v = .slice none 0 0 := by simpa using hcs
    exact ⟨none, 0, [], rfl, Nat.le_refl _, fun x hx => by simp at hx, rfl, by simp, fun h => absurd h (by simp)⟩
  · obtain rfl : v = .slice (some a) len cap := by simpa using hcs
    have hlz : len ≤ zs.length := by rw [hz]; split <;> omega
    have hlen : (zs.take len).length = len := by rw [List.length_take]; omega
    refine ⟨some a, cap, zs.take len, by rw [hlen], by rw [hlen]; exact hl, fun x hx => by have := hwf x (List.mem_of_mem_take hx); unfold maxLen at this; omega, ?_⟩
    refine C_scalar (by rw [hlen]; unfold maxLen at hm; omega) (fun hp => ⟨a, rfl, fun j x hj => ?_⟩)
    have hj' : j < len := by have := (List.getElem?_eq_some_iff.1 hj).1; rw [hlen] at this; exact this
    rw [hcell j (by omega)]
    rw [List.getElem?_take_of_lt hj'] at hj
    rw [List.getD_eq_getElem?_getD, hj]; rfl

theorem read_int {t : TypeId} {k : IntKind} {fuel : Nat} {v : Value} {y : DataW H × List MemPlace} (ht : P.underlying t = some (.int k))
    (hf : DataW.trod enc P w base spare held fuel t [v] = some y) : ∃ n : Int, v = .int k n ∧ (Lit.int k n).wf = true := by
  obtain ⟨n, e1, _, h⟩ := DataW.trod_int ht hf
  exact ⟨n, by simpa using e1, h⟩
end

/-- The cells of a datum that holds numbers alone, an array's elements being numbers or structs of numbers. -/
def litsOf : DataW Unit → List Value
  | .lit (.int k n) => [.int k n]
  | .agg l => l.flatMap fun
    | .lit (.int k n) => [.int k n]
    | .agg l2 => l2.flatMap fun
      | .lit (.int k n) => [.int k n]
      | _ => []
    | _ => []
  | _ => []
end Go.Proofs.Ytlkpilmcakeadaa

/- FnExactMissedSinglesSaid: the law 'FnExactMissedSingles' answers true for every input, and leaves its arguments as they were. The row, over the walk of its calls and the pure statement. -/
namespace Go.Proofs.Ytlkpilmcakeadaa.fnExactMissedSingles
open Go.ChangeShapes Go.WideShapes Go.ChangeAt Go.RowKit Go.Proofs.Ytlkpilmcakeadaa.P Go.Proofs.YtlkpilmcakeadaaW.PrintWords
open Go.ChangeMaps (open_string shut_string)
set_option linter.unusedVariables false
theorem own : ownKnob Try.prog.godebug = none := by kernel_rfl
theorem laidOut : laidOutB Try.prog = true := by kernel_rfl
set_option maxRecDepth 100000 in
theorem lifted (os : Os) (started : os.Started) (H : Type) (enc : TypeId × Value → H) :
    ReturnsInHanded {} Try.checked os 7 .any (Rows.fnExactMissedSinglesSpec.pre6 enc Try.prog Try.f7 Rows.fnExactMissedSinglesRow.domain false) (Rows.fnExactMissedSinglesSpec.post enc Try.prog Try.f7 false true false false) := by
  refine returnsInHanded_of_change_sized (C := Try.checked) own started (by kernel_rfl) Try.func7
    (ChangeSpec.witness6 (enc := enc) (C := Try.checked) false ⟨#[], #[.agg #[.int .i64 0, .slice none 0 0], .int .i64 0], []⟩ 8 (by kernel_rfl) (by kernel_rfl) (by kernel_rfl) (by kernel_rfl)) ?_
  intro W base args ds gs before hval0 hW hcnd hsz0 _
  have hval : ∀ (j : Nat) t v, Try.f7.params[j]? = some t → args[j]? = some v → Value.okWide Try.prog W .any base t v := hval0
  have hW' := hW
  obtain ⟨p, q, hA0, hV, rfl, hfz, hnd⟩ := hW
  have hA : DataW.TrodAll enc Try.prog W 0 (fun _ => true) true Try.f7.params.toList args.toList ds p := hA0
  rw [Try.params7] at hA hval
  obtain ⟨v0, vs0, d0, ds0, p0, q0, hargs, rfl, rfl, h0, r0⟩ := trodAll_cons hA
  obtain ⟨v1, vs1, d1, ds1, p1, q1, rfl, rfl, rfl, h1, r1⟩ := trodAll_cons r0
  obtain ⟨rfl, rfl, rfl⟩ := trodAll_nil r1
  obtain rfl : args = #[v0, v1] := by cases args; simp_all
  obtain ⟨rfl, rfl⟩ := trodVars_none hV
  have k0 := h0
  have lt0 : ∀ x ∈ p0, x.block < W.heap.size := by obtain ⟨m, hm⟩ := k0; exact DataW.trod_lt m _ _ _ hm
  obtain ⟨v0_0, v0_1, y0_0, y0_1, n0, rfl, rfl, rfl, g0_0, g0_1⟩ := Go.Joins.open_agg2 Try.underlying29 (by kernel_rfl) (by kernel_rfl) (hval 0 29 v0 rfl rfl) h0
  obtain ⟨a0_0, rfl, w0_0⟩ := read_int Try.underlying3 g0_0
  obtain ⟨A0_1, c0_1, l0_1, rfl, hc0_1, hw0_1, hr0_1⟩ := read_ints Try.underlying27 Try.underlying3 (by kernel_rfl) g0_1
  obtain ⟨a1, rfl, rfl, rfl, w1⟩ := open_int Try.underlying3 (hval 1 3 v1 rfl rfl) h1
  clear hA0 hval0
  obtain ⟨k, hk⟩ := pure_FnExactMissedSingles a0_0 l0_1 a1 w0_0 ⟨hr0_1.2.1, hw0_1⟩ w1
  refine (laws_FnExactMissedSingles.calls k a0_0 A0_1 c0_1 l0_1 a1 true W hr0_1 hc0_1 hk).mono fun e W' ⟨he, bel0⟩ => ?_
  have bel : Below W.heap.size W W' := bel0
  subst he
  exact ⟨_, rfl, _, _, _, [], _, [], hW', trodAll_mk1 (shut_bool Try.underlying4 _), (trodAll_cons_mk (Below.trod laidOut (by kernel_rfl) (of_decide_eq_true (by kernel_rfl)) k0 bel lt0) (trodAll_cons_mk (shut_int Try.underlying3 w1) trodAll_mk0)), rfl, bel.frame _, fun h => by cases h⟩
theorem over : Rows.fnExactMissedSinglesRow.holds Try.pinned (OpenSpec.ofChange Rows.fnExactMissedSinglesSpec) :=
  OpenClaim.holds_of_wide 7 Try.f7 rfl rfl rfl rfl rfl rfl rfl ⟨rfl, rfl, rfl, rfl, rfl⟩ rfl rfl rfl rfl rfl (by kernel_rfl) Try.func7 (by kernel_rfl)
    (of_decide_eq_true (by kernel_rfl)) (by unfold Func.isWrapper; first | (rw [if_pos (by decide +kernel)]; kernel_rfl) | (rw [if_neg (by decide +kernel)]; exact ⟨rfl, rfl⟩))
    (fun os started H enc _ => lifted os started H enc)
theorem proved : Rows.FnExactMissedSinglesSaid := over
#print axioms proved
end Go.Proofs.Ytlkpilmcakeadaa.fnExactMissedSingles
namespace Go.Proofs.Ytlkpilmcakeadaa
theorem fnExactMissedSingles_holds : Rows.FnExactMissedSinglesSaid := fnExactMissedSingles.proved
end Go.Proofs.Ytlkpilmcakeadaa

