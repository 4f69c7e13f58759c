/- Part 3 of 3 of the proof of: FnExactNearestWordsCardSaid: the law 'FnExactNearestWords' answers true for every input, and leaves its arguments as they were. The row and its tied card, over the walk of its calls and the pure statement. -/
import Derived.Test.YtamhlbdjjfdbiaaDoorMFnExactNearestWords1
import Derived.Test.YtamhlbdjjfdbiaaDoorMFnExactNearestWords2
import Derived.Test.YtamhlbdjjfdbiaaDoorWWords
import Derived.Test.YtamhlbdjjfdbiaaDoorWMore
import Derived.Laws.Strings
import Derived.Lib.SlTrimSet
import Derived.Lib.Bytealg
import Derived.WalkKit
import Derived.ProofKit
import Derived.OpenShut
import Derived.ShutString
import Derived.ChangeOld
import Derived.Below
import Derived.SizedLaws
import Derived.ChangeSlices
import Derived.SliceStrings
import Derived.Lib.SmallJoins
import Derived.LaidLaws
import Derived.LaidHandle
import Derived.LaidMore
import Derived.Test.YtamhlbdjjfdbiaaDoorRows
import Derived.Test.YtamhlbdjjfdbiaaDoorCards
import Derived.Test.YtamhlbdjjfdbiaaDoorTie
import Derived.Handed
import Derived.SevenTiedAt
import Derived.Stop.Joined
-- printed by xprint.py
namespace Go.Proofs.YtamhlbdjjfdbiaaDoor.P
open Go.RowKit Go.Proofs.YtamhlbdjjfdbiaaDoorW.PrintWords Go.Proofs.YtamhlbdjjfdbiaaDoorW.PrintLast Go.Proofs.YtamhlbdjjfdbiaaDoorW.PrintMore
attribute [local go_sem] max2_int min2_int max_two min_two max_three min_three max_four min_four   -- for this text's walks alone
set_option linter.unusedVariables false
set_option linter.unusedSimpArgs false

/-! ### laws_FnExactNearestWords: function 11 -/
mutual
def laws_FnExactNearestWords.j0 : Nat → List ByteArray → ByteArray → List ByteArray → Int → Bool → List ByteArray → List ByteArray → Int → Bool → Bool → Option (Bool)
 | 0, _, _, _, _, _, _, _, _, _, _ => none
 | k + 1, x0, x1, x6, x7, x8, x9, x10, x11, x12, x57 => if x57 = true then (some false) else ((laws_toStringS.f k x0).bind fun t119 => ((laws_eqStringS.f k x9 t119).bind fun t122 => (if t122 = true then ((laws_markStringS.f k x9 1).bind fun bt123 => (if bt123.1 < 0 then (laws_FnExactNearestWords.j1 k x0 x1 x6 x7 x8 x10 true) else ((laws_eqStringS.f k x10 x6).bind fun t125 => (if t125 = true then (if x11 = x7 then (laws_FnExactNearestWords.j1 k x0 x1 x6 x7 x8 x10 (x12 != x8)) else (laws_FnExactNearestWords.j1 k x0 x1 x6 x7 x8 x10 true)) else (laws_FnExactNearestWords.j1 k x0 x1 x6 x7 x8 x10 true))))) else (some false))))
def laws_FnExactNearestWords.j1 : Nat → List ByteArray → ByteArray → List ByteArray → Int → Bool → List ByteArray → Bool → Option (Bool)
 | 0, _, _, _, _, _, _, _ => none
 | k + 1, x0, x1, x6, x7, x8, x10, x83 => if x83 = true then (some false) else ((laws_markStringS.f k x10 1).bind fun bt126 => ((laws_heldStringS.f k bt126.2 1).bind fun t128 => (if t128 < 0 then (some false) else (if t128 = bt126.1 then ((laws_toStringS.f k x0).bind fun t129 => ((impl_NearestWords.f k t129 x1).bind fun bt132 => ((laws_eqStringS.f k bt132.1 x6).bind fun t137 => (if t137 = true then (if bt132.2.1 = x7 then (laws_FnExactNearestWords.j2 k bt126.2 bt126.1 (bt132.2.2 != x8)) else (laws_FnExactNearestWords.j2 k bt126.2 bt126.1 true)) else (laws_FnExactNearestWords.j2 k bt126.2 bt126.1 true))))) else (some false)))))
def laws_FnExactNearestWords.j2 : Nat → List ByteArray → Int → Bool → Option (Bool)
 | 0, _, _, _ => none
 | k + 1, x10, x14, x116 => if x116 = true then (some false) else ((laws_heldStringS.f k x10 1).bind fun t138 => (if t138 < 0 then (some false) else (if t138 = x14 then (some true) else (some false))))
end
def laws_FnExactNearestWords.f (k : Nat) (l0 : List ByteArray) (a1 : ByteArray) : Option (Bool) := if (a1.size : Int) > 1048576 then (some true) else ((laws_szStringS.f k l0 1048576).bind fun t101 => (if t101 < 0 then (some true) else ((laws_toStringS.f k l0).bind fun t102 => ((spec_NearestWords.f k t102 a1).bind fun bt105 => ((laws_toStringS.f k l0).bind fun t110 => ((impl_NearestWords.f k t110 a1).bind fun bt113 => ((laws_eqStringS.f k bt113.1 bt105.1).bind fun t118 => (if t118 = true then (if bt113.2.1 = bt105.2.1 then (laws_FnExactNearestWords.j0 k l0 a1 bt105.1 bt105.2.1 bt105.2.2 t110 bt113.1 bt113.2.1 bt113.2.2 (bt113.2.2 != bt105.2.2)) else (laws_FnExactNearestWords.j0 k l0 a1 bt105.1 bt105.2.1 bt105.2.2 t110 bt113.1 bt113.2.1 bt113.2.2 true)) else (laws_FnExactNearestWords.j0 k l0 a1 bt105.1 bt105.2.1 bt105.2.2 t110 bt113.1 bt113.2.1 bt113.2.2 true)))))))))
theorem laws_FnExactNearestWords.mono_l : ∀ k, (∀ y0 y1 y2 y3 y4 y5 y6 y7 y8 y9, LeO (laws_FnExactNearestWords.j0 k y0 y1 y2 y3 y4 y5 y6 y7 y8 y9) (laws_FnExactNearestWords.j0 (k + 1) y0 y1 y2 y3 y4 y5 y6 y7 y8 y9)) ∧ (∀ y0 y1 y2 y3 y4 y5 y6, LeO (laws_FnExactNearestWords.j1 k y0 y1 y2 y3 y4 y5 y6) (laws_FnExactNearestWords.j1 (k + 1) y0 y1 y2 y3 y4 y5 y6)) ∧ (∀ y0 y1 y2, LeO (laws_FnExactNearestWords.j2 k y0 y1 y2) (laws_FnExactNearestWords.j2 (k + 1) y0 y1 y2))
 | 0 => ⟨by intros; intro r h; simp [laws_FnExactNearestWords.j0] at h, by intros; intro r h; simp [laws_FnExactNearestWords.j1] at h, by intros; intro r h; simp [laws_FnExactNearestWords.j2] at h⟩
 | k + 1 => by
  obtain ⟨ih0, ih1, ih2⟩ := laws_FnExactNearestWords.mono_l k
  refine ⟨?_, ?_, ?_⟩
  ·
   intro y0 y1 y2 y3 y4 y5 y6 y7 y8 y9
   unfold laws_FnExactNearestWords.j0
   repeat' first
   | (with_reducible exact ih0 _ _ _ _ _ _ _ _ _ _)
   | (with_reducible exact ih1 _ _ _ _ _ _ _)
   | (with_reducible exact ih2 _ _ _)
   | (with_reducible exact impl_NearestWords.mono _ _ _)
   | (with_reducible exact laws_eqStringS.mono _ _ _)
   | (with_reducible exact laws_heldStringS.mono _ _ _)
   | (with_reducible exact laws_markStringS.mono _ _ _)
   | (with_reducible exact laws_szStringS.mono _ _ _)
   | (with_reducible exact laws_toStringS.mono _ _)
   | (with_reducible exact spec_NearestWords.mono _ _ _)
   | (with_reducible exact LeO.refl _)
   | (with_reducible exact LeO.none _)
   | (with_reducible refine LeO.ite ?_ ?_)
   | (with_reducible refine LeO.bind ?_ (fun _ => ?_))
   | exact ih0 _ _ _ _ _ _ _ _ _ _
   | exact ih1 _ _ _ _ _ _ _
   | exact ih2 _ _ _
   | exact impl_NearestWords.mono _ _ _
   | exact laws_eqStringS.mono _ _ _
   | exact laws_heldStringS.mono _ _ _
   | exact laws_markStringS.mono _ _ _
   | exact laws_szStringS.mono _ _ _
   | exact laws_toStringS.mono _ _
   | exact spec_NearestWords.mono _ _ _
   | exact LeO.none _
   | refine LeO.ite ?_ ?_
   | refine LeO.bind ?_ (fun _ => ?_)
  ·
   intro y0 y1 y2 y3 y4 y5 y6
   unfold laws_FnExactNearestWords.j1
   repeat' first
   | (with_reducible exact ih0 _ _ _ _ _ _ _ _ _ _)
   | (with_reducible exact ih1 _ _ _ _ _ _ _)
   | (with_reducible exact ih2 _ _ _)
   | (with_reducible exact impl_NearestWords.mono _ _ _)
   | (with_reducible exact laws_eqStringS.mono _ _ _)
   | (with_reducible exact laws_heldStringS.mono _ _ _)
   | (with_reducible exact laws_markStringS.mono _ _ _)
   | (with_reducible exact laws_szStringS.mono _ _ _)
   | (with_reducible exact laws_toStringS.mono _ _)
   | (with_reducible exact spec_NearestWords.mono _ _ _)
   | (with_reducible exact LeO.refl _)
   | (with_reducible exact LeO.none _)
   | (with_reducible refine LeO.ite ?_ ?_)
   | (with_reducible refine LeO.bind ?_ (fun _ => ?_))
   | exact ih0 _ _ _ _ _ _ _ _ _ _
   | exact ih1 _ _ _ _ _ _ _
   | exact ih2 _ _ _
   | exact impl_NearestWords.mono _ _ _
   | exact laws_eqStringS.mono _ _ _
   | exact laws_heldStringS.mono _ _ _
   | exact laws_markStringS.mono _ _ _
   | exact laws_szStringS.mono _ _ _
   | exact laws_toStringS.mono _ _
   | exact spec_NearestWords.mono _ _ _
   | exact LeO.none _
   | refine LeO.ite ?_ ?_
   | refine LeO.bind ?_ (fun _ => ?_)
  ·
   intro y0 y1 y2
   unfold laws_FnExactNearestWords.j2
   repeat' first
   | (with_reducible exact ih0 _ _ _ _ _ _ _ _ _ _)
   | (with_reducible exact ih1 _ _ _ _ _ _ _)
   | (with_reducible exact ih2 _ _ _)
   | (with_reducible exact impl_NearestWords.mono _ _ _)
   | (with_reducible exact laws_eqStringS.mono _ _ _)
   | (with_reducible exact laws_heldStringS.mono _ _ _)
   | (with_reducible exact laws_markStringS.mono _ _ _)
   | (with_reducible exact laws_szStringS.mono _ _ _)
   | (with_reducible exact laws_toStringS.mono _ _)
   | (with_reducible exact spec_NearestWords.mono _ _ _)
   | (with_reducible exact LeO.refl _)
   | (with_reducible exact LeO.none _)
   | (with_reducible refine LeO.ite ?_ ?_)
   | (with_reducible refine LeO.bind ?_ (fun _ => ?_))
   | exact ih0 _ _ _ _ _ _ _ _ _ _
   | exact ih1 _ _ _ _ _ _ _
   | exact ih2 _ _ _
   | exact impl_NearestWords.mono _ _ _
   | exact laws_eqStringS.mono _ _ _
   | exact laws_heldStringS.mono _ _ _
   | exact laws_markStringS.mono _ _ _
   | exact laws_szStringS.mono _ _ _
   | exact laws_toStringS.mono _ _
   | exact spec_NearestWords.mono _ _ _
   | exact LeO.none _
   | refine LeO.ite ?_ ?_
   | refine LeO.bind ?_ (fun _ => ?_)
theorem laws_FnExactNearestWords.mono : ∀ y0 y1 k, LeO (laws_FnExactNearestWords.f k y0 y1) (laws_FnExactNearestWords.f (k + 1) y0 y1) := by
 intro y0 y1 k
 obtain ⟨ih0, ih1, ih2⟩ := laws_FnExactNearestWords.mono_l k
 unfold laws_FnExactNearestWords.f
 repeat' first
   | (with_reducible exact ih0 _ _ _ _ _ _ _ _ _ _)
   | (with_reducible exact ih1 _ _ _ _ _ _ _)
   | (with_reducible exact ih2 _ _ _)
   | (with_reducible exact impl_NearestWords.mono _ _ _)
   | (with_reducible exact laws_eqStringS.mono _ _ _)
   | (with_reducible exact laws_heldStringS.mono _ _ _)
   | (with_reducible exact laws_markStringS.mono _ _ _)
   | (with_reducible exact laws_szStringS.mono _ _ _)
   | (with_reducible exact laws_toStringS.mono _ _)
   | (with_reducible exact spec_NearestWords.mono _ _ _)
   | (with_reducible exact LeO.refl _)
   | (with_reducible exact LeO.none _)
   | (with_reducible refine LeO.ite ?_ ?_)
   | (with_reducible refine LeO.bind ?_ (fun _ => ?_))
   | exact ih0 _ _ _ _ _ _ _ _ _ _
   | exact ih1 _ _ _ _ _ _ _
   | exact ih2 _ _ _
   | exact impl_NearestWords.mono _ _ _
   | exact laws_eqStringS.mono _ _ _
   | exact laws_heldStringS.mono _ _ _
   | exact laws_markStringS.mono _ _ _
   | exact laws_szStringS.mono _ _ _
   | exact laws_toStringS.mono _ _
   | exact spec_NearestWords.mono _ _ _
   | exact LeO.none _
   | refine LeO.ite ?_ ?_
   | refine LeO.bind ?_ (fun _ => ?_)
set_option maxHeartbeats 8000000 in
set_option maxRecDepth 100000 in
theorem laws_FnExactNearestWords.calls (k : Nat) (A0 : Option Addr) (c0 : Nat) (l0 : List ByteArray) (a1 : ByteArray) (r : Bool) (w : World) (hr0 : Kd.C Kd.string w A0 l0.length l0) (hc0 : l0.length ≤ c0) (h : laws_FnExactNearestWords.f k l0 a1 = some r) :
  Calls Tryd.prog 11 #[.slice A0 l0.length c0, .string a1] w fun e w' => e = .returned (.bool r) ∧ Below w.heap.size w w' := by
 have HR0 := Aside0.mk hr0
 have HC0 := Aside0.mk hc0
 clear hr0 hc0
 have HB := Aside0.mk (Below.refl w.heap.size w)
 have H : (if (a1.size : Int) > 1048576 then (some true) else ((laws_szStringS.f k l0 1048576).bind fun t101 => (if t101 < 0 then (some true) else ((laws_toStringS.f k l0).bind fun t102 => ((spec_NearestWords.f k t102 a1).bind fun bt105 => ((laws_toStringS.f k l0).bind fun t110 => ((impl_NearestWords.f k t110 a1).bind fun bt113 => ((laws_eqStringS.f k bt113.1 bt105.1).bind fun t118 => (if t118 = true then (if bt113.2.1 = bt105.2.1 then (laws_FnExactNearestWords.j0 k l0 a1 bt105.1 bt105.2.1 bt105.2.2 t110 bt113.1 bt113.2.1 bt113.2.2 (bt113.2.2 != bt105.2.2)) else (laws_FnExactNearestWords.j0 k l0 a1 bt105.1 bt105.2.1 bt105.2.2 t110 bt113.1 bt113.2.1 bt113.2.2 true)) else (laws_FnExactNearestWords.j0 k l0 a1 bt105.1 bt105.2.1 bt105.2.2 t110 bt113.1 bt113.2.1 bt113.2.2 true)))))))))) = some r := h
 clear h
 by_cases c3 : (a1.size : Int) > 1048576
 ·
  rw [if_pos c3] at H
  have c3b0 : decide (1048576 < (a1.size : Int)) = true := decide_eq_true c3
  have c3b1 : decide (1048576 < a1.size) = true := decide_eq_true (by omega)
  clear c3
  obtain rfl := Option.some.inj H
  go_enter Tryd.func11, Tryd.ntmps11
  go_wp2
  go_ret
  exact ⟨by first | rfl | (simp [errW_none, errW_some] <;> rfl) | (simp [*, errW_none, errW_some] <;> rfl), by repeat (first | (with_reducible first | exact HB.out | apply below_alloc | apply pw_below_drewN | apply below_drew1) | exact HB.out)⟩
 ·
  rw [if_neg c3] at H
  have c3b0 : decide (1048576 < (a1.size : Int)) = false := decide_eq_false c3
  have c3b1 : decide (1048576 < a1.size) = false := decide_eq_false (by omega)
  clear c3
  replace H := Option.bind_eq_some_iff.mp H
  obtain ⟨t101, A40, H⟩ := H
  replace H : (if t101 < 0 then (some true) else ((laws_toStringS.f k l0).bind fun t102 => ((spec_NearestWords.f k t102 a1).bind fun bt105 => ((laws_toStringS.f k l0).bind fun t110 => ((impl_NearestWords.f k t110 a1).bind fun bt113 => ((laws_eqStringS.f k bt113.1 bt105.1).bind fun t118 => (if t118 = true then (if bt113.2.1 = bt105.2.1 then (laws_FnExactNearestWords.j0 k l0 a1 bt105.1 bt105.2.1 bt105.2.2 t110 bt113.1 bt113.2.1 bt113.2.2 (bt113.2.2 != bt105.2.2)) else (laws_FnExactNearestWords.j0 k l0 a1 bt105.1 bt105.2.1 bt105.2.2 t110 bt113.1 bt113.2.1 bt113.2.2 true)) else (laws_FnExactNearestWords.j0 k l0 a1 bt105.1 bt105.2.1 bt105.2.2 t110 bt113.1 bt113.2.1 bt113.2.2 true)))))))) = some r := H
  have A4 := Aside0.mk A40
  clear A40
  by_cases c5 : t101 < 0
  ·
   rw [if_pos c5] at H
   have c5b0 : decide (t101 < 0) = true := decide_eq_true c5
   clear c5
   obtain rfl := Option.some.inj H
   go_enter Tryd.func11, Tryd.ntmps11
   go_wp2_with (first | ((with_reducible refine gate_callee (f := 26) rfl ?_); refine goesL_ (some 24) rfl rfl Tryd.func26 (by kernel_rfl) rfl #[.slice A0 l0.length c0, .int .i64 1048576] rfl (by (try simp only [List.map_toArray, List.map_cons, List.map_nil]); first | done | rfl | (simp only [List.length_drop, List.length_take]; rfl)) ?_; (with_reducible refine (laws_szStringS.calls k _ _ l0 1048576 t101 _ ?side1 ?side2 A4.out).mono ?_); (case side1 => repeat (first | exact HR0.out | (with_reducible refine Kd.C_alloc ?_ _) | (with_reducible refine Kd.C_drewN ?_ _) | (with_reducible refine Kd.C_drew ?_))); (case side2 => exact HC0.out); rintro e w' ⟨rfl, ⟨nd, rfl⟩⟩; refine ⟨_, rfl, ?_⟩))
   go_ret
   exact ⟨by first | rfl | (simp [errW_none, errW_some] <;> rfl) | (simp [*, errW_none, errW_some] <;> rfl), by repeat (first | (with_reducible first | exact HB.out | apply below_alloc | apply pw_below_drewN | apply below_drew1) | exact HB.out)⟩
  ·
   rw [if_neg c5] at H
   have c5b0 : decide (t101 < 0) = false := decide_eq_false c5
   clear c5
   replace H := Option.bind_eq_some_iff.mp H
   obtain ⟨t102, A60, H⟩ := H
   replace H : ((spec_NearestWords.f k t102 a1).bind fun bt105 => ((laws_toStringS.f k l0).bind fun t110 => ((impl_NearestWords.f k t110 a1).bind fun bt113 => ((laws_eqStringS.f k bt113.1 bt105.1).bind fun t118 => (if t118 = true then (if bt113.2.1 = bt105.2.1 then (laws_FnExactNearestWords.j0 k l0 a1 bt105.1 bt105.2.1 bt105.2.2 t110 bt113.1 bt113.2.1 bt113.2.2 (bt113.2.2 != bt105.2.2)) else (laws_FnExactNearestWords.j0 k l0 a1 bt105.1 bt105.2.1 bt105.2.2 t110 bt113.1 bt113.2.1 bt113.2.2 true)) else (laws_FnExactNearestWords.j0 k l0 a1 bt105.1 bt105.2.1 bt105.2.2 t110 bt113.1 bt113.2.1 bt113.2.2 true)))))) = some r := H
   have A6 := Aside0.mk A60
   clear A60
   replace H := Option.bind_eq_some_iff.mp H
   obtain ⟨⟨t105, t106, t107⟩, A70, H⟩ := H
   replace H : ((laws_toStringS.f k l0).bind fun t110 => ((impl_NearestWords.f k t110 a1).bind fun bt113 => ((laws_eqStringS.f k bt113.1 t105).bind fun t118 => (if t118 = true then (if bt113.2.1 = t106 then (laws_FnExactNearestWords.j0 k l0 a1 t105 t106 t107 t110 bt113.1 bt113.2.1 bt113.2.2 (bt113.2.2 != t107)) else (laws_FnExactNearestWords.j0 k l0 a1 t105 t106 t107 t110 bt113.1 bt113.2.1 bt113.2.2 true)) else (laws_FnExactNearestWords.j0 k l0 a1 t105 t106 t107 t110 bt113.1 bt113.2.1 bt113.2.2 true))))) = some r := H
   have A7 := Aside0.mk A70
   clear A70
   replace H := Option.bind_eq_some_iff.mp H
   obtain ⟨t110, A80, H⟩ := H
   replace H : ((impl_NearestWords.f k t110 a1).bind fun bt113 => ((laws_eqStringS.f k bt113.1 t105).bind fun t118 => (if t118 = true then (if bt113.2.1 = t106 then (laws_FnExactNearestWords.j0 k l0 a1 t105 t106 t107 t110 bt113.1 bt113.2.1 bt113.2.2 (bt113.2.2 != t107)) else (laws_FnExactNearestWords.j0 k l0 a1 t105 t106 t107 t110 bt113.1 bt113.2.1 bt113.2.2 true)) else (laws_FnExactNearestWords.j0 k l0 a1 t105 t106 t107 t110 bt113.1 bt113.2.1 bt113.2.2 true)))) = some r := H
   have A8 := Aside0.mk A80
   clear A80
   replace H := Option.bind_eq_some_iff.mp H
   obtain ⟨⟨t113, t114, t115⟩, A90, H⟩ := H
   replace H : ((laws_eqStringS.f k t113 t105).bind fun t118 => (if t118 = true then (if t114 = t106 then (laws_FnExactNearestWords.j0 k l0 a1 t105 t106 t107 t110 t113 t114 t115 (t115 != t107)) else (laws_FnExactNearestWords.j0 k l0 a1 t105 t106 t107 t110 t113 t114 t115 true)) else (laws_FnExactNearestWords.j0 k l0 a1 t105 t106 t107 t110 t113 t114 t115 true))) = some r := H
   have A9 := Aside0.mk A90
   clear A90
   have HC10 := Aside0.mk H
   clear H
   go_enter Tryd.func11, Tryd.ntmps11
   go_upto_region 10 with (first | ((with_reducible refine gate_callee (f := 26) rfl ?_); refine goesL_ (some 24) rfl rfl Tryd.func26 (by kernel_rfl) rfl #[.slice A0 l0.length c0, .int .i64 1048576] rfl (by (try simp only [List.map_toArray, List.map_cons, List.map_nil]); first | done | rfl | (simp only [List.length_drop, List.length_take]; rfl)) ?_; (with_reducible refine (laws_szStringS.calls k _ _ l0 1048576 t101 _ ?side1 ?side2 A4.out).mono ?_); (case side1 => repeat (first | exact HR0.out | (with_reducible refine Kd.C_alloc ?_ _) | (with_reducible refine Kd.C_drewN ?_ _) | (with_reducible refine Kd.C_drew ?_))); (case side2 => exact HC0.out); rintro e w' ⟨rfl, ⟨nd, rfl⟩⟩; refine ⟨_, rfl, ?_⟩) | ((with_reducible refine gate_callee (f := 28) rfl ?_); refine goesL_ (some 29) rfl rfl Tryd.func28 (by kernel_rfl) rfl #[.slice A0 l0.length c0] rfl (by (try simp only [List.map_toArray, List.map_cons, List.map_nil]); first | done | rfl | (simp only [List.length_drop, List.length_take]; rfl)) ?_; (with_reducible refine (laws_toStringS.calls k _ _ l0 t102 _ ?side1 ?side2 A6.out).mono ?_); (case side1 => repeat (first | exact HR0.out | (with_reducible refine Kd.C_alloc ?_ _) | (with_reducible refine Kd.C_drewN ?_ _) | (with_reducible refine Kd.C_drew ?_))); (case side2 => exact HC0.out); rintro e w11 ⟨v103, rfl, ho0, hb⟩; refine ⟨_, rfl, ?_⟩; have n0_ := Aside0.mk (Kd.R_lower ho0 (below_size (by repeat (first | (with_reducible first | exact HB.out | apply below_alloc | apply pw_below_drewN | apply below_drew1) | exact HB.out)))); have n1_ := Aside0.mk (below_step (by repeat (first | (with_reducible first | exact HB.out | apply below_alloc | apply pw_below_drewN | apply below_drew1) | exact HB.out)) hb); clear HB; have HO104 := n0_; have HB := n1_; clear n0_ n1_; (try clear hb); (try clear hb2); (try clear hk); (try clear hi); (try clear ho0); obtain ⟨Ao12, co12, eo12⟩ := Kd.R_slice HO104.out; subst eo12) | ((with_reducible refine gate_callee (f := 33) rfl ?_); refine goesL_ (some 31) rfl rfl Tryd.func33 (by kernel_rfl) rfl #[.slice Ao12 t102.length co12, .string a1] rfl (by (try simp only [List.map_toArray, List.map_cons, List.map_nil]); first | done | rfl | (simp only [List.length_drop, List.length_take]; rfl)) ?_; (with_reducible refine (spec_NearestWords.calls k _ _ t102 a1 t105 t106 t107 _ ?side1 ?side2 A7.out).mono ?_); (case side1 => repeat (first | exact (Kd.R_reads' HO104.out).2.2 | (with_reducible refine Kd.C_alloc ?_ _) | (with_reducible refine Kd.C_drewN ?_ _) | (with_reducible refine Kd.C_drew ?_))); (case side2 => exact (Kd.R_reads' HO104.out).2.1); rintro e w13 ⟨v108, rfl, ho0, hb⟩; refine ⟨_, rfl, ?_⟩; have n0_ := Aside0.mk (Kd.R_elder' (by (with_reducible repeat (first | apply Kd.R_alloc | apply Kd.R_drewN | apply Kd.R_drew)); exact HO104.out) (Kd.R_base ho0) hb); have n1_ := Aside0.mk (Kd.R_lower (Kd.R_new' ho0 (Kd.R_lt (by (with_reducible repeat (first | apply Kd.R_alloc | apply Kd.R_drewN | apply Kd.R_drew)); exact HO104.out))) (below_size (by repeat (first | (with_reducible first | exact HB.out | apply below_alloc | apply pw_below_drewN | apply below_drew1) | exact HB.out)))); have n2_ := Aside0.mk (below_step (by repeat (first | (with_reducible first | exact HB.out | apply below_alloc | apply pw_below_drewN | apply below_drew1) | exact HB.out)) hb); clear HO104; clear HB; have HO104 := n0_; have HO109 := n1_; have HB := n2_; clear n0_ n1_ n2_; (try clear hb); (try clear hb2); (try clear hk); (try clear hi); (try clear ho0)) | ((with_reducible refine gate_callee (f := 28) rfl ?_); refine goesL_ (some 36) rfl rfl Tryd.func28 (by kernel_rfl) rfl #[.slice A0 l0.length c0] rfl (by (try simp only [List.map_toArray, List.map_cons, List.map_nil]); first | done | rfl | (simp only [List.length_drop, List.length_take]; rfl)) ?_; (with_reducible refine (laws_toStringS.calls k _ _ l0 t110 _ ?side1 ?side2 A8.out).mono ?_); (case side1 => repeat (first | exact (Kd.C_below HR0.out HB.out) | (with_reducible refine Kd.C_alloc ?_ _) | (with_reducible refine Kd.C_drewN ?_ _) | (with_reducible refine Kd.C_drew ?_))); (case side2 => exact HC0.out); rintro e w14 ⟨v111, rfl, ho0, hb⟩; refine ⟨_, rfl, ?_⟩; have n0_ := Aside0.mk (Kd.R_elder' (by (with_reducible repeat (first | apply Kd.R_alloc | apply Kd.R_drewN | apply Kd.R_drew)); exact HO104.out) (Kd.R_base ho0) hb); have n1_ := Aside0.mk (Kd.R_elder' (by (with_reducible repeat (first | apply Kd.R_alloc | apply Kd.R_drewN | apply Kd.R_drew)); exact HO109.out) (Kd.R_base ho0) hb); have n2_ := Aside0.mk (Kd.R_lower (Kd.R_new' (Kd.R_new' ho0 (Kd.R_lt (by (with_reducible repeat (first | apply Kd.R_alloc | apply Kd.R_drewN | apply Kd.R_drew)); exact HO104.out))) (Kd.R_lt (by (with_reducible repeat (first | apply Kd.R_alloc | apply Kd.R_drewN | apply Kd.R_drew)); exact HO109.out))) (below_size (by repeat (first | (with_reducible first | exact HB.out | apply below_alloc | apply pw_below_drewN | apply below_drew1) | exact HB.out)))); have n3_ := Aside0.mk (below_step (by repeat (first | (with_reducible first | exact HB.out | apply below_alloc | apply pw_below_drewN | apply below_drew1) | exact HB.out)) hb); clear HO104; clear HO109; clear HB; have HO104 := n0_; have HO109 := n1_; have HO112 := n2_; have HB := n3_; clear n0_ n1_ n2_ n3_; (try clear hb); (try clear hb2); (try clear hk); (try clear hi); (try clear ho0); obtain ⟨Ao15, co15, eo15⟩ := Kd.R_slice HO112.out; subst eo15) | ((with_reducible refine gate_callee (f := 34) rfl ?_); refine goesL_ (some 40) rfl rfl Tryd.func34 (by kernel_rfl) rfl #[.slice Ao15 t110.length co15, .string a1] rfl (by (try simp only [List.map_toArray, List.map_cons, List.map_nil]); first | done | rfl | (simp only [List.length_drop, List.length_take]; rfl)) ?_; (with_reducible refine (impl_NearestWords.calls k _ _ t110 a1 t113 t114 t115 _ ?side1 ?side2 A9.out).mono ?_); (case side1 => repeat (first | exact (Kd.R_reads' HO112.out).2.2 | (with_reducible refine Kd.C_alloc ?_ _) | (with_reducible refine Kd.C_drewN ?_ _) | (with_reducible refine Kd.C_drew ?_))); (case side2 => exact (Kd.R_reads' HO112.out).2.1); rintro e w16 ⟨v116, rfl, ho0, hb⟩; refine ⟨_, rfl, ?_⟩; have n0_ := Aside0.mk (Kd.R_elder' (by (with_reducible repeat (first | apply Kd.R_alloc | apply Kd.R_drewN | apply Kd.R_drew)); exact HO104.out) (Kd.R_base ho0) hb); have n1_ := Aside0.mk (Kd.R_elder' (by (with_reducible repeat (first | apply Kd.R_alloc | apply Kd.R_drewN | apply Kd.R_drew)); exact HO109.out) (Kd.R_base ho0) hb); have n2_ := Aside0.mk (Kd.R_elder' (by (with_reducible repeat (first | apply Kd.R_alloc | apply Kd.R_drewN | apply Kd.R_drew)); exact HO112.out) (Kd.R_base ho0) hb); have n3_ := Aside0.mk (Kd.R_lower (Kd.R_new' (Kd.R_new' (Kd.R_new' ho0 (Kd.R_lt (by (with_reducible repeat (first | apply Kd.R_alloc | apply Kd.R_drewN | apply Kd.R_drew)); exact HO104.out))) (Kd.R_lt (by (with_reducible repeat (first | apply Kd.R_alloc | apply Kd.R_drewN | apply Kd.R_drew)); exact HO109.out))) (Kd.R_lt (by (with_reducible repeat (first | apply Kd.R_alloc | apply Kd.R_drewN | apply Kd.R_drew)); exact HO112.out))) (below_size (by repeat (first | (with_reducible first | exact HB.out | apply below_alloc | apply pw_below_drewN | apply below_drew1) | exact HB.out)))); have n4_ := Aside0.mk (below_step (by repeat (first | (with_reducible first | exact HB.out | apply below_alloc | apply pw_below_drewN | apply below_drew1) | exact HB.out)) hb); clear HO104; clear HO109; clear HO112; clear HB; have HO104 := n0_; have HO109 := n1_; have HO112 := n2_; have HO117 := n3_; have HB := n4_; clear n0_ n1_ n2_ n3_ n4_; (try clear hb); (try clear hb2); (try clear hk); (try clear hi); (try clear ho0)))
   (try simp only [Act.put, List.setIfInBounds_toArray, List.set_cons_zero, List.set_cons_succ])
   go_cut [57] (fun v57 wc => ∃ (kq : Nat) (x57_9 : Bool), v57 = .bool x57_9 ∧ Aside0 (laws_FnExactNearestWords.j0 kq l0 a1 t105 t106 t107 t110 t113 t114 t115 x57_9 = some r) ∧ Aside0 (kq ≤ k) ∧ Aside0 (Kd.R Kd.string 9 wc w.heap.size (fun k_ => some k_ ≠ ((.slice Ao15 t110.length co15) : Value).ownBlock ∧ some k_ ≠ (v116 : Value).ownBlock) v108 t105) ∧ Aside0 (Kd.R Kd.string 9 wc w.heap.size (fun k_ => some k_ ≠ (v108 : Value).ownBlock ∧ some k_ ≠ (v116 : Value).ownBlock) (.slice Ao15 t110.length co15) t110) ∧ Aside0 (Kd.R Kd.string 9 wc w.heap.size (fun k_ => some k_ ≠ (v108 : Value).ownBlock ∧ some k_ ≠ ((.slice Ao15 t110.length co15) : Value).ownBlock) v116 t113) ∧ Aside0 (Below w.heap.size w wc))
   case first =>
    have H := HC10.out
    clear HC10
    replace H := Option.bind_eq_some_iff.mp H
    obtain ⟨t118, A170, H⟩ := H
    replace H : (if t118 = true then (if t114 = t106 then (laws_FnExactNearestWords.j0 k l0 a1 t105 t106 t107 t110 t113 t114 t115 (t115 != t107)) else (laws_FnExactNearestWords.j0 k l0 a1 t105 t106 t107 t110 t113 t114 t115 true)) else (laws_FnExactNearestWords.j0 k l0 a1 t105 t106 t107 t110 t113 t114 t115 true)) = some r := H
    have A17 := Aside0.mk A170
    clear A170
    by_cases c18 : t118 = true
    ·
     subst c18
     have H1 : (if t114 = t106 then (laws_FnExactNearestWords.j0 k l0 a1 t105 t106 t107 t110 t113 t114 t115 (t115 != t107)) else (laws_FnExactNearestWords.j0 k l0 a1 t105 t106 t107 t110 t113 t114 t115 true)) = some r := by rw [if_pos rfl] at H; exact H
     clear H
     have H := H1
     clear H1
     by_cases c19 : t114 = t106
     ·
      rw [if_pos c19] at H
      have c19b0 : (t114 == t106) = true := beq_iff_eq.mpr c19
      have c19b1 : (t114 != t106) = false := bne_eq_false_iff_eq.mpr c19
      clear c19
      (first | rw [c19b0] | (simp only [i64_w, i32_w]; rw [c19b0]) | skip)
      have H' := Aside0.mk H
      clear H
      obtain ⟨Ao20, co20, eo20⟩ := Kd.R_slice HO117.out
      subst eo20
      obtain ⟨Ao21, co21, eo21⟩ := Kd.R_slice HO109.out
      subst eo21
      go_wp2_with (first | ((with_reducible refine gate_callee (f := 30) rfl ?_); refine goesL_ (some 46) rfl rfl Tryd.func30 (by kernel_rfl) rfl #[.slice Ao20 t113.length co20, .slice Ao21 t105.length co21] rfl (by (try simp only [List.map_toArray, List.map_cons, List.map_nil]); first | done | rfl | (simp only [List.length_drop, List.length_take]; rfl)) ?_; (with_reducible refine (laws_eqStringS.calls k _ _ t113 _ _ t105 true _ ?side1 ?side2 ?side3 ?side4 A17.out).mono ?_); (case side1 => repeat (first | exact (Kd.R_reads' HO117.out).2.2 | (with_reducible refine Kd.C_alloc ?_ _) | (with_reducible refine Kd.C_drewN ?_ _) | (with_reducible refine Kd.C_drew ?_))); (case side2 => exact (Kd.R_reads' HO117.out).2.1); (case side3 => repeat (first | exact (Kd.R_reads' HO109.out).2.2 | (with_reducible refine Kd.C_alloc ?_ _) | (with_reducible refine Kd.C_drewN ?_ _) | (with_reducible refine Kd.C_drew ?_))); (case side4 => exact (Kd.R_reads' HO109.out).2.1); rintro e w' ⟨rfl, ⟨nd, rfl⟩⟩; refine ⟨_, rfl, ?_⟩))
      go_meet
      case rel => exact ⟨_, ((t115 != t107)), (by first | rfl | (simp; done) | (simp [*]; done)), H', ⟨by first | omega | exact Nat.le_refl _⟩, ⟨by (with_reducible repeat (first | apply Kd.R_alloc | apply Kd.R_drewN | apply Kd.R_drew)); exact Kd.R_mono HO109.out (fun _ hk => ⟨hk.1.2, hk.2⟩)⟩, ⟨by (with_reducible repeat (first | apply Kd.R_alloc | apply Kd.R_drewN | apply Kd.R_drew)); exact Kd.R_mono HO112.out (fun _ hk => ⟨hk.1.2, hk.2⟩)⟩, ⟨by (with_reducible repeat (first | apply Kd.R_alloc | apply Kd.R_drewN | apply Kd.R_drew)); exact Kd.R_mono HO117.out (fun _ hk => ⟨hk.1.2, hk.2⟩)⟩, ⟨by repeat (first | (with_reducible first | exact HB.out | apply below_alloc | apply pw_below_drewN | apply below_drew1) | exact HB.out)⟩⟩
     ·
      rw [if_neg c19] at H
      have c19b0 : (t114 == t106) = false := beq_eq_false_iff_ne.mpr c19
      have c19b1 : (t114 != t106) = true := bne_iff_ne.mpr c19
      (first | rw [c19b0] | (simp only [i64_w, i32_w]; rw [c19b0]) | skip)
      have H' := Aside0.mk H
      clear H
      obtain ⟨Ao22, co22, eo22⟩ := Kd.R_slice HO117.out
      subst eo22
      obtain ⟨Ao23, co23, eo23⟩ := Kd.R_slice HO109.out
      subst eo23
      go_wp2_with (first | ((with_reducible refine gate_callee (f := 30) rfl ?_); refine goesL_ (some 46) rfl rfl Tryd.func30 (by kernel_rfl) rfl #[.slice Ao22 t113.length co22, .slice Ao23 t105.length co23] rfl (by (try simp only [List.map_toArray, List.map_cons, List.map_nil]); first | done | rfl | (simp only [List.length_drop, List.length_take]; rfl)) ?_; (with_reducible refine (laws_eqStringS.calls k _ _ t113 _ _ t105 true _ ?side1 ?side2 ?side3 ?side4 A17.out).mono ?_); (case side1 => repeat (first | exact (Kd.R_reads' HO117.out).2.2 | (with_reducible refine Kd.C_alloc ?_ _) | (with_reducible refine Kd.C_drewN ?_ _) | (with_reducible refine Kd.C_drew ?_))); (case side2 => exact (Kd.R_reads' HO117.out).2.1); (case side3 => repeat (first | exact (Kd.R_reads' HO109.out).2.2 | (with_reducible refine Kd.C_alloc ?_ _) | (with_reducible refine Kd.C_drewN ?_ _) | (with_reducible refine Kd.C_drew ?_))); (case side4 => exact (Kd.R_reads' HO109.out).2.1); rintro e w' ⟨rfl, ⟨nd, rfl⟩⟩; refine ⟨_, rfl, ?_⟩))
      go_meet
      case rel => exact ⟨_, (true), (by first | rfl | (simp; done) | (simp [*]; done)), H', ⟨by first | omega | exact Nat.le_refl _⟩, ⟨by (with_reducible repeat (first | apply Kd.R_alloc | apply Kd.R_drewN | apply Kd.R_drew)); exact Kd.R_mono HO109.out (fun _ hk => ⟨hk.1.2, hk.2⟩)⟩, ⟨by (with_reducible repeat (first | apply Kd.R_alloc | apply Kd.R_drewN | apply Kd.R_drew)); exact Kd.R_mono HO112.out (fun _ hk => ⟨hk.1.2, hk.2⟩)⟩, ⟨by (with_reducible repeat (first | apply Kd.R_alloc | apply Kd.R_drewN | apply Kd.R_drew)); exact Kd.R_mono HO117.out (fun _ hk => ⟨hk.1.2, hk.2⟩)⟩, ⟨by repeat (first | (with_reducible first | exact HB.out | apply below_alloc | apply pw_below_drewN | apply below_drew1) | exact HB.out)⟩⟩
    ·
     replace c18 := Bool.eq_false_iff.mpr c18
     subst c18
     have H1 : (laws_FnExactNearestWords.j0 k l0 a1 t105 t106 t107 t110 t113 t114 t115 true) = some r := by rw [if_neg (show ¬ (false = true) by decide)] at H; exact H
     clear H
     have H := H1
     clear H1
     have H' := Aside0.mk H
     clear H
     obtain ⟨Ao24, co24, eo24⟩ := Kd.R_slice HO117.out
     subst eo24
     obtain ⟨Ao25, co25, eo25⟩ := Kd.R_slice HO109.out
     subst eo25
     go_wp2_with (first | ((with_reducible refine gate_callee (f := 30) rfl ?_); refine goesL_ (some 46) rfl rfl Tryd.func30 (by kernel_rfl) rfl #[.slice Ao24 t113.length co24, .slice Ao25 t105.length co25] rfl (by (try simp only [List.map_toArray, List.map_cons, List.map_nil]); first | done | rfl | (simp only [List.length_drop, List.length_take]; rfl)) ?_; (with_reducible refine (laws_eqStringS.calls k _ _ t113 _ _ t105 false _ ?side1 ?side2 ?side3 ?side4 A17.out).mono ?_); (case side1 => repeat (first | exact (Kd.R_reads' HO117.out).2.2 | (with_reducible refine Kd.C_alloc ?_ _) | (with_reducible refine Kd.C_drewN ?_ _) | (with_reducible refine Kd.C_drew ?_))); (case side2 => exact (Kd.R_reads' HO117.out).2.1); (case side3 => repeat (first | exact (Kd.R_reads' HO109.out).2.2 | (with_reducible refine Kd.C_alloc ?_ _) | (with_reducible refine Kd.C_drewN ?_ _) | (with_reducible refine Kd.C_drew ?_))); (case side4 => exact (Kd.R_reads' HO109.out).2.1); rintro e w' ⟨rfl, ⟨nd, rfl⟩⟩; refine ⟨_, rfl, ?_⟩))
     go_meet
     case rel => exact ⟨_, (true), (by first | rfl | (simp; done) | (simp [*]; done)), H', ⟨by first | omega | exact Nat.le_refl _⟩, ⟨by (with_reducible repeat (first | apply Kd.R_alloc | apply Kd.R_drewN | apply Kd.R_drew)); exact Kd.R_mono HO109.out (fun _ hk => ⟨hk.1.2, hk.2⟩)⟩, ⟨by (with_reducible repeat (first | apply Kd.R_alloc | apply Kd.R_drewN | apply Kd.R_drew)); exact Kd.R_mono HO112.out (fun _ hk => ⟨hk.1.2, hk.2⟩)⟩, ⟨by (with_reducible repeat (first | apply Kd.R_alloc | apply Kd.R_drewN | apply Kd.R_drew)); exact Kd.R_mono HO117.out (fun _ hk => ⟨hk.1.2, hk.2⟩)⟩, ⟨by repeat (first | (with_reducible first | exact HB.out | apply below_alloc | apply pw_below_drewN | apply below_drew1) | exact HB.out)⟩⟩
   case rest =>
    clear HC10
    try clear c1
    try clear c2
    try clear p2
    try clear c3
    try clear c3b0
    try clear c3b1
    try clear c5
    try clear c5b0
    try clear c11
    try clear c18
    try clear c19
    try clear c19b0
    try clear c19b1
    obtain ⟨kq, x57_9, rfl, HA, HJ9, HO_6, HO_9, HO_10, HB⟩ := hcut
    cases kq with
    | zero => exact absurd HA.out (by simp [laws_FnExactNearestWords.j0])
    | succ kj9 =>
     have H := HA.out
     clear HA
     simp only [laws_FnExactNearestWords.j0] at H
     by_cases c26 : x57_9 = true
     ·
      subst c26
      have H1 : (some false) = some r := by rw [if_pos rfl] at H; exact H
      clear H
      have H := H1
      clear H1
      obtain rfl := Option.some.inj H
      go_wp2
      go_ret
      exact ⟨by first | rfl | (simp [errW_none, errW_some] <;> rfl) | (simp [*, errW_none, errW_some] <;> rfl), by repeat (first | (with_reducible first | exact HB.out | apply below_alloc | apply pw_below_drewN | apply below_drew1) | exact HB.out)⟩
     ·
      replace c26 := Bool.eq_false_iff.mpr c26
      subst c26
      have H1 : ((laws_toStringS.f kj9 l0).bind fun t119 => ((laws_eqStringS.f kj9 t110 t119).bind fun t122 => (if t122 = true then ((laws_markStringS.f kj9 t110 1).bind fun bt123 => (if bt123.1 < 0 then (laws_FnExactNearestWords.j1 kj9 l0 a1 t105 t106 t107 t113 true) else ((laws_eqStringS.f kj9 t113 t105).bind fun t125 => (if t125 = true then (if t114 = t106 then (laws_FnExactNearestWords.j1 kj9 l0 a1 t105 t106 t107 t113 (t115 != t107)) else (laws_FnExactNearestWords.j1 kj9 l0 a1 t105 t106 t107 t113 true)) else (laws_FnExactNearestWords.j1 kj9 l0 a1 t105 t106 t107 t113 true))))) else (some false)))) = some r := by rw [if_neg (show ¬ (false = true) by decide)] at H; exact H
      clear H
      have H := H1
      clear H1
      replace H := Option.bind_eq_some_iff.mp H
      obtain ⟨t119, A270, H⟩ := H
      replace H : ((laws_eqStringS.f kj9 t110 t119).bind fun t122 => (if t122 = true then ((laws_markStringS.f kj9 t110 1).bind fun bt123 => (if bt123.1 < 0 then (laws_FnExactNearestWords.j1 kj9 l0 a1 t105 t106 t107 t113 true) else ((laws_eqStringS.f kj9 t113 t105).bind fun t125 => (if t125 = true then (if t114 = t106 then (laws_FnExactNearestWords.j1 kj9 l0 a1 t105 t106 t107 t113 (t115 != t107)) else (laws_FnExactNearestWords.j1 kj9 l0 a1 t105 t106 t107 t113 true)) else (laws_FnExactNearestWords.j1 kj9 l0 a1 t105 t106 t107 t113 true))))) else (some false))) = some r := H
      have A27 := Aside0.mk A270
      clear A270
      replace H := Option.bind_eq_some_iff.mp H
      obtain ⟨t122, A280, H⟩ := H
      replace H : (if t122 = true then ((laws_markStringS.f kj9 t110 1).bind fun bt123 => (if bt123.1 < 0 then (laws_FnExactNearestWords.j1 kj9 l0 a1 t105 t106 t107 t113 true) else ((laws_eqStringS.f kj9 t113 t105).bind fun t125 => (if t125 = true then (if t114 = t106 then (laws_FnExactNearestWords.j1 kj9 l0 a1 t105 t106 t107 t113 (t115 != t107)) else (laws_FnExactNearestWords.j1 kj9 l0 a1 t105 t106 t107 t113 true)) else (laws_FnExactNearestWords.j1 kj9 l0 a1 t105 t106 t107 t113 true))))) else (some false)) = some r := H
      have A28 := Aside0.mk A280
      clear A280
      by_cases c29 : t122 = true
      ·
       subst c29
       have H1 : ((laws_markStringS.f kj9 t110 1).bind fun bt123 => (if bt123.1 < 0 then (laws_FnExactNearestWords.j1 kj9 l0 a1 t105 t106 t107 t113 true) else ((laws_eqStringS.f kj9 t113 t105).bind fun t125 => (if t125 = true then (if t114 = t106 then (laws_FnExactNearestWords.j1 kj9 l0 a1 t105 t106 t107 t113 (t115 != t107)) else (laws_FnExactNearestWords.j1 kj9 l0 a1 t105 t106 t107 t113 true)) else (laws_FnExactNearestWords.j1 kj9 l0 a1 t105 t106 t107 t113 true))))) = some r := by rw [if_pos rfl] at H; exact H
       clear H
       have H := H1
       clear H1
       replace H := Option.bind_eq_some_iff.mp H
       obtain ⟨⟨t123, t124⟩, A300, H⟩ := H
       replace H : (if t123 < 0 then (laws_FnExactNearestWords.j1 kj9 l0 a1 t105 t106 t107 t113 true) else ((laws_eqStringS.f kj9 t113 t105).bind fun t125 => (if t125 = true then (if t114 = t106 then (laws_FnExactNearestWords.j1 kj9 l0 a1 t105 t106 t107 t113 (t115 != t107)) else (laws_FnExactNearestWords.j1 kj9 l0 a1 t105 t106 t107 t113 true)) else (laws_FnExactNearestWords.j1 kj9 l0 a1 t105 t106 t107 t113 true)))) = some r := H
       have A30 := Aside0.mk A300
       clear A300
       have HC31 := Aside0.mk H
       clear H
       go_upto_region 16 with (first | ((with_reducible refine gate_callee (f := 28) rfl ?_); refine goesL_ (some 60) rfl rfl Tryd.func28 (by kernel_rfl) rfl #[.slice A0 l0.length c0] rfl (by (try simp only [List.map_toArray, List.map_cons, List.map_nil]); first | done | rfl | (simp only [List.length_drop, List.length_take]; rfl)) ?_; (with_reducible refine (laws_toStringS.calls kj9 _ _ l0 t119 _ ?side1 ?side2 A27.out).mono ?_); (case side1 => repeat (first | exact (Kd.C_below HR0.out HB.out) | (with_reducible refine Kd.C_alloc ?_ _) | (with_reducible refine Kd.C_drewN ?_ _) | (with_reducible refine Kd.C_drew ?_))); (case side2 => exact HC0.out); rintro e w32 ⟨v120, rfl, ho0, hb⟩; refine ⟨_, rfl, ?_⟩; have n0_ := Aside0.mk (Kd.R_elder' (by (with_reducible repeat (first | apply Kd.R_alloc | apply Kd.R_drewN | apply Kd.R_drew)); exact HO_6.out) (Kd.R_base ho0) hb); have n1_ := Aside0.mk (Kd.R_elder' (by (with_reducible repeat (first | apply Kd.R_alloc | apply Kd.R_drewN | apply Kd.R_drew)); exact HO_9.out) (Kd.R_base ho0) hb); have n2_ := Aside0.mk (Kd.R_elder' (by (with_reducible repeat (first | apply Kd.R_alloc | apply Kd.R_drewN | apply Kd.R_drew)); exact HO_10.out) (Kd.R_base ho0) hb); have n3_ := Aside0.mk (Kd.R_lower (Kd.R_new' (Kd.R_new' (Kd.R_new' ho0 (Kd.R_lt (by (with_reducible repeat (first | apply Kd.R_alloc | apply Kd.R_drewN | apply Kd.R_drew)); exact HO_6.out))) (Kd.R_lt (by (with_reducible repeat (first | apply Kd.R_alloc | apply Kd.R_drewN | apply Kd.R_drew)); exact HO_9.out))) (Kd.R_lt (by (with_reducible repeat (first | apply Kd.R_alloc | apply Kd.R_drewN | apply Kd.R_drew)); exact HO_10.out))) (below_size (by repeat (first | (with_reducible first | exact HB.out | apply below_alloc | apply pw_below_drewN | apply below_drew1) | exact HB.out)))); have n4_ := Aside0.mk (below_step (by repeat (first | (with_reducible first | exact HB.out | apply below_alloc | apply pw_below_drewN | apply below_drew1) | exact HB.out)) hb); clear HO_6; clear HO_9; clear HO_10; clear HB; have HO_6 := n0_; have HO_9 := n1_; have HO_10 := n2_; have HO121 := n3_; have HB := n4_; clear n0_ n1_ n2_ n3_ n4_; (try clear hb); (try clear hb2); (try clear hk); (try clear hi); (try clear ho0); obtain ⟨Ao33, co33, eo33⟩ := Kd.R_slice HO121.out; subst eo33) | ((with_reducible refine gate_callee (f := 30) rfl ?_); refine goesL_ (some 61) rfl rfl Tryd.func30 (by kernel_rfl) rfl #[.slice Ao15 t110.length co15, .slice Ao33 t119.length co33] rfl (by (try simp only [List.map_toArray, List.map_cons, List.map_nil]); first | done | rfl | (simp only [List.length_drop, List.length_take]; rfl)) ?_; (with_reducible refine (laws_eqStringS.calls kj9 _ _ t110 _ _ t119 true _ ?side1 ?side2 ?side3 ?side4 A28.out).mono ?_); (case side1 => repeat (first | exact (Kd.R_reads' HO_9.out).2.2 | (with_reducible refine Kd.C_alloc ?_ _) | (with_reducible refine Kd.C_drewN ?_ _) | (with_reducible refine Kd.C_drew ?_))); (case side2 => exact (Kd.R_reads' HO_9.out).2.1); (case side3 => repeat (first | exact (Kd.R_reads' HO121.out).2.2 | (with_reducible refine Kd.C_alloc ?_ _) | (with_reducible refine Kd.C_drewN ?_ _) | (with_reducible refine Kd.C_drew ?_))); (case side4 => exact (Kd.R_reads' HO121.out).2.1); rintro e w' ⟨rfl, ⟨nd, rfl⟩⟩; refine ⟨_, rfl, ?_⟩) | ((with_reducible refine gate_callee (f := 31) rfl ?_); refine goesL_ (some 65) rfl rfl Tryd.func31 (by kernel_rfl) rfl #[.slice Ao15 t110.length co15, .int .i64 1] rfl (by (try simp only [List.map_toArray, List.map_cons, List.map_nil]); first | done | rfl | (simp only [List.length_drop, List.length_take]; rfl)) ?_; (with_reducible refine (laws_markStringS.calls kj9 (fun k_ => some k_ = (.slice Ao15 t110.length co15 : Value).ownBlock) (.slice Ao15 t110.length co15) t110 1 t123 t124 w _ ?side1 ?side2 A30.out).mono ?_); (case side1 => repeat (first | (with_reducible first | exact HB.out | apply below_alloc | apply pw_below_drewN | apply below_drew1) | exact HB.out)); (case side2 => exact Kd.R_tight rfl HO_9.out); rintro e w34 ⟨rfl, hy0, hb, hkp⟩; refine ⟨_, rfl, ?_⟩; have n0_ := Aside0.mk (Kd.R_mono (ok' := fun k_ => some k_ ≠ (.slice Ao15 t110.length co15 : Value).ownBlock ∧ some k_ ≠ (v116 : Value).ownBlock ∧ some k_ ≠ (.slice Ao33 t119.length co33 : Value).ownBlock) (Kd.R_keptB (HO_6.out) hkp (fun k_ hk_ hs_ => (hk_.1.1) hs_)) (fun k_ hk_ => ⟨hk_.1.1.1, hk_.1.1.2, hk_.1.2⟩)); have n1_ := Aside0.mk (Kd.R_reok rfl hy0 (fun k_ e_ => HO_9.out.1 k_ e_)); have n2_ := Aside0.mk (Kd.R_mono (ok' := fun k_ => some k_ ≠ (v108 : Value).ownBlock ∧ some k_ ≠ (.slice Ao15 t110.length co15 : Value).ownBlock ∧ some k_ ≠ (.slice Ao33 t119.length co33 : Value).ownBlock) (Kd.R_keptB (HO_10.out) hkp (fun k_ hk_ hs_ => (hk_.1.2) hs_)) (fun k_ hk_ => ⟨hk_.1.1.1, hk_.1.1.2, hk_.1.2⟩)); have n3_ := Aside0.mk (Kd.R_mono (ok' := fun k_ => some k_ ≠ (v108 : Value).ownBlock ∧ some k_ ≠ (.slice Ao15 t110.length co15 : Value).ownBlock ∧ some k_ ≠ (v116 : Value).ownBlock) (Kd.R_keptB (HO121.out) hkp (fun k_ hk_ hs_ => (hk_.1.2) hs_)) (fun k_ hk_ => ⟨hk_.1.1.1.2, hk_.1.1.2, hk_.1.2⟩)); have n4_ := Aside0.mk (hb); clear HO_6; clear HO_9; clear HO_10; clear HO121; clear HB; have HO_6 := n0_; have HO_9 := n1_; have HO_10 := n2_; have HO121 := n3_; have HB := n4_; clear n0_ n1_ n2_ n3_ n4_; (try clear hb); (try clear hkp); (try clear hy0)))
       (try simp only [Act.put, List.setIfInBounds_toArray, List.set_cons_zero, List.set_cons_succ])
       go_cut [83] (fun v83 wc => ∃ (kq : Nat) (x83_30 : Bool), v83 = .bool x83_30 ∧ Aside0 (laws_FnExactNearestWords.j1 kq l0 a1 t105 t106 t107 t113 x83_30 = some r) ∧ Aside0 (kq ≤ kj9) ∧ Aside0 (Kd.R Kd.string 9 wc w.heap.size (fun k_ => some k_ ≠ (v116 : Value).ownBlock) v108 t105) ∧ Aside0 (Kd.R Kd.string 9 wc w.heap.size (fun k_ => some k_ ≠ (v108 : Value).ownBlock) v116 t113) ∧ Aside0 (Below w.heap.size w wc))
       case first =>
        have H := HC31.out
        clear HC31
        by_cases c35 : t123 < 0
        ·
         rw [if_pos c35] at H
         have c35b0 : decide (t123 < 0) = true := decide_eq_true c35
         clear c35
         (first | rw [c35b0] | (simp only [i64_w, i32_w]; rw [c35b0]) | skip)
         have H' := Aside0.mk H
         clear H
         go_wp2
         go_meet
         case rel => exact ⟨_, (true), (by first | rfl | (simp; done) | (simp [*]; done)), H', ⟨by have := HJ9.out; first | omega | exact Nat.le_refl _⟩, ⟨by (with_reducible repeat (first | apply Kd.R_alloc | apply Kd.R_drewN | apply Kd.R_drew)); exact Kd.R_mono HO_6.out (fun _ hk => hk.2.1)⟩, ⟨by (with_reducible repeat (first | apply Kd.R_alloc | apply Kd.R_drewN | apply Kd.R_drew)); exact Kd.R_mono HO_10.out (fun _ hk => hk.1)⟩, ⟨by repeat (first | (with_reducible first | exact HB.out | apply below_alloc | apply pw_below_drewN | apply below_drew1) | exact HB.out)⟩⟩
        ·
         rw [if_neg c35] at H
         have c35b0 : decide (t123 < 0) = false := decide_eq_false c35
         clear c35
         (first | rw [c35b0] | (simp only [i64_w, i32_w]; rw [c35b0]) | skip)
         replace H := Option.bind_eq_some_iff.mp H
         obtain ⟨t125, A360, H⟩ := H
         replace H : (if t125 = true then (if t114 = t106 then (laws_FnExactNearestWords.j1 kj9 l0 a1 t105 t106 t107 t113 (t115 != t107)) else (laws_FnExactNearestWords.j1 kj9 l0 a1 t105 t106 t107 t113 true)) else (laws_FnExactNearestWords.j1 kj9 l0 a1 t105 t106 t107 t113 true)) = some r := H
         have A36 := Aside0.mk A360
         clear A360
         by_cases c37 : t125 = true
         ·
          subst c37
          have H1 : (if t114 = t106 then (laws_FnExactNearestWords.j1 kj9 l0 a1 t105 t106 t107 t113 (t115 != t107)) else (laws_FnExactNearestWords.j1 kj9 l0 a1 t105 t106 t107 t113 true)) = some r := by rw [if_pos rfl] at H; exact H
          clear H
          have H := H1
          clear H1
          by_cases c38 : t114 = t106
          ·
           rw [if_pos c38] at H
           have c38b0 : (t114 == t106) = true := beq_iff_eq.mpr c38
           have c38b1 : (t114 != t106) = false := bne_eq_false_iff_eq.mpr c38
           clear c38
           have H' := Aside0.mk H
           clear H
           obtain ⟨Ao39, co39, eo39⟩ := Kd.R_slice HO_10.out
           subst eo39
           obtain ⟨Ao40, co40, eo40⟩ := Kd.R_slice HO_6.out
           subst eo40
           go_wp2_with (first | (go_at_call 30; (with_reducible refine (laws_eqStringS.calls kj9 _ _ t113 _ _ t105 true _ ?side1 ?side2 ?side3 ?side4 A36.out).mono ?_); (case side1 => repeat (first | exact (Kd.R_reads' HO_10.out).2.2 | (with_reducible refine Kd.C_alloc ?_ _) | (with_reducible refine Kd.C_drewN ?_ _) | (with_reducible refine Kd.C_drew ?_))); (case side2 => exact (Kd.R_reads' HO_10.out).2.1); (case side3 => repeat (first | exact (Kd.R_reads' HO_6.out).2.2 | (with_reducible refine Kd.C_alloc ?_ _) | (with_reducible refine Kd.C_drewN ?_ _) | (with_reducible refine Kd.C_drew ?_))); (case side4 => exact (Kd.R_reads' HO_6.out).2.1); rintro e w' ⟨rfl, ⟨nd, rfl⟩⟩))
           go_meet
           case rel => exact ⟨_, ((t115 != t107)), (by first | rfl | (simp; done) | (simp [*]; done)), H', ⟨by have := HJ9.out; first | omega | exact Nat.le_refl _⟩, ⟨by (with_reducible repeat (first | apply Kd.R_alloc | apply Kd.R_drewN | apply Kd.R_drew)); exact Kd.R_mono HO_6.out (fun _ hk => hk.2.1)⟩, ⟨by (with_reducible repeat (first | apply Kd.R_alloc | apply Kd.R_drewN | apply Kd.R_drew)); exact Kd.R_mono HO_10.out (fun _ hk => hk.1)⟩, ⟨by repeat (first | (with_reducible first | exact HB.out | apply below_alloc | apply pw_below_drewN | apply below_drew1) | exact HB.out)⟩⟩
          ·
           rw [if_neg c38] at H
           have c38b0 : (t114 == t106) = false := beq_eq_false_iff_ne.mpr c38
           have c38b1 : (t114 != t106) = true := bne_iff_ne.mpr c38
           have H' := Aside0.mk H
           clear H
           obtain ⟨Ao41, co41, eo41⟩ := Kd.R_slice HO_10.out
           subst eo41
           obtain ⟨Ao42, co42, eo42⟩ := Kd.R_slice HO_6.out
           subst eo42
           go_wp2_with (first | (go_at_call 30; (with_reducible refine (laws_eqStringS.calls kj9 _ _ t113 _ _ t105 true _ ?side1 ?side2 ?side3 ?side4 A36.out).mono ?_); (case side1 => repeat (first | exact (Kd.R_reads' HO_10.out).2.2 | (with_reducible refine Kd.C_alloc ?_ _) | (with_reducible refine Kd.C_drewN ?_ _) | (with_reducible refine Kd.C_drew ?_))); (case side2 => exact (Kd.R_reads' HO_10.out).2.1); (case side3 => repeat (first | exact (Kd.R_reads' HO_6.out).2.2 | (with_reducible refine Kd.C_alloc ?_ _) | (with_reducible refine Kd.C_drewN ?_ _) | (with_reducible refine Kd.C_drew ?_))); (case side4 => exact (Kd.R_reads' HO_6.out).2.1); rintro e w' ⟨rfl, ⟨nd, rfl⟩⟩))
           go_meet
           case rel => exact ⟨_, (true), (by first | rfl | (simp; done) | (simp [*]; done)), H', ⟨by have := HJ9.out; first | omega | exact Nat.le_refl _⟩, ⟨by (with_reducible repeat (first | apply Kd.R_alloc | apply Kd.R_drewN | apply Kd.R_drew)); exact Kd.R_mono HO_6.out (fun _ hk => hk.2.1)⟩, ⟨by (with_reducible repeat (first | apply Kd.R_alloc | apply Kd.R_drewN | apply Kd.R_drew)); exact Kd.R_mono HO_10.out (fun _ hk => hk.1)⟩, ⟨by repeat (first | (with_reducible first | exact HB.out | apply below_alloc | apply pw_below_drewN | apply below_drew1) | exact HB.out)⟩⟩
         ·
          replace c37 := Bool.eq_false_iff.mpr c37
          subst c37
          have H1 : (laws_FnExactNearestWords.j1 kj9 l0 a1 t105 t106 t107 t113 true) = some r := by rw [if_neg (show ¬ (false = true) by decide)] at H; exact H
          clear H
          have H := H1
          clear H1
          have H' := Aside0.mk H
          clear H
          obtain ⟨Ao43, co43, eo43⟩ := Kd.R_slice HO_10.out
          subst eo43
          obtain ⟨Ao44, co44, eo44⟩ := Kd.R_slice HO_6.out
          subst eo44
          go_wp2_with (first | (go_at_call 30; (with_reducible refine (laws_eqStringS.calls kj9 _ _ t113 _ _ t105 false _ ?side1 ?side2 ?side3 ?side4 A36.out).mono ?_); (case side1 => repeat (first | exact (Kd.R_reads' HO_10.out).2.2 | (with_reducible refine Kd.C_alloc ?_ _) | (with_reducible refine Kd.C_drewN ?_ _) | (with_reducible refine Kd.C_drew ?_))); (case side2 => exact (Kd.R_reads' HO_10.out).2.1); (case side3 => repeat (first | exact (Kd.R_reads' HO_6.out).2.2 | (with_reducible refine Kd.C_alloc ?_ _) | (with_reducible refine Kd.C_drewN ?_ _) | (with_reducible refine Kd.C_drew ?_))); (case side4 => exact (Kd.R_reads' HO_6.out).2.1); rintro e w' ⟨rfl, ⟨nd, rfl⟩⟩))
          go_meet
          case rel => exact ⟨_, (true), (by first | rfl | (simp; done) | (simp [*]; done)), H', ⟨by have := HJ9.out; first | omega | exact Nat.le_refl _⟩, ⟨by (with_reducible repeat (first | apply Kd.R_alloc | apply Kd.R_drewN | apply Kd.R_drew)); exact Kd.R_mono HO_6.out (fun _ hk => hk.2.1)⟩, ⟨by (with_reducible repeat (first | apply Kd.R_alloc | apply Kd.R_drewN | apply Kd.R_drew)); exact Kd.R_mono HO_10.out (fun _ hk => hk.1)⟩, ⟨by repeat (first | (with_reducible first | exact HB.out | apply below_alloc | apply pw_below_drewN | apply below_drew1) | exact HB.out)⟩⟩
       case rest =>
        clear HC31
        try clear c1
        try clear c2
        try clear p2
        try clear c3
        try clear c3b0
        try clear c3b1
        try clear c5
        try clear c5b0
        try clear c11
        try clear c18
        try clear c19
        try clear c19b0
        try clear c19b1
        try clear c26
        try clear c28
        try clear c29
        try clear c30
        try clear c31
        try clear c33
        try clear c34
        try clear c35
        try clear c35b0
        try clear c37
        try clear c38
        try clear c38b0
        try clear c38b1
        try clear p2
        obtain ⟨kq, x83_30, rfl, HA, HJ30, HO_6, HO_10, HB⟩ := hcut
        cases kq with
        | zero => exact absurd HA.out (by simp [laws_FnExactNearestWords.j1])
        | succ kj30 =>
         have H := HA.out
         clear HA
         simp only [laws_FnExactNearestWords.j1] at H
         by_cases c45 : x83_30 = true
         ·
          subst c45
          have H1 : (some false) = some r := by rw [if_pos rfl] at H; exact H
          clear H
          have H := H1
          clear H1
          obtain rfl := Option.some.inj H
          go_wp2
          go_ret
          exact ⟨by first | rfl | (simp [errW_none, errW_some] <;> rfl) | (simp [*, errW_none, errW_some] <;> rfl), by repeat (first | (with_reducible first | exact HB.out | apply below_alloc | apply pw_below_drewN | apply below_drew1) | exact HB.out)⟩
         ·
          replace c45 := Bool.eq_false_iff.mpr c45
          subst c45
          have H1 : ((laws_markStringS.f kj30 t113 1).bind fun bt126 => ((laws_heldStringS.f kj30 bt126.2 1).bind fun t128 => (if t128 < 0 then (some false) else (if t128 = bt126.1 then ((laws_toStringS.f kj30 l0).bind fun t129 => ((impl_NearestWords.f kj30 t129 a1).bind fun bt132 => ((laws_eqStringS.f kj30 bt132.1 t105).bind fun t137 => (if t137 = true then (if bt132.2.1 = t106 then (laws_FnExactNearestWords.j2 kj30 bt126.2 bt126.1 (bt132.2.2 != t107)) else (laws_FnExactNearestWords.j2 kj30 bt126.2 bt126.1 true)) else (laws_FnExactNearestWords.j2 kj30 bt126.2 bt126.1 true))))) else (some false))))) = some r := by rw [if_neg (show ¬ (false = true) by decide)] at H; exact H
          clear H
          have H := H1
          clear H1
          replace H := Option.bind_eq_some_iff.mp H
          obtain ⟨⟨t126, t127⟩, A460, H⟩ := H
          replace H : ((laws_heldStringS.f kj30 t127 1).bind fun t128 => (if t128 < 0 then (some false) else (if t128 = t126 then ((laws_toStringS.f kj30 l0).bind fun t129 => ((impl_NearestWords.f kj30 t129 a1).bind fun bt132 => ((laws_eqStringS.f kj30 bt132.1 t105).bind fun t137 => (if t137 = true then (if bt132.2.1 = t106 then (laws_FnExactNearestWords.j2 kj30 t127 t126 (bt132.2.2 != t107)) else (laws_FnExactNearestWords.j2 kj30 t127 t126 true)) else (laws_FnExactNearestWords.j2 kj30 t127 t126 true))))) else (some false)))) = some r := H
          have A46 := Aside0.mk A460
          clear A460
          replace H := Option.bind_eq_some_iff.mp H
          obtain ⟨t128, A470, H⟩ := H
          replace H : (if t128 < 0 then (some false) else (if t128 = t126 then ((laws_toStringS.f kj30 l0).bind fun t129 => ((impl_NearestWords.f kj30 t129 a1).bind fun bt132 => ((laws_eqStringS.f kj30 bt132.1 t105).bind fun t137 => (if t137 = true then (if bt132.2.1 = t106 then (laws_FnExactNearestWords.j2 kj30 t127 t126 (bt132.2.2 != t107)) else (laws_FnExactNearestWords.j2 kj30 t127 t126 true)) else (laws_FnExactNearestWords.j2 kj30 t127 t126 true))))) else (some false))) = some r := H
          have A47 := Aside0.mk A470
          clear A470
          by_cases c48 : t128 < 0
          ·
           rw [if_pos c48] at H
           have c48b0 : decide (t128 < 0) = true := decide_eq_true c48
           clear c48
           obtain rfl := Option.some.inj H
           obtain ⟨Ao49, co49, eo49⟩ := Kd.R_slice HO_10.out
           subst eo49
           go_wp2_with (first | ((with_reducible refine gate_callee (f := 31) rfl ?_); refine goesL_ (some 86) rfl rfl Tryd.func31 (by kernel_rfl) rfl #[.slice Ao49 t113.length co49, .int .i64 1] rfl (by (try simp only [List.map_toArray, List.map_cons, List.map_nil]); first | done | rfl | (simp only [List.length_drop, List.length_take]; rfl)) ?_; (with_reducible refine (laws_markStringS.calls kj30 (fun k_ => some k_ = (.slice Ao49 t113.length co49 : Value).ownBlock) (.slice Ao49 t113.length co49) t113 1 t126 t127 w _ ?side1 ?side2 A46.out).mono ?_); (case side1 => repeat (first | (with_reducible first | exact HB.out | apply below_alloc | apply pw_below_drewN | apply below_drew1) | exact HB.out)); (case side2 => exact Kd.R_tight rfl HO_10.out); rintro e w50 ⟨rfl, hy0, hb, hkp⟩; refine ⟨_, rfl, ?_⟩; have n0_ := Aside0.mk (Kd.R_mono (ok' := fun k_ => some k_ ≠ (.slice Ao49 t113.length co49 : Value).ownBlock) (Kd.R_keptB (HO_6.out) hkp (fun k_ hk_ hs_ => (hk_) hs_)) (fun k_ hk_ => hk_.1)); have n1_ := Aside0.mk (Kd.R_reok rfl hy0 (fun k_ e_ => HO_10.out.1 k_ e_)); have n2_ := Aside0.mk (hb); clear HO_6; clear HO_10; clear HB; have HO_6 := n0_; have HO_10 := n1_; have HB := n2_; clear n0_ n1_ n2_; (try clear hb); (try clear hkp); (try clear hy0)) | ((with_reducible refine gate_callee (f := 32) rfl ?_); refine goesL_ (some 89) rfl rfl Tryd.func32 (by kernel_rfl) rfl #[.slice Ao49 t127.length co49, .int .i64 1] rfl (by (try simp only [List.map_toArray, List.map_cons, List.map_nil]); first | done | (rw [show t127.length = t113.length from (Kd.R_reads' HO_10.out).1.symm] <;> rfl) | rfl | (simp only [List.length_drop, List.length_take]; rfl)) ?_; (with_reducible refine (laws_heldStringS.calls kj30 _ _ t127 1 t128 _ ?side1 ?side2 A47.out).mono ?_); (case side1 => repeat (first | exact (Kd.R_reads' HO_10.out).2.2 | (with_reducible refine Kd.C_alloc ?_ _) | (with_reducible refine Kd.C_drewN ?_ _) | (with_reducible refine Kd.C_drew ?_))); (case side2 => rw [show t127.length = t113.length from (Kd.R_reads' HO_10.out).1.symm]; exact (Kd.R_reads' HO_10.out).2.1); rintro e w51 ⟨rfl, hb⟩; refine ⟨_, rfl, ?_⟩; have n0_ := Aside0.mk (Kd.R_below (by (with_reducible repeat (first | apply Kd.R_alloc | apply Kd.R_drewN | apply Kd.R_drew)); exact HO_6.out) hb); have n1_ := Aside0.mk (Kd.R_below (by (with_reducible repeat (first | apply Kd.R_alloc | apply Kd.R_drewN | apply Kd.R_drew)); exact HO_10.out) hb); have n2_ := Aside0.mk (below_step (by repeat (first | (with_reducible first | exact HB.out | apply below_alloc | apply pw_below_drewN | apply below_drew1) | exact HB.out)) hb); clear HO_6; clear HO_10; clear HB; have HO_6 := n0_; have HO_10 := n1_; have HB := n2_; clear n0_ n1_ n2_; (try clear hb); (try clear hb2); (try clear hk); (try clear hi)))
           go_ret
           exact ⟨by first | rfl | (simp [errW_none, errW_some] <;> rfl) | (simp [*, errW_none, errW_some] <;> rfl), by repeat (first | (with_reducible first | exact HB.out | apply below_alloc | apply pw_below_drewN | apply below_drew1) | exact HB.out)⟩
          ·
           rw [if_neg c48] at H
           have c48b0 : decide (t128 < 0) = false := decide_eq_false c48
           clear c48
           by_cases c52 : t128 = t126
           ·
            rw [if_pos c52] at H
            have c52b0 : (t128 == t126) = true := beq_iff_eq.mpr c52
            have c52b1 : (t128 != t126) = false := bne_eq_false_iff_eq.mpr c52
            clear c52
            replace H := Option.bind_eq_some_iff.mp H
            obtain ⟨t129, A530, H⟩ := H
            replace H : ((impl_NearestWords.f kj30 t129 a1).bind fun bt132 => ((laws_eqStringS.f kj30 bt132.1 t105).bind fun t137 => (if t137 = true then (if bt132.2.1 = t106 then (laws_FnExactNearestWords.j2 kj30 t127 t126 (bt132.2.2 != t107)) else (laws_FnExactNearestWords.j2 kj30 t127 t126 true)) else (laws_FnExactNearestWords.j2 kj30 t127 t126 true)))) = some r := H
            have A53 := Aside0.mk A530
            clear A530
            replace H := Option.bind_eq_some_iff.mp H
            obtain ⟨⟨t132, t133, t134⟩, A540, H⟩ := H
            replace H : ((laws_eqStringS.f kj30 t132 t105).bind fun t137 => (if t137 = true then (if t133 = t106 then (laws_FnExactNearestWords.j2 kj30 t127 t126 (t134 != t107)) else (laws_FnExactNearestWords.j2 kj30 t127 t126 true)) else (laws_FnExactNearestWords.j2 kj30 t127 t126 true))) = some r := H
            have A54 := Aside0.mk A540
            clear A540
            have HC55 := Aside0.mk H
            clear H
            obtain ⟨Ao56, co56, eo56⟩ := Kd.R_slice HO_10.out
            subst eo56
            go_upto_region 27 with (first | ((with_reducible refine gate_callee (f := 31) rfl ?_); refine goesL_ (some 86) rfl rfl Tryd.func31 (by kernel_rfl) rfl #[.slice Ao56 t113.length co56, .int .i64 1] rfl (by (try simp only [List.map_toArray, List.map_cons, List.map_nil]); first | done | rfl | (simp only [List.length_drop, List.length_take]; rfl)) ?_; (with_reducible refine (laws_markStringS.calls kj30 (fun k_ => some k_ = (.slice Ao56 t113.length co56 : Value).ownBlock) (.slice Ao56 t113.length co56) t113 1 t126 t127 w _ ?side1 ?side2 A46.out).mono ?_); (case side1 => repeat (first | (with_reducible first | exact HB.out | apply below_alloc | apply pw_below_drewN | apply below_drew1) | exact HB.out)); (case side2 => exact Kd.R_tight rfl HO_10.out); rintro e w57 ⟨rfl, hy0, hb, hkp⟩; refine ⟨_, rfl, ?_⟩; have n0_ := Aside0.mk (Kd.R_mono (ok' := fun k_ => some k_ ≠ (.slice Ao56 t113.length co56 : Value).ownBlock) (Kd.R_keptB (HO_6.out) hkp (fun k_ hk_ hs_ => (hk_) hs_)) (fun k_ hk_ => hk_.1)); have n1_ := Aside0.mk (Kd.R_reok rfl hy0 (fun k_ e_ => HO_10.out.1 k_ e_)); have n2_ := Aside0.mk (hb); clear HO_6; clear HO_10; clear HB; have HO_6 := n0_; have HO_10 := n1_; have HB := n2_; clear n0_ n1_ n2_; (try clear hb); (try clear hkp); (try clear hy0)) | ((with_reducible refine gate_callee (f := 32) rfl ?_); refine goesL_ (some 89) rfl rfl Tryd.func32 (by kernel_rfl) rfl #[.slice Ao56 t127.length co56, .int .i64 1] rfl (by (try simp only [List.map_toArray, List.map_cons, List.map_nil]); first | done | (rw [show t127.length = t113.length from (Kd.R_reads' HO_10.out).1.symm] <;> rfl) | rfl | (simp only [List.length_drop, List.length_take]; rfl)) ?_; (with_reducible refine (laws_heldStringS.calls kj30 _ _ t127 1 t128 _ ?side1 ?side2 A47.out).mono ?_); (case side1 => repeat (first | exact (Kd.R_reads' HO_10.out).2.2 | (with_reducible refine Kd.C_alloc ?_ _) | (with_reducible refine Kd.C_drewN ?_ _) | (with_reducible refine Kd.C_drew ?_))); (case side2 => rw [show t127.length = t113.length from (Kd.R_reads' HO_10.out).1.symm]; exact (Kd.R_reads' HO_10.out).2.1); rintro e w58 ⟨rfl, hb⟩; refine ⟨_, rfl, ?_⟩; have n0_ := Aside0.mk (Kd.R_below (by (with_reducible repeat (first | apply Kd.R_alloc | apply Kd.R_drewN | apply Kd.R_drew)); exact HO_6.out) hb); have n1_ := Aside0.mk (Kd.R_below (by (with_reducible repeat (first | apply Kd.R_alloc | apply Kd.R_drewN | apply Kd.R_drew)); exact HO_10.out) hb); have n2_ := Aside0.mk (below_step (by repeat (first | (with_reducible first | exact HB.out | apply below_alloc | apply pw_below_drewN | apply below_drew1) | exact HB.out)) hb); clear HO_6; clear HO_10; clear HB; have HO_6 := n0_; have HO_10 := n1_; have HB := n2_; clear n0_ n1_ n2_; (try clear hb); (try clear hb2); (try clear hk); (try clear hi)) | ((with_reducible refine gate_callee (f := 28) rfl ?_); refine goesL_ (some 97) rfl rfl Tryd.func28 (by kernel_rfl) rfl #[.slice A0 l0.length c0] rfl (by (try simp only [List.map_toArray, List.map_cons, List.map_nil]); first | done | rfl | (simp only [List.length_drop, List.length_take]; rfl)) ?_; (with_reducible refine (laws_toStringS.calls kj30 _ _ l0 t129 _ ?side1 ?side2 A53.out).mono ?_); (case side1 => repeat (first | exact (Kd.C_below HR0.out HB.out) | (with_reducible refine Kd.C_alloc ?_ _) | (with_reducible refine Kd.C_drewN ?_ _) | (with_reducible refine Kd.C_drew ?_))); (case side2 => exact HC0.out); rintro e w59 ⟨v130, rfl, ho0, hb⟩; refine ⟨_, rfl, ?_⟩; have n0_ := Aside0.mk (Kd.R_elder' (by (with_reducible repeat (first | apply Kd.R_alloc | apply Kd.R_drewN | apply Kd.R_drew)); exact HO_6.out) (Kd.R_base ho0) hb); have n1_ := Aside0.mk (Kd.R_elder' (by (with_reducible repeat (first | apply Kd.R_alloc | apply Kd.R_drewN | apply Kd.R_drew)); exact HO_10.out) (Kd.R_base ho0) hb); have n2_ := Aside0.mk (Kd.R_lower (Kd.R_new' (Kd.R_new' ho0 (Kd.R_lt (by (with_reducible repeat (first | apply Kd.R_alloc | apply Kd.R_drewN | apply Kd.R_drew)); exact HO_6.out))) (Kd.R_lt (by (with_reducible repeat (first | apply Kd.R_alloc | apply Kd.R_drewN | apply Kd.R_drew)); exact HO_10.out))) (below_size (by repeat (first | (with_reducible first | exact HB.out | apply below_alloc | apply pw_below_drewN | apply below_drew1) | exact HB.out)))); have n3_ := Aside0.mk (below_step (by repeat (first | (with_reducible first | exact HB.out | apply below_alloc | apply pw_below_drewN | apply below_drew1) | exact HB.out)) hb); clear HO_6; clear HO_10; clear HB; have HO_6 := n0_; have HO_10 := n1_; have HO131 := n2_; have HB := n3_; clear n0_ n1_ n2_ n3_; (try clear hb); (try clear hb2); (try clear hk); (try clear hi); (try clear ho0); obtain ⟨Ao60, co60, eo60⟩ := Kd.R_slice HO131.out; subst eo60) | ((with_reducible refine gate_callee (f := 34) rfl ?_); refine goesL_ (some 99) rfl rfl Tryd.func34 (by kernel_rfl) rfl #[.slice Ao60 t129.length co60, .string a1] rfl (by (try simp only [List.map_toArray, List.map_cons, List.map_nil]); first | done | rfl | (simp only [List.length_drop, List.length_take]; rfl)) ?_; (with_reducible refine (impl_NearestWords.calls kj30 _ _ t129 a1 t132 t133 t134 _ ?side1 ?side2 A54.out).mono ?_); (case side1 => repeat (first | exact (Kd.R_reads' HO131.out).2.2 | (with_reducible refine Kd.C_alloc ?_ _) | (with_reducible refine Kd.C_drewN ?_ _) | (with_reducible refine Kd.C_drew ?_))); (case side2 => exact (Kd.R_reads' HO131.out).2.1); rintro e w61 ⟨v135, rfl, ho0, hb⟩; refine ⟨_, rfl, ?_⟩; have n0_ := Aside0.mk (Kd.R_elder' (by (with_reducible repeat (first | apply Kd.R_alloc | apply Kd.R_drewN | apply Kd.R_drew)); exact HO_6.out) (Kd.R_base ho0) hb); have n1_ := Aside0.mk (Kd.R_elder' (by (with_reducible repeat (first | apply Kd.R_alloc | apply Kd.R_drewN | apply Kd.R_drew)); exact HO_10.out) (Kd.R_base ho0) hb); have n2_ := Aside0.mk (Kd.R_elder' (by (with_reducible repeat (first | apply Kd.R_alloc | apply Kd.R_drewN | apply Kd.R_drew)); exact HO131.out) (Kd.R_base ho0) hb); have n3_ := Aside0.mk (Kd.R_lower (Kd.R_new' (Kd.R_new' (Kd.R_new' ho0 (Kd.R_lt (by (with_reducible repeat (first | apply Kd.R_alloc | apply Kd.R_drewN | apply Kd.R_drew)); exact HO_6.out))) (Kd.R_lt (by (with_reducible repeat (first | apply Kd.R_alloc | apply Kd.R_drewN | apply Kd.R_drew)); exact HO_10.out))) (Kd.R_lt (by (with_reducible repeat (first | apply Kd.R_alloc | apply Kd.R_drewN | apply Kd.R_drew)); exact HO131.out))) (below_size (by repeat (first | (with_reducible first | exact HB.out | apply below_alloc | apply pw_below_drewN | apply below_drew1) | exact HB.out)))); have n4_ := Aside0.mk (below_step (by repeat (first | (with_reducible first | exact HB.out | apply below_alloc | apply pw_below_drewN | apply below_drew1) | exact HB.out)) hb); clear HO_6; clear HO_10; clear HO131; clear HB; have HO_6 := n0_; have HO_10 := n1_; have HO131 := n2_; have HO136 := n3_; have HB := n4_; clear n0_ n1_ n2_ n3_ n4_; (try clear hb); (try clear hb2); (try clear hk); (try clear hi); (try clear ho0)))
            (try simp only [Act.put, List.setIfInBounds_toArray, List.set_cons_zero, List.set_cons_succ])
            go_cut [116] (fun v116 wc => ∃ (kq : Nat) (x116_54 : Bool), v116 = .bool x116_54 ∧ Aside0 (laws_FnExactNearestWords.j2 kq t127 t126 x116_54 = some r) ∧ Aside0 (kq ≤ kj30) ∧ Aside0 (Kd.R Kd.string 9 wc w.heap.size (fun _ => True) (.slice Ao56 t113.length co56) t127) ∧ Aside0 (Below w.heap.size w wc))
            case first =>
             have H := HC55.out
             clear HC55
             replace H := Option.bind_eq_some_iff.mp H
             obtain ⟨t137, A620, H⟩ := H
             replace H : (if t137 = true then (if t133 = t106 then (laws_FnExactNearestWords.j2 kj30 t127 t126 (t134 != t107)) else (laws_FnExactNearestWords.j2 kj30 t127 t126 true)) else (laws_FnExactNearestWords.j2 kj30 t127 t126 true)) = some r := H
             have A62 := Aside0.mk A620
             clear A620
             by_cases c63 : t137 = true
             ·
              subst c63
              have H1 : (if t133 = t106 then (laws_FnExactNearestWords.j2 kj30 t127 t126 (t134 != t107)) else (laws_FnExactNearestWords.j2 kj30 t127 t126 true)) = some r := by rw [if_pos rfl] at H; exact H
              clear H
              have H := H1
              clear H1
              by_cases c64 : t133 = t106
              ·
               rw [if_pos c64] at H
               have c64b0 : (t133 == t106) = true := beq_iff_eq.mpr c64
               have c64b1 : (t133 != t106) = false := bne_eq_false_iff_eq.mpr c64
               clear c64
               (first | rw [c64b0] | (simp only [i64_w, i32_w]; rw [c64b0]) | skip)
               have H' := Aside0.mk H
               clear H
               obtain ⟨Ao65, co65, eo65⟩ := Kd.R_slice HO136.out
               subst eo65
               obtain ⟨Ao66, co66, eo66⟩ := Kd.R_slice HO_6.out
               subst eo66
               go_wp2_with (first | ((with_reducible refine gate_callee (f := 30) rfl ?_); refine goesL_ (some 105) rfl rfl Tryd.func30 (by kernel_rfl) rfl #[.slice Ao65 t132.length co65, .slice Ao66 t105.length co66] rfl (by (try simp only [List.map_toArray, List.map_cons, List.map_nil]); first | done | rfl | (simp only [List.length_drop, List.length_take]; rfl)) ?_; (with_reducible refine (laws_eqStringS.calls kj30 _ _ t132 _ _ t105 true _ ?side1 ?side2 ?side3 ?side4 A62.out).mono ?_); (case side1 => repeat (first | exact (Kd.R_reads' HO136.out).2.2 | (with_reducible refine Kd.C_alloc ?_ _) | (with_reducible refine Kd.C_drewN ?_ _) | (with_reducible refine Kd.C_drew ?_))); (case side2 => exact (Kd.R_reads' HO136.out).2.1); (case side3 => repeat (first | exact (Kd.R_reads' HO_6.out).2.2 | (with_reducible refine Kd.C_alloc ?_ _) | (with_reducible refine Kd.C_drewN ?_ _) | (with_reducible refine Kd.C_drew ?_))); (case side4 => exact (Kd.R_reads' HO_6.out).2.1); rintro e w' ⟨rfl, ⟨nd, rfl⟩⟩; refine ⟨_, rfl, ?_⟩))
               go_meet
               case rel => exact ⟨_, ((t134 != t107)), (by first | rfl | (simp; done) | (simp [*]; done)), H', ⟨by have := HJ9.out; have := HJ30.out; first | omega | exact Nat.le_refl _⟩, ⟨by (with_reducible repeat (first | apply Kd.R_alloc | apply Kd.R_drewN | apply Kd.R_drew)); exact Kd.R_mono HO_10.out (fun _ hk => trivial)⟩, ⟨by repeat (first | (with_reducible first | exact HB.out | apply below_alloc | apply pw_below_drewN | apply below_drew1) | exact HB.out)⟩⟩
              ·
               rw [if_neg c64] at H
               have c64b0 : (t133 == t106) = false := beq_eq_false_iff_ne.mpr c64
               have c64b1 : (t133 != t106) = true := bne_iff_ne.mpr c64
               (first | rw [c64b0] | (simp only [i64_w, i32_w]; rw [c64b0]) | skip)
               have H' := Aside0.mk H
               clear H
               obtain ⟨Ao67, co67, eo67⟩ := Kd.R_slice HO136.out
               subst eo67
               obtain ⟨Ao68, co68, eo68⟩ := Kd.R_slice HO_6.out
               subst eo68
               go_wp2_with (first | ((with_reducible refine gate_callee (f := 30) rfl ?_); refine goesL_ (some 105) rfl rfl Tryd.func30 (by kernel_rfl) rfl #[.slice Ao67 t132.length co67, .slice Ao68 t105.length co68] rfl (by (try simp only [List.map_toArray, List.map_cons, List.map_nil]); first | done | rfl | (simp only [List.length_drop, List.length_take]; rfl)) ?_; (with_reducible refine (laws_eqStringS.calls kj30 _ _ t132 _ _ t105 true _ ?side1 ?side2 ?side3 ?side4 A62.out).mono ?_); (case side1 => repeat (first | exact (Kd.R_reads' HO136.out).2.2 | (with_reducible refine Kd.C_alloc ?_ _) | (with_reducible refine Kd.C_drewN ?_ _) | (with_reducible refine Kd.C_drew ?_))); (case side2 => exact (Kd.R_reads' HO136.out).2.1); (case side3 => repeat (first | exact (Kd.R_reads' HO_6.out).2.2 | (with_reducible refine Kd.C_alloc ?_ _) | (with_reducible refine Kd.C_drewN ?_ _) | (with_reducible refine Kd.C_drew ?_))); (case side4 => exact (Kd.R_reads' HO_6.out).2.1); rintro e w' ⟨rfl, ⟨nd, rfl⟩⟩; refine ⟨_, rfl, ?_⟩))
               go_meet
               case rel => exact ⟨_, (true), (by first | rfl | (simp; done) | (simp [*]; done)), H', ⟨by have := HJ9.out; have := HJ30.out; first | omega | exact Nat.le_refl _⟩, ⟨by (with_reducible repeat (first | apply Kd.R_alloc | apply Kd.R_drewN | apply Kd.R_drew)); exact Kd.R_mono HO_10.out (fun _ hk => trivial)⟩, ⟨by repeat (first | (with_reducible first | exact HB.out | apply below_alloc | apply pw_below_drewN | apply below_drew1) | exact HB.out)⟩⟩
             ·
              replace c63 := Bool.eq_false_iff.mpr c63
              subst c63
              have H1 : (laws_FnExactNearestWords.j2 kj30 t127 t126 true) = some r := by rw [if_neg (show ¬ (false = true) by decide)] at H; exact H
              clear H
              have H := H1
              clear H1
              have H' := Aside0.mk H
              clear H
              obtain ⟨Ao69, co69, eo69⟩ := Kd.R_slice HO136.out
              subst eo69
              obtain ⟨Ao70, co70, eo70⟩ := Kd.R_slice HO_6.out
              subst eo70
              go_wp2_with (first | ((with_reducible refine gate_callee (f := 30) rfl ?_); refine goesL_ (some 105) rfl rfl Tryd.func30 (by kernel_rfl) rfl #[.slice Ao69 t132.length co69, .slice Ao70 t105.length co70] rfl (by (try simp only [List.map_toArray, List.map_cons, List.map_nil]); first | done | rfl | (simp only [List.length_drop, List.length_take]; rfl)) ?_; (with_reducible refine (laws_eqStringS.calls kj30 _ _ t132 _ _ t105 false _ ?side1 ?side2 ?side3 ?side4 A62.out).mono ?_); (case side1 => repeat (first | exact (Kd.R_reads' HO136.out).2.2 | (with_reducible refine Kd.C_alloc ?_ _) | (with_reducible refine Kd.C_drewN ?_ _) | (with_reducible refine Kd.C_drew ?_))); (case side2 => exact (Kd.R_reads' HO136.out).2.1); (case side3 => repeat (first | exact (Kd.R_reads' HO_6.out).2.2 | (with_reducible refine Kd.C_alloc ?_ _) | (with_reducible refine Kd.C_drewN ?_ _) | (with_reducible refine Kd.C_drew ?_))); (case side4 => exact (Kd.R_reads' HO_6.out).2.1); rintro e w' ⟨rfl, ⟨nd, rfl⟩⟩; refine ⟨_, rfl, ?_⟩))
              go_meet
              case rel => exact ⟨_, (true), (by first | rfl | (simp; done) | (simp [*]; done)), H', ⟨by have := HJ9.out; have := HJ30.out; first | omega | exact Nat.le_refl _⟩, ⟨by (with_reducible repeat (first | apply Kd.R_alloc | apply Kd.R_drewN | apply Kd.R_drew)); exact Kd.R_mono HO_10.out (fun _ hk => trivial)⟩, ⟨by repeat (first | (with_reducible first | exact HB.out | apply below_alloc | apply pw_below_drewN | apply below_drew1) | exact HB.out)⟩⟩
            case rest =>
             clear HC55
             try clear c1
             try clear c2
             try clear p2
             try clear c3
             try clear c3b0
             try clear c3b1
             try clear c4
             try clear c5
             try clear c5b0
             try clear c6
             try clear c11
             try clear c18
             try clear c19
             try clear c19b0
             try clear c19b1
             try clear c26
             try clear c28
             try clear c29
             try clear c30
             try clear c31
             try clear c32
             try clear c33
             try clear c34
             try clear c35
             try clear c35b0
             try clear c37
             try clear c38
             try clear c38b0
             try clear c38b1
             try clear c45
             try clear c48
             try clear c48b0
             try clear c52
             try clear c52b0
             try clear c52b1
             try clear c63
             try clear c64
             try clear c64b0
             try clear c64b1
             try clear p2
             obtain ⟨kq, x116_54, rfl, HA, HJ54, HO_10, HB⟩ := hcut
             have hl10_54 := (Kd.R_reads' HO_10.out).1
             rw [hl10_54] at HO_10
             (try simp only [hl10_54])
             cases kq with
             | zero => exact absurd HA.out (by simp [laws_FnExactNearestWords.j2])
             | succ kj54 =>
              have H := HA.out
              clear HA
              simp only [laws_FnExactNearestWords.j2] at H
              by_cases c71 : x116_54 = true
              ·
               subst c71
               have H1 : (some false) = some r := by rw [if_pos rfl] at H; exact H
               clear H
               have H := H1
               clear H1
               obtain rfl := Option.some.inj H
               go_wp2
               go_ret
               exact ⟨by first | rfl | (simp [errW_none, errW_some] <;> rfl) | (simp [*, errW_none, errW_some] <;> rfl), by repeat (first | (with_reducible first | exact HB.out | apply below_alloc | apply pw_below_drewN | apply below_drew1) | exact HB.out)⟩
              ·
               replace c71 := Bool.eq_false_iff.mpr c71
               subst c71
               have H1 : ((laws_heldStringS.f kj54 t127 1).bind fun t138 => (if t138 < 0 then (some false) else (if t138 = t126 then (some true) else (some false)))) = some r := by rw [if_neg (show ¬ (false = true) by decide)] at H; exact H
               clear H
               have H := H1
               clear H1
               replace H := Option.bind_eq_some_iff.mp H
               obtain ⟨t138, A720, H⟩ := H
               replace H : (if t138 < 0 then (some false) else (if t138 = t126 then (some true) else (some false))) = some r := H
               have A72 := Aside0.mk A720
               clear A720
               by_cases c73 : t138 < 0
               ·
                rw [if_pos c73] at H
                have c73b0 : decide (t138 < 0) = true := decide_eq_true c73
                clear c73
                obtain rfl := Option.some.inj H
                go_wp2_with (first | ((with_reducible refine gate_callee (f := 32) rfl ?_); refine goesL_ (some 119) rfl rfl Tryd.func32 (by kernel_rfl) rfl #[.slice Ao56 t127.length co56, .int .i64 1] rfl (by (try simp only [List.map_toArray, List.map_cons, List.map_nil]); first | done | rfl | (simp only [List.length_drop, List.length_take]; rfl)) ?_; (with_reducible refine (laws_heldStringS.calls kj54 _ _ t127 1 t138 _ ?side1 ?side2 A72.out).mono ?_); (case side1 => repeat (first | exact (Kd.R_reads' HO_10.out).2.2 | (with_reducible refine Kd.C_alloc ?_ _) | (with_reducible refine Kd.C_drewN ?_ _) | (with_reducible refine Kd.C_drew ?_))); (case side2 => exact (Kd.R_reads' HO_10.out).2.1); rintro e w74 ⟨rfl, hb⟩; refine ⟨_, rfl, ?_⟩; have n0_ := Aside0.mk (Kd.R_below (by (with_reducible repeat (first | apply Kd.R_alloc | apply Kd.R_drewN | apply Kd.R_drew)); exact HO_10.out) hb); have n1_ := Aside0.mk (below_step (by repeat (first | (with_reducible first | exact HB.out | apply below_alloc | apply pw_below_drewN | apply below_drew1) | exact HB.out)) hb); clear HO_10; clear HB; have HO_10 := n0_; have HB := n1_; clear n0_ n1_; (try clear hb); (try clear hb2); (try clear hk); (try clear hi)))
                go_ret
                exact ⟨by first | rfl | (simp [errW_none, errW_some] <;> rfl) | (simp [*, errW_none, errW_some] <;> rfl), by repeat (first | (with_reducible first | exact HB.out | apply below_alloc | apply pw_below_drewN | apply below_drew1) | exact HB.out)⟩
               ·
                rw [if_neg c73] at H
                have c73b0 : decide (t138 < 0) = false := decide_eq_false c73
                clear c73
                by_cases c75 : t138 = t126
                ·
                 rw [if_pos c75] at H
                 have c75b0 : (t138 == t126) = true := beq_iff_eq.mpr c75
                 have c75b1 : (t138 != t126) = false := bne_eq_false_iff_eq.mpr c75
                 clear c75
                 obtain rfl := Option.some.inj H
                 go_wp2_with (first | ((with_reducible refine gate_callee (f := 32) rfl ?_); refine goesL_ (some 119) rfl rfl Tryd.func32 (by kernel_rfl) rfl #[.slice Ao56 t127.length co56, .int .i64 1] rfl (by (try simp only [List.map_toArray, List.map_cons, List.map_nil]); first | done | rfl | (simp only [List.length_drop, List.length_take]; rfl)) ?_; (with_reducible refine (laws_heldStringS.calls kj54 _ _ t127 1 t138 _ ?side1 ?side2 A72.out).mono ?_); (case side1 => repeat (first | exact (Kd.R_reads' HO_10.out).2.2 | (with_reducible refine Kd.C_alloc ?_ _) | (with_reducible refine Kd.C_drewN ?_ _) | (with_reducible refine Kd.C_drew ?_))); (case side2 => exact (Kd.R_reads' HO_10.out).2.1); rintro e w76 ⟨rfl, hb⟩; refine ⟨_, rfl, ?_⟩; have n0_ := Aside0.mk (Kd.R_below (by (with_reducible repeat (first | apply Kd.R_alloc | apply Kd.R_drewN | apply Kd.R_drew)); exact HO_10.out) hb); have n1_ := Aside0.mk (below_step (by repeat (first | (with_reducible first | exact HB.out | apply below_alloc | apply pw_below_drewN | apply below_drew1) | exact HB.out)) hb); clear HO_10; clear HB; have HO_10 := n0_; have HB := n1_; clear n0_ n1_; (try clear hb); (try clear hb2); (try clear hk); (try clear hi)))
                 go_ret
                 exact ⟨by first | rfl | (simp [errW_none, errW_some] <;> rfl) | (simp [*, errW_none, errW_some] <;> rfl), by repeat (first | (with_reducible first | exact HB.out | apply below_alloc | apply pw_below_drewN | apply below_drew1) | exact HB.out)⟩
                ·
                 rw [if_neg c75] at H
                 have c75b0 : (t138 == t126) = false := beq_eq_false_iff_ne.mpr c75
                 have c75b1 : (t138 != t126) = true := bne_iff_ne.mpr c75
                 obtain rfl := Option.some.inj H
                 go_wp2_with (first | ((with_reducible refine gate_callee (f := 32) rfl ?_); refine goesL_ (some 119) rfl rfl Tryd.func32 (by kernel_rfl) rfl #[.slice Ao56 t127.length co56, .int .i64 1] rfl (by (try simp only [List.map_toArray, List.map_cons, List.map_nil]); first | done | rfl | (simp only [List.length_drop, List.length_take]; rfl)) ?_; (with_reducible refine (laws_heldStringS.calls kj54 _ _ t127 1 t138 _ ?side1 ?side2 A72.out).mono ?_); (case side1 => repeat (first | exact (Kd.R_reads' HO_10.out).2.2 | (with_reducible refine Kd.C_alloc ?_ _) | (with_reducible refine Kd.C_drewN ?_ _) | (with_reducible refine Kd.C_drew ?_))); (case side2 => exact (Kd.R_reads' HO_10.out).2.1); rintro e w77 ⟨rfl, hb⟩; refine ⟨_, rfl, ?_⟩; have n0_ := Aside0.mk (Kd.R_below (by (with_reducible repeat (first | apply Kd.R_alloc | apply Kd.R_drewN | apply Kd.R_drew)); exact HO_10.out) hb); have n1_ := Aside0.mk (below_step (by repeat (first | (with_reducible first | exact HB.out | apply below_alloc | apply pw_below_drewN | apply below_drew1) | exact HB.out)) hb); clear HO_10; clear HB; have HO_10 := n0_; have HB := n1_; clear n0_ n1_; (try clear hb); (try clear hb2); (try clear hk); (try clear hi)))
                 go_ret
                 exact ⟨by first | rfl | (simp [errW_none, errW_some] <;> rfl) | (simp [*, errW_none, errW_some] <;> rfl), by repeat (first | (with_reducible first | exact HB.out | apply below_alloc | apply pw_below_drewN | apply below_drew1) | exact HB.out)⟩
           ·
            rw [if_neg c52] at H
            have c52b0 : (t128 == t126) = false := beq_eq_false_iff_ne.mpr c52
            have c52b1 : (t128 != t126) = true := bne_iff_ne.mpr c52
            obtain rfl := Option.some.inj H
            obtain ⟨Ao78, co78, eo78⟩ := Kd.R_slice HO_10.out
            subst eo78
            go_wp2_with (first | ((with_reducible refine gate_callee (f := 31) rfl ?_); refine goesL_ (some 86) rfl rfl Tryd.func31 (by kernel_rfl) rfl #[.slice Ao78 t113.length co78, .int .i64 1] rfl (by (try simp only [List.map_toArray, List.map_cons, List.map_nil]); first | done | rfl | (simp only [List.length_drop, List.length_take]; rfl)) ?_; (with_reducible refine (laws_markStringS.calls kj30 (fun k_ => some k_ = (.slice Ao78 t113.length co78 : Value).ownBlock) (.slice Ao78 t113.length co78) t113 1 t126 t127 w _ ?side1 ?side2 A46.out).mono ?_); (case side1 => repeat (first | (with_reducible first | exact HB.out | apply below_alloc | apply pw_below_drewN | apply below_drew1) | exact HB.out)); (case side2 => exact Kd.R_tight rfl HO_10.out); rintro e w79 ⟨rfl, hy0, hb, hkp⟩; refine ⟨_, rfl, ?_⟩; have n0_ := Aside0.mk (Kd.R_mono (ok' := fun k_ => some k_ ≠ (.slice Ao78 t113.length co78 : Value).ownBlock) (Kd.R_keptB (HO_6.out) hkp (fun k_ hk_ hs_ => (hk_) hs_)) (fun k_ hk_ => hk_.1)); have n1_ := Aside0.mk (Kd.R_reok rfl hy0 (fun k_ e_ => HO_10.out.1 k_ e_)); have n2_ := Aside0.mk (hb); clear HO_6; clear HO_10; clear HB; have HO_6 := n0_; have HO_10 := n1_; have HB := n2_; clear n0_ n1_ n2_; (try clear hb); (try clear hkp); (try clear hy0)) | ((with_reducible refine gate_callee (f := 32) rfl ?_); refine goesL_ (some 89) rfl rfl Tryd.func32 (by kernel_rfl) rfl #[.slice Ao78 t127.length co78, .int .i64 1] rfl (by (try simp only [List.map_toArray, List.map_cons, List.map_nil]); first | done | (rw [show t127.length = t113.length from (Kd.R_reads' HO_10.out).1.symm] <;> rfl) | rfl | (simp only [List.length_drop, List.length_take]; rfl)) ?_; (with_reducible refine (laws_heldStringS.calls kj30 _ _ t127 1 t128 _ ?side1 ?side2 A47.out).mono ?_); (case side1 => repeat (first | exact (Kd.R_reads' HO_10.out).2.2 | (with_reducible refine Kd.C_alloc ?_ _) | (with_reducible refine Kd.C_drewN ?_ _) | (with_reducible refine Kd.C_drew ?_))); (case side2 => rw [show t127.length = t113.length from (Kd.R_reads' HO_10.out).1.symm]; exact (Kd.R_reads' HO_10.out).2.1); rintro e w80 ⟨rfl, hb⟩; refine ⟨_, rfl, ?_⟩; have n0_ := Aside0.mk (Kd.R_below (by (with_reducible repeat (first | apply Kd.R_alloc | apply Kd.R_drewN | apply Kd.R_drew)); exact HO_6.out) hb); have n1_ := Aside0.mk (Kd.R_below (by (with_reducible repeat (first | apply Kd.R_alloc | apply Kd.R_drewN | apply Kd.R_drew)); exact HO_10.out) hb); have n2_ := Aside0.mk (below_step (by repeat (first | (with_reducible first | exact HB.out | apply below_alloc | apply pw_below_drewN | apply below_drew1) | exact HB.out)) hb); clear HO_6; clear HO_10; clear HB; have HO_6 := n0_; have HO_10 := n1_; have HB := n2_; clear n0_ n1_ n2_; (try clear hb); (try clear hb2); (try clear hk); (try clear hi)))
            go_ret
            exact ⟨by first | rfl | (simp [errW_none, errW_some] <;> rfl) | (simp [*, errW_none, errW_some] <;> rfl), by repeat (first | (with_reducible first | exact HB.out | apply below_alloc | apply pw_below_drewN | apply below_drew1) | exact HB.out)⟩
      ·
       replace c29 := Bool.eq_false_iff.mpr c29
       subst c29
       have H1 : (some false) = some r := by rw [if_neg (show ¬ (false = true) by decide)] at H; exact H
       clear H
       have H := H1
       clear H1
       obtain rfl := Option.some.inj H
       go_wp2_with (first | ((with_reducible refine gate_callee (f := 28) rfl ?_); refine goesL_ (some 60) rfl rfl Tryd.func28 (by kernel_rfl) rfl #[.slice A0 l0.length c0] rfl (by (try simp only [List.map_toArray, List.map_cons, List.map_nil]); first | done | rfl | (simp only [List.length_drop, List.length_take]; rfl)) ?_; (with_reducible refine (laws_toStringS.calls kj9 _ _ l0 t119 _ ?side1 ?side2 A27.out).mono ?_); (case side1 => repeat (first | exact (Kd.C_below HR0.out HB.out) | (with_reducible refine Kd.C_alloc ?_ _) | (with_reducible refine Kd.C_drewN ?_ _) | (with_reducible refine Kd.C_drew ?_))); (case side2 => exact HC0.out); rintro e w81 ⟨v120, rfl, ho0, hb⟩; refine ⟨_, rfl, ?_⟩; have n0_ := Aside0.mk (Kd.R_elder' (by (with_reducible repeat (first | apply Kd.R_alloc | apply Kd.R_drewN | apply Kd.R_drew)); exact HO_6.out) (Kd.R_base ho0) hb); have n1_ := Aside0.mk (Kd.R_elder' (by (with_reducible repeat (first | apply Kd.R_alloc | apply Kd.R_drewN | apply Kd.R_drew)); exact HO_9.out) (Kd.R_base ho0) hb); have n2_ := Aside0.mk (Kd.R_elder' (by (with_reducible repeat (first | apply Kd.R_alloc | apply Kd.R_drewN | apply Kd.R_drew)); exact HO_10.out) (Kd.R_base ho0) hb); have n3_ := Aside0.mk (Kd.R_lower (Kd.R_new' (Kd.R_new' (Kd.R_new' ho0 (Kd.R_lt (by (with_reducible repeat (first | apply Kd.R_alloc | apply Kd.R_drewN | apply Kd.R_drew)); exact HO_6.out))) (Kd.R_lt (by (with_reducible repeat (first | apply Kd.R_alloc | apply Kd.R_drewN | apply Kd.R_drew)); exact HO_9.out))) (Kd.R_lt (by (with_reducible repeat (first | apply Kd.R_alloc | apply Kd.R_drewN | apply Kd.R_drew)); exact HO_10.out))) (below_size (by repeat (first | (with_reducible first | exact HB.out | apply below_alloc | apply pw_below_drewN | apply below_drew1) | exact HB.out)))); have n4_ := Aside0.mk (below_step (by repeat (first | (with_reducible first | exact HB.out | apply below_alloc | apply pw_below_drewN | apply below_drew1) | exact HB.out)) hb); clear HO_6; clear HO_9; clear HO_10; clear HB; have HO_6 := n0_; have HO_9 := n1_; have HO_10 := n2_; have HO121 := n3_; have HB := n4_; clear n0_ n1_ n2_ n3_ n4_; (try clear hb); (try clear hb2); (try clear hk); (try clear hi); (try clear ho0); obtain ⟨Ao82, co82, eo82⟩ := Kd.R_slice HO121.out; subst eo82) | ((with_reducible refine gate_callee (f := 30) rfl ?_); refine goesL_ (some 61) rfl rfl Tryd.func30 (by kernel_rfl) rfl #[.slice Ao15 t110.length co15, .slice Ao82 t119.length co82] rfl (by (try simp only [List.map_toArray, List.map_cons, List.map_nil]); first | done | rfl | (simp only [List.length_drop, List.length_take]; rfl)) ?_; (with_reducible refine (laws_eqStringS.calls kj9 _ _ t110 _ _ t119 false _ ?side1 ?side2 ?side3 ?side4 A28.out).mono ?_); (case side1 => repeat (first | exact (Kd.R_reads' HO_9.out).2.2 | (with_reducible refine Kd.C_alloc ?_ _) | (with_reducible refine Kd.C_drewN ?_ _) | (with_reducible refine Kd.C_drew ?_))); (case side2 => exact (Kd.R_reads' HO_9.out).2.1); (case side3 => repeat (first | exact (Kd.R_reads' HO121.out).2.2 | (with_reducible refine Kd.C_alloc ?_ _) | (with_reducible refine Kd.C_drewN ?_ _) | (with_reducible refine Kd.C_drew ?_))); (case side4 => exact (Kd.R_reads' HO121.out).2.1); rintro e w' ⟨rfl, ⟨nd, rfl⟩⟩; refine ⟨_, rfl, ?_⟩))
       go_ret
       exact ⟨by first | rfl | (simp [errW_none, errW_some] <;> rfl) | (simp [*, errW_none, errW_some] <;> rfl), by repeat (first | (with_reducible first | exact HB.out | apply below_alloc | apply pw_below_drewN | apply below_drew1) | exact HB.out)⟩

end Go.Proofs.YtamhlbdjjfdbiaaDoor.P

namespace Go.Proofs.YtamhlbdjjfdbiaaDoor
open Go.RowKit Go.Proofs.YtamhlbdjjfdbiaaDoor.P Go.Proofs.YtamhlbdjjfdbiaaDoorW.PrintWords Go.Proofs.YtamhlbdjjfdbiaaDoorW.PrintLast
/-- The pure statement of FnExactNearestWords. -/
def PureFnExactNearestWords : Prop := ∀ (l0 : List ByteArray) (a1 : ByteArray), (l0.length ≤ 9223372036854775807 ∧ ∀ s ∈ l0, s.size ≤ 9223372036854775807) → a1.size ≤ 9223372036854775807 →  ∃ k, laws_FnExactNearestWords.f k l0 a1 = some true
end Go.Proofs.YtamhlbdjjfdbiaaDoor

namespace Go.Proofs.YtamhlbdjjfdbiaaDoor
open Go.RowKit Go.Proofs.YtamhlbdjjfdbiaaDoorW.PrintWords
/-! Plain words for the pure statements: answers that stand from some number of rounds on. -/
theorem Ev.succ {α : Type} {g : Nat → Option α} {r : α} (h : Ev (fun k => g (k + 1)) r) : Ev g r := Ev.step (fun _ => rfl) h
theorem Ev.const {α : Type} {a : Option α} {r : α} (h : a = some r) : Ev (fun _ => a) r := ⟨0, fun _ _ => h⟩
theorem Ev.pos {α : Type} {c : Prop} [Decidable c] {g f : Nat → Option α} {r : α} (hc : c) (h : Ev g r) : Ev (fun k => if c then g k else f k) r := by simp only [if_pos hc]; exact h
theorem Ev.neg {α : Type} {c : Prop} [Decidable c] {g f : Nat → Option α} {r : α} (hc : ¬ c) (h : Ev f r) : Ev (fun k => if c then g k else f k) r := by simp only [if_neg hc]; exact h
theorem Ev.yes {α : Type} {c : Prop} [Decidable c] {g f : Nat → Option α} {r : α} (h : Ev g r) (hc : c := by first | omega | rfl | trivial | decide | simp | (simp; omega)) : Ev (fun k => if c then g k else f k) r := Ev.pos hc h
theorem Ev.no {α : Type} {c : Prop} [Decidable c] {g f : Nat → Option α} {r : α} (h : Ev f r) (hc : ¬ c := by first | omega | decide | simp | (simp; omega)) : Ev (fun k => if c then g k else f k) r := Ev.neg hc h
theorem Ev.bindc {α β : Type} {a : Option α} {x : α} {f : Nat → α → Option β} {r : β} (h : a = some x) (k : Ev (fun n => f n x) r) : Ev (fun n => a.bind (f n)) r := by subst h; exact k
theorem wrap_id {n : Int} (h1 : -9223372036854775808 ≤ n) (h2 : n ≤ 9223372036854775807) : wrap64 n = n := IntWalk.wrap64_in n ⟨h1, h2⟩
theorem wf_i64 {n : Int} (h : (Lit.int .i64 n).wf = true) : -9223372036854775808 ≤ n ∧ n ≤ 9223372036854775807 := by
  have e1 : IntKind.i64.min = -9223372036854775808 := rfl
  have e2 : IntKind.i64.max = 9223372036854775807 := rfl
  simp only [Lit.wf, e1, e2, Bool.and_eq_true, decide_eq_true_eq] at h
  exact h
theorem rd_nat (l : List Int) (j : Nat) (h : j < l.length) : rd l (j : Int) = l[j] := by unfold rd; simp [List.getD, h]
end Go.Proofs.YtamhlbdjjfdbiaaDoor

namespace Go.Proofs.YtamhlbdjjfdbiaaDoor
open Go.RowKit Go.Proofs.YtamhlbdjjfdbiaaDoorW.PrintWords
set_option linter.unusedSimpArgs false
set_option linter.unusedVariables false
/-! Strings as lists of bytes. -/
/-- A string's bytes. -/
def bl (s : ByteArray) : List UInt8 := s.data.toList
theorem bl_len (s : ByteArray) : s.size = (bl s).length := rfl
theorem bl_inj {s t : ByteArray} (h : bl s = bl t) : s = t := ByteArray.ext (Array.toList_inj.1 h)
theorem bl_toList (s : ByteArray) : s.toList = bl s := Go.ByteArray.toList_eq s
theorem bl_mk (a : Array UInt8) : bl ⟨a⟩ = a.toList := rfl
theorem mk_bl (s : ByteArray) : (⟨(bl s).toArray⟩ : ByteArray) = s := bl_inj (by simp [bl])
theorem bl_extract (s : ByteArray) (i j : Nat) : bl (s.extract i j) = ((bl s).drop i).take (j - i) := by simp [bl, ByteArray.data_extract]
theorem bl_append (s t : ByteArray) : bl (s ++ t) = bl s ++ bl t := by simp [bl, ByteArray.data_append]
theorem bl_nums (l : List Int) : bl (strOfNums l) = l.map fun n => UInt8.ofNat n.toNat := rfl
theorem bl_empty : bl (⟨#[]⟩ : ByteArray) = [] := rfl
theorem bt_nat (s : ByteArray) (i : Nat) (h : i < (bl s).length) : bt s (i : Int) = ((bl s)[i].toNat : Int) := by
  unfold bt
  have h' : ((i : Int)).toNat < s.size := by rw [Int.toNat_natCast]; exact h
  rw [dif_pos h']; rfl
theorem of_toNat (c : UInt8) : UInt8.ofNat ((c.toNat : Int)).toNat = c := by rw [Int.toNat_natCast]; simp
theorem bt_of (s : ByteArray) (i : Nat) (h : i < (bl s).length) : UInt8.ofNat (bt s (i : Int)).toNat = (bl s)[i] := by rw [bt_nat s i h]; exact of_toNat _
theorem byte_eq (c d : UInt8) : ((c.toNat : Int) = (d.toNat : Int)) ↔ c = d := by
  constructor
  · intro h; exact UInt8.toNat_inj.1 (by exact_mod_cast h)
  · intro h; rw [h]
theorem byte_lt (c d : UInt8) : ((c.toNat : Int) < (d.toNat : Int)) ↔ c < d := by rw [UInt8.lt_iff_toNat_lt]; omega
theorem byte_le (c d : UInt8) : ((c.toNat : Int) ≤ (d.toNat : Int)) ↔ c ≤ d := by rw [UInt8.le_iff_toNat_le]; omega
theorem dropWhile_nil {α : Type} (p : α → Bool) : ∀ l : List α, l.dropWhile p = [] ↔ l.all p = true
  | [] => by simp
  | x :: xs => by
    by_cases h : p x = true
    · simp [List.dropWhile_cons, h, dropWhile_nil p xs]
    · simp [List.dropWhile_cons, h]
theorem dropWhile_keeps {α : Type} (p : α → Bool) : ∀ l : List α, (l.dropWhile p).all p = l.all p
  | [] => rfl
  | x :: xs => by
    by_cases h : p x = true
    · simp only [List.dropWhile_cons, h, if_true, List.all_cons, Bool.true_and]; exact dropWhile_keeps p xs
    · simp [List.dropWhile_cons, h]
theorem trimS_nil (l cs : List UInt8) : Lib.trimS l cs = [] ↔ l.all (cs.contains ·) = true := by
  unfold Lib.trimS Lib.trimLeftS Lib.trimRightS
  rw [dropWhile_nil, List.all_reverse, dropWhile_keeps, List.all_reverse]
theorem indexByte_neg (l : List UInt8) (c : UInt8) : Lib.indexByte l c < 0 ↔ ¬ c ∈ l := by
  induction l with
  | nil => simp [Lib.indexByte]
  | cons b l ih =>
    have hge := Lib.indexByte_ge l c
    unfold Lib.indexByte
    by_cases h : b = c
    · subst h; simp
    · have h1 : (b == c) = false := by simpa using h
      rw [h1]
      have h2 : ¬ c = b := fun e => h e.symm
      simp only [Bool.false_eq_true, if_false, List.mem_cons, h2, false_or]
      by_cases e : Lib.indexByte l c = -1
      · simp only [e, beq_self_eq_true, if_true]
        have := ih.1 (by omega)
        simp [this]
      · have e' : (Lib.indexByte l c == -1) = false := by simpa using e
        rw [e']
        simp only [Bool.false_eq_true, if_false]
        have hp : ¬ Lib.indexByte l c < 0 := by omega
        have := mt ih.2 hp
        constructor
        · intro h3; omega
        · intro h3; exact absurd h3 this
/-- The letters. -/
def isLow (c : UInt8) : Bool := decide (97 ≤ c.toNat) && decide (c.toNat ≤ 122)
theorem u8_all (P : UInt8 → Prop) [DecidablePred P] (h : ∀ n, n < 256 → P (UInt8.ofNat n)) (c : UInt8) : P c := by
  have := h c.toNat c.toNat_lt
  rwa [show UInt8.ofNat c.toNat = c from by simp] at this
theorem low_contains (c : UInt8) : ([97, 98, 99, 100, 101, 102, 103, 104, 105, 106, 107, 108, 109, 110, 111, 112, 113, 114, 115, 116, 117, 118, 119, 120, 121, 122] : List UInt8).contains c = isLow c := by
  refine u8_all (fun c => _ = isLow c) ?_ c
  decide +kernel
theorem dig_contains (c : UInt8) : ([48, 49, 50, 51, 52, 53, 54, 55, 56, 57] : List UInt8).contains c = (decide (48 ≤ c.toNat) && decide (c.toNat ≤ 57)) := by
  refine u8_all (fun c => _ = (decide (48 ≤ c.toNat) && decide (c.toNat ≤ 57))) ?_ c
  decide +kernel
end Go.Proofs.YtamhlbdjjfdbiaaDoor

namespace Go.Proofs.YtamhlbdjjfdbiaaDoor
open Go.RowKit Go.Proofs.YtamhlbdjjfdbiaaDoor.P Go.Proofs.YtamhlbdjjfdbiaaDoorW.PrintWords
set_option linter.unusedSimpArgs false
set_option linter.unusedVariables false
theorem over_eq (s cs : ByteArray) (h1 : s.size ≤ 9223372036854775807) (h2 : cs.size < 4294967281) (h3 : (bl cs).all (fun b => decide (b.toNat < 128)) = true) : impl_over.f s cs = some ((bl s).all ((bl cs).contains ·)) := by
  unfold impl_over.f strings_Trim.f
  rw [if_pos ⟨h1, h2, h3⟩]
  simp only [Option.bind_some]
  congr 1
  rw [bl_toList, bl_mk, List.toList_toArray]
  have := trimS_nil (bl s) (bl cs)
  unfold bl at this ⊢
  rw [Bool.eq_iff_iff, beq_iff_eq]
  exact this
theorem overLow_eq (s : ByteArray) (h1 : s.size ≤ 9223372036854775807) : impl_over.f s (⟨#[97, 98, 99, 100, 101, 102, 103, 104, 105, 106, 107, 108, 109, 110, 111, 112, 113, 114, 115, 116, 117, 118, 119, 120, 121, 122]⟩ : ByteArray) = some ((bl s).all isLow) := by
  rw [over_eq s _ h1 (by decide) (by decide)]
  congr 1
  congr 1
  funext c
  exact low_contains c
/-- Is it a text? -/
def textB (l : List UInt8) : Bool := decide (l.length ≤ 20) && l.all isLow
theorem isText_eq (s : ByteArray) (h1 : s.size ≤ 9223372036854775807) : impl_isText.f s = some (textB (bl s)) := by
  unfold impl_isText.f textB
  by_cases c : s.size ≤ 20
  · rw [if_pos (by omega), overLow_eq s h1, decide_eq_true (by rw [← bl_len]; exact c)]; rfl
  · rw [if_neg (by omega), decide_eq_false (by rw [← bl_len]; exact c), Bool.false_and]
theorem bkText_l0 (s : ByteArray) (hs : s.size ≤ 9223372036854775806) : ∀ (d i : Nat), i + d = s.size → Ev (fun k => spec_bkText.l0 k s i) (((bl s).drop i).all isLow)
  | 0, i, hi => by
    apply Ev.succ
    simp only [spec_bkText.l0]
    refine Ev.neg (by omega) (Ev.const ?_)
    rw [List.drop_of_length_le (by rw [← bl_len]; omega)]; rfl
  | d + 1, i, hi => by
    have hlt : i < (bl s).length := by rw [← bl_len]; omega
    apply Ev.succ
    simp only [spec_bkText.l0]
    refine Ev.pos (by omega) (Ev.pos (by omega) ?_)
    rw [wrap_id (by omega) (by omega), bt_nat s i hlt, List.drop_eq_getElem_cons hlt, List.all_cons]
    by_cases c1 : ((bl s)[i].toNat : Int) < 97
    · refine Ev.pos c1 (Ev.const ?_)
      have : isLow (bl s)[i] = false := by unfold isLow; rw [Bool.and_eq_false_iff]; left; rw [decide_eq_false_iff_not]; omega
      rw [this]; rfl
    · refine Ev.neg c1 ?_
      by_cases c2 : ((bl s)[i].toNat : Int) > 122
      · refine Ev.pos c2 (Ev.const ?_)
        have : isLow (bl s)[i] = false := by unfold isLow; rw [Bool.and_eq_false_iff]; right; rw [decide_eq_false_iff_not]; omega
        rw [this]; rfl
      · refine Ev.neg c2 ?_
        have : isLow (bl s)[i] = true := by unfold isLow; rw [Bool.and_eq_true, decide_eq_true_eq, decide_eq_true_eq]; omega
        rw [this, Bool.true_and]
        exact_mod_cast bkText_l0 s hs d (i + 1) (by omega)
theorem bkText_ev (s : ByteArray) : Ev (fun k => spec_bkText.f k s) (textB (bl s)) := by
  unfold spec_bkText.f textB
  by_cases c : s.size ≤ 20
  · refine Ev.neg (by omega) ?_
    rw [decide_eq_true (by rw [← bl_len]; exact c), Bool.true_and]
    exact bkText_l0 s (by omega) s.size 0 (by omega)
  · refine Ev.pos (by omega) (Ev.const ?_)
    rw [decide_eq_false (by rw [← bl_len]; exact c), Bool.false_and]
end Go.Proofs.YtamhlbdjjfdbiaaDoor

namespace Go.Proofs.YtamhlbdjjfdbiaaDoor
open Go.RowKit Go.Proofs.YtamhlbdjjfdbiaaDoor.P Go.Proofs.YtamhlbdjjfdbiaaDoorW.PrintWords
set_option linter.unusedSimpArgs false
set_option linter.unusedVariables false
theorem in_eq (n a b : Int) : impl_in.f n a b = some (decide (a ≤ n) && decide (n ≤ b)) := by
  unfold impl_in.f
  by_cases h : a ≤ n
  · rw [if_pos h]; simp [h]
  · rw [if_neg h]; simp [h]
theorem l1In_eq (n a b : Int) : spec_l1In.f n a b = some (decide (a ≤ n) && decide (n ≤ b)) := by
  unfold spec_l1In.f
  by_cases h : a ≤ n
  · rw [if_pos h]; simp [h]
  · rw [if_neg h]; simp [h]
end Go.Proofs.YtamhlbdjjfdbiaaDoor

namespace Go.Proofs.YtamhlbdjjfdbiaaDoor
open Go.RowKit Go.Proofs.YtamhlbdjjfdbiaaDoor.P Go.Proofs.YtamhlbdjjfdbiaaDoorW.PrintWords
set_option linter.unusedSimpArgs false
set_option linter.unusedVariables false
/-! Lists of texts: what the laws do with them. -/
theorem rdB (l : List ByteArray) (j : Nat) (h : j < l.length) : rdOf ByteArray.empty l (j : Int) = l[j] := by unfold rdOf; simp [List.getD, h]
theorem eqSS_l0 (a : List ByteArray) (hl : a.length ≤ 9223372036854775806) : ∀ (d i : Nat), i + d = a.length → Ev (fun k => laws_eqStringS.l0 k a a i) true
  | 0, i, hi => by
    apply Ev.succ; simp only [laws_eqStringS.l0]
    exact Ev.neg (by omega) (Ev.now _)
  | d + 1, i, hi => by
    have ih := eqSS_l0 a hl d (i + 1) (by omega)
    apply Ev.succ; simp only [laws_eqStringS.l0]
    refine Ev.pos (by omega) (Ev.pos (by omega) (Ev.pos (by omega) (Ev.pos (by trivial) ?_)))
    rw [show wrap64 ((i : Int) + 1) = ((i + 1 : Nat) : Int) by rw [wrap_id (by omega) (by omega)]; omega]
    exact ih
theorem eqSS_ev (a : List ByteArray) (hl : a.length ≤ 9223372036854775806) : Ev (fun k => laws_eqStringS.f k a a) true := by
  unfold laws_eqStringS.f
  exact Ev.pos rfl (eqSS_l0 a hl a.length 0 (by omega))
theorem markText_l0 : ∀ (n x : Nat) (out : ByteArray), x ≤ n → out.size + x ≤ 4611686018427387904 → ∃ t, Ev (fun k => laws_markText.l0 k (x : Int) out) t
  | 0, x, out, hx, ho => by
    obtain rfl : x = 0 := by omega
    refine ⟨(⟨#[109]⟩ : ByteArray) ++ out, Ev.succ ?_⟩
    simp only [laws_markText.l0]
    exact Ev.neg (by omega) (Ev.pos (by omega) (Ev.now _))
  | n + 1, x, out, hx, ho => by
    by_cases c : 0 < x
    · have hs : (strOfNums ([(wrap64 (48 + (Int.tmod (x : Int) 10))) % 256] : List Int)).size = 1 := by rw [strOfNums_size]; rfl
      have hs2 : (strOfNums ([(wrap64 (48 + (Int.tmod (x : Int) 10))) % 256] : List Int) ++ out).size = 1 + out.size := by rw [ByteArray.size_append, hs]
      obtain ⟨t, ht⟩ := markText_l0 n (x / 10) (strOfNums ([(wrap64 (48 + (Int.tmod (x : Int) 10))) % 256] : List Int) ++ out) (by omega) (by omega)
      refine ⟨t, Ev.succ ?_⟩
      simp only [laws_markText.l0]
      refine Ev.pos (by omega) (Ev.bindc rfl (Ev.pos (by rw [hs]; omega) ?_))
      rw [show wrap64 (Int.tdiv (x : Int) 10) = ((x / 10 : Nat) : Int) by rw [Int.tdiv_eq_ediv_of_nonneg (by omega), wrap_id (by omega) (by omega)]; omega]
      exact ht
    · obtain rfl : x = 0 := by omega
      refine ⟨(⟨#[109]⟩ : ByteArray) ++ out, Ev.succ ?_⟩
      simp only [laws_markText.l0]
      exact Ev.neg (by omega) (Ev.pos (by omega) (Ev.now _))
theorem markText_ev (x : Nat) (hx : x ≤ 4611686018427387904) : ∃ t, Ev (fun k => laws_markText.f k (x : Int)) t := by
  unfold laws_markText.f
  by_cases c : x = 0
  · exact ⟨_, Ev.pos (by omega) (Ev.now _)⟩
  · obtain ⟨t, ht⟩ := markText_l0 x x (⟨#[]⟩ : ByteArray) (Nat.le_refl _) (by show 0 + x ≤ _; omega)
    exact ⟨t, Ev.neg (by omega) ht⟩
theorem marks : ∃ M : Nat → ByteArray, ∀ x : Nat, x ≤ 4611686018427387904 → Ev (fun k => laws_markText.f k (x : Int)) (M x) := by
  refine ⟨fun x => if h : x ≤ 4611686018427387904 then Classical.choose (markText_ev x h) else ByteArray.empty, fun x hx => ?_⟩
  simp only [dif_pos hx]
  exact Classical.choose_spec (markText_ev x hx)
section
variable (M : Nat → ByteArray) (hM : ∀ x : Nat, x ≤ 4611686018427387904 → Ev (fun k => laws_markText.f k (x : Int)) (M x))
include hM
theorem markSS_l0 : ∀ (d i : Nat) (l : List ByteArray), i + d = l.length → l.length ≤ 1000000000 → l.take i = (List.range i).map (fun j => M (1 + j)) → Ev (fun k => laws_markStringS.l0 k l ((1 + i : Nat) : Int) (i : Int)) (((1 + l.length : Nat) : Int), (List.range l.length).map (fun j => M (1 + j)))
  | 0, i, l, hi, hl, ht => by
    apply Ev.succ; simp only [laws_markStringS.l0]
    refine Ev.neg (by omega) (Ev.const ?_)
    obtain rfl : i = l.length := by omega
    rw [List.take_length] at ht
    rw [← ht]
  | d + 1, i, l, hi, hl, ht => by
    have hlt : i < l.length := by omega
    have ih := markSS_l0 d (i + 1) (l.set i (M (1 + i))) (by rw [List.length_set]; omega) (by rw [List.length_set]; omega) (by
      rw [List.take_succ_eq_append_getElem (by rw [List.length_set]; omega), List.take_set_of_le (Nat.le_refl _), ht, List.range_succ, List.map_append]; simp)
    rw [List.length_set] at ih
    apply Ev.succ; simp only [laws_markStringS.l0]
    refine Ev.pos (by omega) (Ev.bind (hM (1 + i) (by omega)) (Ev.pos (by omega) ?_))
    rw [Int.toNat_natCast, show wrap64 (((1 + i : Nat) : Int) + 1) = ((1 + (i + 1) : Nat) : Int) by rw [wrap_id (by omega) (by omega)]; omega, show wrap64 ((i : Int) + 1) = ((i + 1 : Nat) : Int) by rw [wrap_id (by omega) (by omega)]; omega]
    exact ih
theorem markSS_ev (l : List ByteArray) (hl : l.length ≤ 1000000000) : Ev (fun k => laws_markStringS.f k l 1) (((1 + l.length : Nat) : Int), (List.range l.length).map (fun j => M (1 + j))) := markSS_l0 M hM l.length 0 l (by omega) hl rfl
theorem heldSS_l0 (n : Nat) (hn : n ≤ 1000000000) : ∀ (d i : Nat), i + d = n → Ev (fun k => laws_heldStringS.l0 k ((List.range n).map (fun j => M (1 + j))) ((1 + i : Nat) : Int) (i : Int)) ((1 + n : Nat) : Int)
  | 0, i, hi => by
    apply Ev.succ; simp only [laws_heldStringS.l0, List.length_map, List.length_range]
    refine Ev.neg (by omega) (Ev.const ?_)
    rw [show i = n by omega]
  | d + 1, i, hi => by
    have ih := heldSS_l0 n hn d (i + 1) (by omega)
    apply Ev.succ; simp only [laws_heldStringS.l0, List.length_map, List.length_range]
    refine Ev.pos (by omega) (Ev.pos (by omega) (Ev.bind (hM (1 + i) (by omega)) (Ev.pos ?_ ?_)))
    · rw [rdB _ i (by simp; omega)]; simp
    · rw [show wrap64 (((1 + i : Nat) : Int) + 1) = ((1 + (i + 1) : Nat) : Int) by rw [wrap_id (by omega) (by omega)]; omega, show wrap64 ((i : Int) + 1) = ((i + 1 : Nat) : Int) by rw [wrap_id (by omega) (by omega)]; omega]
      exact ih
theorem heldSS_ev (n : Nat) (hn : n ≤ 1000000000) : Ev (fun k => laws_heldStringS.f k ((List.range n).map (fun j => M (1 + j))) 1) ((1 + n : Nat) : Int) := heldSS_l0 M hM n hn n 0 (by omega)
end
end Go.Proofs.YtamhlbdjjfdbiaaDoor

namespace Go.Proofs.YtamhlbdjjfdbiaaDoor
set_option linter.unusedSimpArgs false
set_option linter.unusedVariables false
/-! Distances of texts, as plain numbers. -/
/-- The least number of typos: the program's own rows, told by ends of the texts. -/
def lev : List UInt8 → List UInt8 → Nat
  | [], b => b.length
  | x :: a, [] => a.length + 1
  | x :: a, y :: b => if x = y then lev a b else 1 + min (min (lev a b) (lev a (y :: b))) (lev (x :: a) b)
termination_by a b => a.length + b.length
theorem lev_nil (b : List UInt8) : lev [] b = b.length := by rw [lev]
theorem lev_nil' (a : List UInt8) : lev a [] = a.length := by cases a <;> simp [lev]
theorem lev_cons (x y : UInt8) (a b : List UInt8) : lev (x :: a) (y :: b) = if x = y then lev a b else 1 + min (min (lev a b) (lev a (y :: b))) (lev (x :: a) b) := by rw [lev]
theorem lev_lip : ∀ (n : Nat) (a b : List UInt8), a.length + b.length ≤ n → (∀ x, lev (x :: a) b ≤ lev a b + 1) ∧ (∀ y, lev a (y :: b) ≤ lev a b + 1) ∧ (∀ x, lev a b ≤ lev (x :: a) b + 1) ∧ (∀ y, lev a b ≤ lev a (y :: b) + 1) := by
  intro n
  induction n with
  | zero =>
    intro a b h
    obtain rfl : a = [] := List.length_eq_zero_iff.1 (by omega)
    obtain rfl : b = [] := List.length_eq_zero_iff.1 (by omega)
    simp [lev_nil, lev_nil']
  | succ n ih =>
    intro a b h
    refine ⟨fun x => ?_, fun y => ?_, fun x => ?_, fun y => ?_⟩
    · cases b with
      | nil => simp [lev_nil']
      | cons y b =>
        simp only [List.length_cons] at h
        obtain ⟨h1, h2, h3, h4⟩ := ih a b (by omega)
        have := h4 y
        rw [lev_cons]; split <;> omega
    · cases a with
      | nil => simp [lev_nil]
      | cons x a =>
        simp only [List.length_cons] at h
        obtain ⟨h1, h2, h3, h4⟩ := ih a b (by omega)
        have := h3 x
        rw [lev_cons]; split <;> omega
    · cases b with
      | nil => simp [lev_nil']; omega
      | cons y b =>
        simp only [List.length_cons] at h
        obtain ⟨h1, h2, h3, h4⟩ := ih a b (by omega)
        have := h2 y
        have := h3 x
        rw [lev_cons]; split <;> omega
    · cases a with
      | nil => simp [lev_nil]; omega
      | cons x a =>
        simp only [List.length_cons] at h
        obtain ⟨h1, h2, h3, h4⟩ := ih a b (by omega)
        have := h1 x
        have := h4 y
        rw [lev_cons]; split <;> omega
/-- The other side's way: equal letters, too, by the least of all three. -/
theorem lev_least (x y : UInt8) (a b : List UInt8) : lev (x :: a) (y :: b) = min (min (lev a (y :: b)) (lev (x :: a) b) + 1) (lev a b + if x = y then 0 else 1) := by
  obtain ⟨h1, h2, h3, h4⟩ := lev_lip (a.length + b.length) a b (Nat.le_refl _)
  have := h4 y
  have := h3 x
  rw [lev_cons]
  split <;> omega
theorem lev_le (a b : List UInt8) : lev a b ≤ a.length + b.length := by
  induction a with
  | nil => simp [lev_nil]
  | cons x a ih =>
    have := (lev_lip (a.length + b.length) a b (Nat.le_refl _)).1 x
    simp only [List.length_cons]; omega
end Go.Proofs.YtamhlbdjjfdbiaaDoor

-- printed by xprint.py
namespace Go.Proofs.YtamhlbdjjfdbiaaDoor.P
open Go.RowKit Go.Proofs.YtamhlbdjjfdbiaaDoorW.PrintWords Go.Proofs.YtamhlbdjjfdbiaaDoorW.PrintLast Go.Proofs.YtamhlbdjjfdbiaaDoorW.PrintMore
attribute [local go_sem] max2_int min2_int max_two min_two max_three min_three max_four min_four   -- for this text's walks alone
set_option linter.unusedVariables false
set_option linter.unusedSimpArgs false

/-! ### spec_bkPair: function 35 -/
def spec_bkPair.f (k : Nat) (a0 : ByteArray) (a1 : ByteArray) : Option (Bool) := (spec_bkText.f k a0).bind fun t101 => (if t101 = true then ((spec_bkText.f k a1).bind fun t102 => (some t102)) else (some false))
theorem spec_bkPair.mono : ∀ y0 y1 k, LeO (spec_bkPair.f k y0 y1) (spec_bkPair.f (k + 1) y0 y1) := by
 intro y0 y1 k
 unfold spec_bkPair.f
 repeat' first
   | (with_reducible exact spec_bkText.mono _ _)
   | (with_reducible exact LeO.refl _)
   | (with_reducible exact LeO.none _)
   | (with_reducible refine LeO.ite ?_ ?_)
   | (with_reducible refine LeO.bind ?_ (fun _ => ?_))
   | exact spec_bkText.mono _ _
   | exact LeO.none _
   | refine LeO.ite ?_ ?_
   | refine LeO.bind ?_ (fun _ => ?_)
set_option maxHeartbeats 8000000 in
set_option maxRecDepth 100000 in
theorem spec_bkPair.calls (k : Nat) (a0 : ByteArray) (a1 : ByteArray) (r : Bool) (w : World) (h : spec_bkPair.f k a0 a1 = some r) :
  Calls Tryd.prog 35 #[.string a0, .string a1] w fun e w' => e = .returned (.bool r) ∧ Drawn0 w w' := by
 have H : ((spec_bkText.f k a0).bind fun t101 => (if t101 = true then ((spec_bkText.f k a1).bind fun t102 => (some t102)) else (some false))) = some r := h
 clear h
 replace H := Option.bind_eq_some_iff.mp H
 obtain ⟨t101, A30, H⟩ := H
 replace H : (if t101 = true then ((spec_bkText.f k a1).bind fun t102 => (some t102)) else (some false)) = some r := H
 have A3 := Aside0.mk A30
 clear A30
 by_cases c4 : t101 = true
 ·
  subst c4
  have H1 : ((spec_bkText.f k a1).bind fun t102 => (some t102)) = some r := by rw [if_pos rfl] at H; exact H
  clear H
  have H := H1
  clear H1
  replace H := Option.bind_eq_some_iff.mp H
  obtain ⟨t102, A50, H⟩ := H
  replace H : (some t102) = some r := H
  have A5 := Aside0.mk A50
  clear A50
  obtain rfl := Option.some.inj H
  go_enter Tryd.func35, Tryd.ntmps35
  go_wp2_with (first | ((with_reducible refine gate_callee (f := 40) rfl ?_); refine goesL_ (some 6) rfl rfl Tryd.func40 (by kernel_rfl) rfl #[.string a0] rfl (by (try simp only [List.map_toArray, List.map_cons, List.map_nil]); first | done | rfl | (simp only [List.length_drop, List.length_take]; rfl)) ?_; (with_reducible refine (spec_bkText.calls k a0 true _ A3.out).mono ?_); rintro e w' ⟨rfl, ⟨nd, rfl⟩⟩; refine ⟨_, rfl, ?_⟩) | (go_at_call 40; (with_reducible refine (spec_bkText.calls k a1 t102 _ A5.out).mono ?_); rintro e w' ⟨rfl, ⟨nd, rfl⟩⟩))
  go_ret
  exact ⟨by first | rfl | (simp; done) | (simp [*]; done), by repeat (first | exact Drawn0.refl _ | apply Drawn0.step)⟩
 ·
  replace c4 := Bool.eq_false_iff.mpr c4
  subst c4
  have H1 : (some false) = some r := by rw [if_neg (show ¬ (false = true) by decide)] at H; exact H
  clear H
  have H := H1
  clear H1
  obtain rfl := Option.some.inj H
  go_enter Tryd.func35, Tryd.ntmps35
  go_wp2_with (first | ((with_reducible refine gate_callee (f := 40) rfl ?_); refine goesL_ (some 6) rfl rfl Tryd.func40 (by kernel_rfl) rfl #[.string a0] rfl (by (try simp only [List.map_toArray, List.map_cons, List.map_nil]); first | done | rfl | (simp only [List.length_drop, List.length_take]; rfl)) ?_; (with_reducible refine (spec_bkText.calls k a0 false _ A3.out).mono ?_); rintro e w' ⟨rfl, ⟨nd, rfl⟩⟩; refine ⟨_, rfl, ?_⟩))
  go_ret
  exact ⟨by first | rfl | (simp; done) | (simp [*]; done), by repeat (first | exact Drawn0.refl _ | apply Drawn0.step)⟩

end Go.Proofs.YtamhlbdjjfdbiaaDoor.P

namespace Go.Proofs.YtamhlbdjjfdbiaaDoor
open Go.RowKit Go.Proofs.YtamhlbdjjfdbiaaDoor.P Go.Proofs.YtamhlbdjjfdbiaaDoorW.PrintWords Go.Proofs.YtamhlbdjjfdbiaaDoorW.PrintMore
set_option linter.unusedSimpArgs false
set_option linter.unusedVariables false
/-! The tables of distances: both sides fill them with the distances of the texts' ends. -/
def cellT (T : List (List Int)) (r c : Nat) : Int := rd (rd_L1 T (r : Int)) (c : Int)
def lenT (T : List (List Int)) (r : Nat) : Nat := (rd_L1 T (r : Int)).length
theorem cellT_eq (T : List (List Int)) (r c : Nat) : rd (rd_L1 T (r : Int)) (c : Int) = cellT T r c := rfl
theorem lenT_set (T : List (List Int)) (i : Nat) (l : List Int) (hi : i < T.length) (r : Nat) : lenT (T.set i l) r = if r = i then l.length else lenT T r := by
  unfold lenT rd_L1
  rw [Int.toNat_natCast, List.getD_eq_getElem?_getD, List.getD_eq_getElem?_getD, List.getElem?_set]
  by_cases c : i = r
  · subst c; rw [if_pos rfl, if_pos rfl, if_pos hi]; rfl
  · rw [if_neg c, if_neg (fun h => c h.symm)]
theorem cellT_set (T : List (List Int)) (i : Nat) (l : List Int) (hi : i < T.length) (r c : Nat) : cellT (T.set i l) r c = if r = i then l.getD c 0 else cellT T r c := by
  unfold cellT rd_L1 rd
  rw [Int.toNat_natCast, Int.toNat_natCast, List.getD_eq_getElem?_getD (l := T.set i l), List.getD_eq_getElem?_getD (l := T), List.getElem?_set]
  by_cases h : i = r
  · subst h; rw [if_pos rfl, if_pos rfl, if_pos hi]; rfl
  · rw [if_neg h, if_neg (fun h2 => h h2.symm)]
theorem getD_set_ (l : List Int) (k : Nat) (v : Int) (hk : k < l.length) (c : Nat) : (l.set k v).getD c 0 = if c = k then v else l.getD c 0 := by
  rw [List.getD_eq_getElem?_getD, List.getD_eq_getElem?_getD, List.getElem?_set]
  by_cases h : k = c
  · subst h; rw [if_pos rfl, if_pos rfl, if_pos hk]; rfl
  · rw [if_neg h, if_neg (fun h2 => h h2.symm)]
theorem rdc (T : List (List Int)) (r c : Nat) : (rd_L1 T (r : Int)).getD c 0 = cellT T r c := by
  unfold cellT rd; rw [Int.toNat_natCast]
section
variable {a b : List UInt8}
def Lv (a b : List UInt8) (i k : Nat) : Int := (lev (a.drop i) (b.drop k) : Nat)
theorem Lv_n (k : Nat) (hk : k ≤ b.length) : Lv a b a.length k = (b.length : Int) - k := by
  unfold Lv; rw [List.drop_length, lev_nil, List.length_drop]; omega
theorem Lv_m (i : Nat) (hi : i ≤ a.length) : Lv a b i b.length = (a.length : Int) - i := by
  unfold Lv; rw [List.drop_length, lev_nil', List.length_drop]; omega
theorem Lv_step (i k : Nat) (hi : i < a.length) (hk : k < b.length) : Lv a b i k = if a[i] = b[k] then Lv a b (i + 1) (k + 1) else 1 + min (min (Lv a b (i + 1) (k + 1)) (Lv a b (i + 1) k)) (Lv a b i (k + 1)) := by
  unfold Lv
  rw [List.drop_eq_getElem_cons hi, List.drop_eq_getElem_cons hk, lev_cons]
  split <;> omega
theorem Lv_least (i k : Nat) (hi : i < a.length) (hk : k < b.length) : Lv a b i k = min (min (Lv a b (i + 1) k) (Lv a b i (k + 1)) + 1) (Lv a b (i + 1) (k + 1) + if a[i] = b[k] then 0 else 1) := by
  unfold Lv
  rw [List.drop_eq_getElem_cons hi, List.drop_eq_getElem_cons hk, lev_least]
  split <;> omega
theorem Lv_nn (i k : Nat) : 0 ≤ Lv a b i k := by unfold Lv; omega
theorem Lv_le (i k : Nat) (ha : a.length ≤ 20) (hb : b.length ≤ 20) : Lv a b i k ≤ 40 := by
  unfold Lv
  have := lev_le (a.drop i) (b.drop k)
  rw [List.length_drop, List.length_drop] at this
  omega
def DoneT (a b : List UInt8) (T : List (List Int)) (j : Nat) : Prop := T.length = a.length + 1 ∧ ∀ r, j ≤ r → r ≤ a.length → lenT T r = b.length + 1 ∧ ∀ c, c ≤ b.length → cellT T r c = Lv a b r c
def InvT (a b : List UInt8) (T : List (List Int)) (i : Nat) (k : Int) : Prop := DoneT a b T (i + 1) ∧ lenT T i = b.length + 1 ∧ ∀ c : Nat, k < c → c ≤ b.length → cellT T i c = Lv a b i c
theorem dummy_ : True := trivial
theorem InvT.done {T : List (List Int)} {i : Nat} {k : Int} (h : InvT a b T i k) (hk : k < 0) : DoneT a b T i := by
  refine ⟨h.1.1, fun r h1 h2 => ?_⟩
  rcases Nat.lt_or_ge i r with c | c
  · exact h.1.2 r c h2
  · obtain rfl : r = i := by omega
    exact ⟨h.2.1, fun c hc => h.2.2 c (by omega) hc⟩
theorem InvT.put {T : List (List Int)} {i k : Nat} (h : InvT a b T i (k : Int)) (hi : i ≤ a.length) (hk : k ≤ b.length) : InvT a b (T.set i ((rd_L1 T (i : Int)).set k (Lv a b i k))) i ((k : Int) - 1) := by
  have hT : i < T.length := by rw [h.1.1]; omega
  have hl : k < (rd_L1 T (i : Int)).length := by have := h.2.1; unfold lenT at this; omega
  refine ⟨⟨by rw [List.length_set]; exact h.1.1, fun r h1 h2 => ⟨?_, fun c hc => ?_⟩⟩, ?_, fun c h1 h2 => ?_⟩
  · rw [lenT_set _ _ _ hT, if_neg (by omega)]; exact (h.1.2 r h1 h2).1
  · rw [cellT_set _ _ _ hT, if_neg (by omega)]; exact (h.1.2 r h1 h2).2 c hc
  · rw [lenT_set _ _ _ hT, if_pos rfl, List.length_set]; exact h.2.1
  · rw [cellT_set _ _ _ hT, if_pos rfl, getD_set_ _ _ _ hl]
    by_cases e : c = k
    · subst e; rw [if_pos rfl]
    · rw [if_neg e, rdc]; exact h.2.2 c (by omega) h2
theorem all_set {T : List (List Int)} {i k : Nat} {v : Int} {n m : Nat} (hT : i < T.length) (h : ∀ r, r ≤ n → lenT T r = m + 1) : ∀ r, r ≤ n → lenT (T.set i ((rd_L1 T (i : Int)).set k v)) r = m + 1 := by
  intro r hr
  rw [lenT_set _ _ _ hT]
  split
  · rename_i e; subst e; rw [List.length_set]; exact h r hr
  · exact h r hr
end
theorem lenT_rep (n : Nat) (l : List Int) (r : Nat) (hr : r < n) : lenT (List.replicate n l) r = l.length := by
  unfold lenT rd_L1
  rw [Int.toNat_natCast, List.getD_eq_getElem?_getD, List.getElem?_replicate, if_pos hr]
  rfl
theorem least_eq (x y : Int) : spec_l1Least.f x y = some (min x y) := by
  unfold spec_l1Least.f; split <;> congr 1 <;> omega
theorem mn_eq_ (x y : Int) : mn x y = min x y := by unfold mn; split <;> omega
attribute [irreducible] Lv
attribute [local irreducible] rd_L1 rd
section
variable (s t : ByteArray) (hs : (bl s).length ≤ 20) (ht : (bl t).length ≤ 20)
include hs ht
theorem bkTable_l2 (i : Nat) (hi : i ≤ (bl s).length) : ∀ (d : Nat) (T : List (List Int)), d ≤ (bl t).length + 1 → InvT (bl s) (bl t) T i ((d : Int) - 1) → (∀ r, r ≤ (bl s).length → lenT T r = (bl t).length + 1) →
    ∃ T', InvT (bl s) (bl t) T' i (-1) ∧ (∀ r, r ≤ (bl s).length → lenT T' r = (bl t).length + 1) ∧ ∀ R, Ev (fun k => spec_bkTable.l1 k s t T' ((i : Int) - 1)) R → Ev (fun k => spec_bkTable.l2 k s t T i ((d : Int) - 1)) R
  | 0, T, hd, h, ha => ⟨T, by simpa using h, ha, fun R hR => by
    apply Ev.succ
    simp only [spec_bkTable.l2]
    refine Ev.neg (by omega) ?_
    rw [wrap_id (by omega) (by omega)]
    exact hR⟩
  | d + 1, T, hd, h, ha => by
    rw [show (((d + 1 : Nat) : Int) - 1) = (d : Int) by omega] at h ⊢
    have hT : i < T.length := by rw [h.1.1]; omega
    obtain ⟨T', h1, h2, h3⟩ := bkTable_l2 i hi d _ (by omega) (h.put hi (by omega)) (all_set hT ha)
    refine ⟨T', h1, h2, fun R hR => ?_⟩
    have go := h3 R hR
    have hli : ((rd_L1 T (i : Int)).length : Int) = ((bl t).length : Int) + 1 := by have := ha i hi; unfold lenT at this; omega
    have hlT : (T.length : Int) = ((bl s).length : Int) + 1 := by rw [h.1.1]; omega
    have es : (s.size : Int) = ((bl s).length : Int) := rfl
    have et : (t.size : Int) = ((bl t).length : Int) := rfl
    have ew : wrap64 ((d : Int) - 1) = (d : Int) - 1 := wrap_id (by omega) (by omega)
    apply Ev.succ
    simp only [spec_bkTable.l2]
    refine Ev.pos (by omega) ?_
    by_cases c1 : i = (bl s).length
    · refine Ev.pos (by omega) (Ev.pos (by omega) (Ev.pos (by omega) (Ev.pos (by omega) (Ev.pos (by omega) ?_))))
      have ev : wrap64 ((t.size : Int) - d) = Lv (bl s) (bl t) i d := by rw [wrap_id (by omega) (by omega), c1, Lv_n d (by omega)]; omega
      rw [ev, Int.toNat_natCast, Int.toNat_natCast, ew]
      exact go
    refine Ev.neg (by omega) ?_
    by_cases c2 : d = (bl t).length
    · refine Ev.pos (by omega) (Ev.pos (by omega) (Ev.pos (by omega) (Ev.pos (by omega) (Ev.pos (by omega) ?_))))
      have ev : wrap64 ((s.size : Int) - i) = Lv (bl s) (bl t) i d := by rw [wrap_id (by omega) (by omega), c2, Lv_m i (by omega)]; omega
      rw [ev, Int.toNat_natCast, Int.toNat_natCast, ew]
      exact go
    refine Ev.neg (by omega) ?_
    have hi' : i < (bl s).length := by omega
    have hd' : d < (bl t).length := by omega
    have e1 : wrap64 ((i : Int) + 1) = ((i + 1 : Nat) : Int) := by rw [wrap_id (by omega) (by omega)]; omega
    have e2 : wrap64 ((d : Int) + 1) = ((d + 1 : Nat) : Int) := by rw [wrap_id (by omega) (by omega)]; omega
    have hlj : ((rd_L1 T ((i + 1 : Nat) : Int)).length : Int) = ((bl t).length : Int) + 1 := by have h_ := ha (i + 1) hi'; unfold lenT at h_; rw [h_]; clear h_; omega
    have v1 : rd (rd_L1 T ((i + 1 : Nat) : Int)) (d : Int) = Lv (bl s) (bl t) (i + 1) d := (cellT_eq T (i + 1) d).trans ((h.1.2 (i + 1) (Nat.le_refl _) hi').2 d (Nat.le_of_lt hd'))
    have v2 : rd (rd_L1 T ((i + 1 : Nat) : Int)) ((d + 1 : Nat) : Int) = Lv (bl s) (bl t) (i + 1) (d + 1) := (cellT_eq T (i + 1) (d + 1)).trans ((h.1.2 (i + 1) (Nat.le_refl _) hi').2 (d + 1) hd')
    have v3 : rd (rd_L1 T (i : Int)) ((d + 1 : Nat) : Int) = Lv (bl s) (bl t) i (d + 1) := (cellT_eq T i (d + 1)).trans (h.2.2 (d + 1) (Int.ofNat_lt.2 (Nat.lt_succ_self d)) hd')
    simp only [e1, e2, v1, v2, v3, hli, hlj, hlT]
    clear v1 v2 v3 hli hlj hlT
    have ll := Lv_least (a := bl s) (b := bl t) i d hi' hd'
    have b1 := Lv_nn (a := bl s) (b := bl t) (i + 1) d
    have b2 := Lv_nn (a := bl s) (b := bl t) (i + 1) (d + 1)
    have b3 := Lv_nn (a := bl s) (b := bl t) i (d + 1)
    have g1 := Lv_le (i + 1) d hs ht
    have g2 := Lv_le (i + 1) (d + 1) hs ht
    have g3 := Lv_le i (d + 1) hs ht
    generalize Lv (bl s) (bl t) (i + 1) d = q1 at *
    generalize Lv (bl s) (bl t) (i + 1) (d + 1) = q2 at *
    generalize Lv (bl s) (bl t) i (d + 1) = q3 at *
    refine Ev.pos (by omega) (Ev.pos (by omega) (Ev.pos (by omega) (Ev.pos (by omega) (Ev.pos (by omega) (Ev.pos (by omega) (Ev.pos (by omega) (Ev.pos (by omega) (Ev.bindc (least_eq _ _) (Ev.pos (by omega) (Ev.pos (by omega) ?_))))))))))
    rw [bt_nat s i hi', bt_nat t d hd']
    by_cases ce : (bl s)[i] = (bl t)[d]
    · rw [if_pos ce] at ll
      refine Ev.pos ((byte_eq _ _).2 ce) (Ev.pos (by omega) (Ev.bindc (least_eq _ _) (Ev.pos (by omega) ?_)))
      have ev : min (wrap64 (min q1 q3 + 1)) (wrap64 (q2 + 0)) = Lv (bl s) (bl t) i d := by
        rw [wrap_id (by omega) (by omega), wrap_id (by omega) (by omega), ll]
      rw [ev, Int.toNat_natCast, Int.toNat_natCast, ew]
      exact go
    · rw [if_neg ce] at ll
      refine Ev.neg (fun x => ce ((byte_eq _ _).1 x)) (Ev.pos (by omega) (Ev.bindc (least_eq _ _) (Ev.pos (by omega) ?_)))
      have ev : min (wrap64 (min q1 q3 + 1)) (wrap64 (q2 + 1)) = Lv (bl s) (bl t) i d := by
        rw [wrap_id (by omega) (by omega), wrap_id (by omega) (by omega), ll]
      rw [ev, Int.toNat_natCast, Int.toNat_natCast, ew]
      exact go
theorem bkTable_l1 : ∀ (j : Nat) (T : List (List Int)), j ≤ (bl s).length + 1 → DoneT (bl s) (bl t) T j → (∀ r, r ≤ (bl s).length → lenT T r = (bl t).length + 1) → ∃ T', DoneT (bl s) (bl t) T' 0 ∧ Ev (fun k => spec_bkTable.l1 k s t T ((j : Int) - 1)) T'
  | 0, T, hj, h, ha => ⟨T, h, by
    apply Ev.succ
    simp only [spec_bkTable.l1]
    exact Ev.neg (by omega) (Ev.now _)⟩
  | j + 1, T, hj, h, ha => by
    have hlT : (T.length : Int) = ((bl s).length : Int) + 1 := by rw [h.1]; omega
    obtain ⟨T1, h1, h2, h3⟩ := bkTable_l2 s t hs ht j (by omega) ((bl t).length + 1) T (Nat.le_refl _) ⟨h, ha j (by omega), fun c h1 h2 => by omega⟩ ha
    obtain ⟨T', h4, h5⟩ := bkTable_l1 j T1 (by omega) (h1.done (by omega)) h2
    refine ⟨T', h4, ?_⟩
    have go := h3 T' h5
    rw [show ((((bl t).length + 1 : Nat) : Int) - 1) = (t.size : Int) by show _ = ((bl t).length : Int); omega] at go
    rw [show (((j + 1 : Nat) : Int) - 1) = (j : Int) by omega]
    apply Ev.succ
    simp only [spec_bkTable.l1]
    exact Ev.pos (by omega) (Ev.pos (by omega) (Ev.pos (by omega) go))
theorem bkTable_l0 (R : List (List Int)) (hR : Ev (fun k => spec_bkTable.l1 k s t (List.replicate ((bl s).length + 1) (List.replicate ((bl t).length + 1) 0)) (s.size : Int)) R) : ∀ (d i : Nat), i + d = (bl s).length + 1 → Ev (fun k => spec_bkTable.l0 k s t (List.replicate i (List.replicate ((bl t).length + 1) 0)) i) R
  | 0, i, hi => by
    have es : (s.size : Int) = ((bl s).length : Int) := rfl
    apply Ev.succ
    simp only [spec_bkTable.l0]
    refine Ev.neg (by omega) ?_
    rw [show i = (bl s).length + 1 by omega]
    exact hR
  | d + 1, i, hi => by
    have es : (s.size : Int) = ((bl s).length : Int) := rfl
    have et : (t.size : Int) = ((bl t).length : Int) := rfl
    have e1 : wrap64 ((t.size : Int) + 1) = (((bl t).length + 1 : Nat) : Int) := by rw [wrap_id (by omega) (by omega)]; omega
    have e2 : wrap64 ((i : Int) + 1) = ((i + 1 : Nat) : Int) := by rw [wrap_id (by omega) (by omega)]; omega
    apply Ev.succ
    simp only [spec_bkTable.l0, e1, e2, Int.toNat_natCast, List.length_replicate]
    refine Ev.pos (by omega) (Ev.pos (by omega) (Ev.pos (by omega) (Ev.pos (by omega) ?_)))
    rw [← List.replicate_succ']
    exact bkTable_l0 R hR d (i + 1) (by omega)
theorem bkTable_ev : ∃ T, DoneT (bl s) (bl t) T 0 ∧ Ev (fun k => spec_bkTable.f k s t) T := by
  have hl : ∀ r, r ≤ (bl s).length → lenT (List.replicate ((bl s).length + 1) (List.replicate ((bl t).length + 1) (0 : Int))) r = (bl t).length + 1 := by
    intro r hr
    rw [lenT_rep _ _ r (by omega), List.length_replicate]
  obtain ⟨T, h1, h2⟩ := bkTable_l1 s t hs ht ((bl s).length + 1) (List.replicate ((bl s).length + 1) (List.replicate ((bl t).length + 1) 0)) (Nat.le_refl _) ⟨by simp, fun r h1 h2 => by omega⟩ hl
  refine ⟨T, h1, ?_⟩
  rw [show ((((bl s).length + 1 : Nat) : Int) - 1) = (s.size : Int) by show _ = ((bl s).length : Int); omega] at h2
  exact bkTable_l0 s t hs ht T h2 ((bl s).length + 1) 0 (by omega)
theorem dist_l1 (i : Nat) (hi : i ≤ (bl s).length) : ∀ (d : Nat) (T : List (List Int)), d ≤ (bl t).length + 1 → InvT (bl s) (bl t) T i ((d : Int) - 1) →
    ∃ T', InvT (bl s) (bl t) T' i (-1) ∧ ∀ R, Ev (fun k => impl_distances.l0 k s t T' ((i : Int) - 1)) R → Ev (fun k => impl_distances.l1 k s t T i ((d : Int) - 1)) R
  | 0, T, hd, h => ⟨T, by simpa using h, fun R hR => by
    apply Ev.succ
    simp only [impl_distances.l1]
    refine Ev.neg (by omega) ?_
    rw [wrap_id (by omega) (by omega)]
    exact hR⟩
  | d + 1, T, hd, h => by
    rw [show (((d + 1 : Nat) : Int) - 1) = (d : Int) by omega] at h ⊢
    obtain ⟨T', h1, h3⟩ := dist_l1 i hi d _ (by omega) (h.put hi (by omega))
    refine ⟨T', h1, fun R hR => ?_⟩
    have go := h3 R hR
    have hli : ((rd_L1 T (i : Int)).length : Int) = ((bl t).length : Int) + 1 := by have := h.2.1; unfold lenT at this; omega
    have hlT : (T.length : Int) = ((bl s).length : Int) + 1 := by rw [h.1.1]; omega
    have es : (s.size : Int) = ((bl s).length : Int) := rfl
    have et : (t.size : Int) = ((bl t).length : Int) := rfl
    have ew : wrap64 ((d : Int) - 1) = (d : Int) - 1 := wrap_id (by omega) (by omega)
    apply Ev.succ
    simp only [impl_distances.l1]
    refine Ev.pos (by omega) ?_
    by_cases c1 : i = (bl s).length
    · refine Ev.pos (by omega) (Ev.pos (by omega) (Ev.pos (by omega) (Ev.pos (by omega) (Ev.pos (by omega) ?_))))
      have ev : wrap64 ((t.size : Int) - d) = Lv (bl s) (bl t) i d := by rw [wrap_id (by omega) (by omega), c1, Lv_n d (by omega)]; omega
      rw [ev, Int.toNat_natCast, Int.toNat_natCast, ew]
      exact go
    refine Ev.neg (by omega) ?_
    by_cases c2 : d = (bl t).length
    · refine Ev.pos (by omega) (Ev.pos (by omega) (Ev.pos (by omega) (Ev.pos (by omega) (Ev.pos (by omega) ?_))))
      have ev : wrap64 ((s.size : Int) - i) = Lv (bl s) (bl t) i d := by rw [wrap_id (by omega) (by omega), c2, Lv_m i (by omega)]; omega
      rw [ev, Int.toNat_natCast, Int.toNat_natCast, ew]
      exact go
    refine Ev.neg (by omega) ?_
    have hi' : i < (bl s).length := by omega
    have hd' : d < (bl t).length := by omega
    have e1 : wrap64 ((i : Int) + 1) = ((i + 1 : Nat) : Int) := by rw [wrap_id (by omega) (by omega)]; omega
    have e2 : wrap64 ((d : Int) + 1) = ((d + 1 : Nat) : Int) := by rw [wrap_id (by omega) (by omega)]; omega
    have hlj : ((rd_L1 T ((i + 1 : Nat) : Int)).length : Int) = ((bl t).length : Int) + 1 := by have h_ := (h.1.2 (i + 1) (Nat.le_refl _) hi').1; unfold lenT at h_; rw [h_]; clear h_; omega
    have v1 : rd (rd_L1 T ((i + 1 : Nat) : Int)) (d : Int) = Lv (bl s) (bl t) (i + 1) d := (cellT_eq T (i + 1) d).trans ((h.1.2 (i + 1) (Nat.le_refl _) hi').2 d (Nat.le_of_lt hd'))
    have v2 : rd (rd_L1 T ((i + 1 : Nat) : Int)) ((d + 1 : Nat) : Int) = Lv (bl s) (bl t) (i + 1) (d + 1) := (cellT_eq T (i + 1) (d + 1)).trans ((h.1.2 (i + 1) (Nat.le_refl _) hi').2 (d + 1) hd')
    have v3 : rd (rd_L1 T (i : Int)) ((d + 1 : Nat) : Int) = Lv (bl s) (bl t) i (d + 1) := (cellT_eq T i (d + 1)).trans (h.2.2 (d + 1) (Int.ofNat_lt.2 (Nat.lt_succ_self d)) hd')
    simp only [e1, e2, v1, v2, v3, mn_eq_, hli, hlj, hlT]
    clear v1 v2 v3 hli hlj hlT
    have ll := Lv_step (a := bl s) (b := bl t) i d hi' hd'
    have b1 := Lv_nn (a := bl s) (b := bl t) (i + 1) d
    have b2 := Lv_nn (a := bl s) (b := bl t) (i + 1) (d + 1)
    have b3 := Lv_nn (a := bl s) (b := bl t) i (d + 1)
    have g1 := Lv_le (i + 1) d hs ht
    have g2 := Lv_le (i + 1) (d + 1) hs ht
    have g3 := Lv_le i (d + 1) hs ht
    generalize Lv (bl s) (bl t) (i + 1) d = q1 at *
    generalize Lv (bl s) (bl t) (i + 1) (d + 1) = q2 at *
    generalize Lv (bl s) (bl t) i (d + 1) = q3 at *
    refine Ev.pos (by omega) (Ev.pos (by omega) (Ev.pos (by omega) (Ev.pos (by omega) ?_)))
    rw [bt_nat s i hi', bt_nat t d hd']
    by_cases ce : (bl s)[i] = (bl t)[d]
    · rw [if_pos ce] at ll
      refine Ev.pos ((byte_eq _ _).2 ce) (Ev.pos (by omega) (Ev.pos (by omega) (Ev.pos (by omega) (Ev.pos (by omega) (Ev.pos (by omega) (Ev.pos (by omega) ?_))))))
      rw [← ll, Int.toNat_natCast, Int.toNat_natCast, ew]
      exact go
    · rw [if_neg ce] at ll
      refine Ev.neg (fun x => ce ((byte_eq _ _).1 x)) (Ev.pos (by omega) (Ev.pos (by omega) (Ev.pos (by omega) (Ev.pos (by omega) (Ev.pos (by omega) (Ev.pos (by omega) (Ev.pos (by omega) (Ev.pos (by omega) ?_))))))))
      rw [wrap_id (n := 1 + _) (by omega) (by omega), ← ll, Int.toNat_natCast, Int.toNat_natCast, ew]
      exact go
theorem dist_l0 : ∀ (j : Nat) (T : List (List Int)), j ≤ (bl s).length + 1 → DoneT (bl s) (bl t) T j → ∃ T', DoneT (bl s) (bl t) T' 0 ∧ Ev (fun k => impl_distances.l0 k s t T ((j : Int) - 1)) T'
  | 0, T, hj, h => ⟨T, h, by
    apply Ev.succ
    simp only [impl_distances.l0]
    exact Ev.neg (by omega) (Ev.now _)⟩
  | j + 1, T, hj, h => by
    have hT : j < T.length := by rw [h.1]; omega
    have hlT : (T.length : Int) = ((bl s).length : Int) + 1 := by rw [h.1]; omega
    have et : (t.size : Int) = ((bl t).length : Int) := rfl
    have e1 : wrap64 ((t.size : Int) + 1) = (((bl t).length + 1 : Nat) : Int) := by rw [wrap_id (by omega) (by omega)]; omega
    have hI : InvT (bl s) (bl t) (T.set j (List.replicate ((bl t).length + 1) 0)) j ((((bl t).length + 1 : Nat) : Int) - 1) := by
      refine ⟨⟨by rw [List.length_set]; exact h.1, fun r h1 h2 => ⟨?_, fun c hc => ?_⟩⟩, ?_, fun c h1 h2 => by omega⟩
      · rw [lenT_set _ _ _ hT, if_neg (by omega)]; exact (h.2 r h1 h2).1
      · rw [cellT_set _ _ _ hT, if_neg (by omega)]; exact (h.2 r h1 h2).2 c hc
      · rw [lenT_set _ _ _ hT, if_pos rfl, List.length_replicate]
    obtain ⟨T1, h1, h3⟩ := dist_l1 s t hs ht j (by omega) ((bl t).length + 1) _ (Nat.le_refl _) hI
    obtain ⟨T', h4, h5⟩ := dist_l0 j T1 (by omega) (h1.done (by omega))
    refine ⟨T', h4, ?_⟩
    have go := h3 T' h5
    rw [show ((((bl t).length + 1 : Nat) : Int) - 1) = (t.size : Int) by show _ = ((bl t).length : Int); omega] at go
    rw [show (((j + 1 : Nat) : Int) - 1) = (j : Int) by omega]
    apply Ev.succ
    simp only [impl_distances.l0, e1, Int.toNat_natCast]
    exact Ev.pos (by omega) (Ev.pos (by omega) (Ev.pos (by omega) (Ev.pos (by omega) (Ev.pos (by omega) go))))
theorem dist_ev : ∃ T, DoneT (bl s) (bl t) T 0 ∧ Ev (fun k => impl_distances.f k s t) T := by
  have es : (s.size : Int) = ((bl s).length : Int) := rfl
  have e1 : wrap64 ((s.size : Int) + 1) = (((bl s).length + 1 : Nat) : Int) := by rw [wrap_id (by omega) (by omega)]; omega
  obtain ⟨T, h1, h2⟩ := dist_l0 s t hs ht ((bl s).length + 1) (List.replicate ((bl s).length + 1) []) (Nat.le_refl _) ⟨by simp, fun r h1 h2 => by omega⟩
  refine ⟨T, h1, ?_⟩
  rw [show ((((bl s).length + 1 : Nat) : Int) - 1) = (s.size : Int) by show _ = ((bl s).length : Int); omega] at h2
  unfold impl_distances.f
  simp only [e1, Int.toNat_natCast]
  exact Ev.pos (by omega) (Ev.pos (by omega) h2)
end
theorem bkPair_ev (s t : ByteArray) : Ev (fun k => spec_bkPair.f k s t) (textB (bl s) && textB (bl t)) := by
  unfold spec_bkPair.f
  refine Ev.bind (bkText_ev s) ?_
  cases textB (bl s) with
  | false => exact Ev.no (Ev.now _)
  | true => exact Ev.yes (Ev.bind (bkText_ev t) (Ev.now _))
theorem textB_len {l : List UInt8} (h : textB l = true) : l.length ≤ 20 := by
  unfold textB at h
  simp only [Bool.and_eq_true, decide_eq_true_eq] at h
  exact h.1
theorem DoneT.at_ {a b : List UInt8} {T : List (List Int)} (h : DoneT a b T 0) (r c : Nat) (hr : r ≤ a.length) (hc : c ≤ b.length) : (T.length : Int) = (a.length : Int) + 1 ∧ ((rd_L1 T (r : Int)).length : Int) = (b.length : Int) + 1 ∧ rd (rd_L1 T (r : Int)) (c : Int) = Lv a b r c := by
  have h2 := h.2 r (Nat.zero_le _) hr
  refine ⟨by rw [h.1]; omega, by have := h2.1; unfold lenT at this; omega, (cellT_eq T r c).trans (h2.2 c hc)⟩
end Go.Proofs.YtamhlbdjjfdbiaaDoor

namespace Go.Proofs.YtamhlbdjjfdbiaaDoor
open Go.RowKit Go.Proofs.YtamhlbdjjfdbiaaDoor.P Go.Proofs.YtamhlbdjjfdbiaaDoorW.PrintWords Go.Proofs.YtamhlbdjjfdbiaaDoorW.PrintMore
set_option linter.unusedSimpArgs false
set_option linter.unusedVariables false
set_option linter.unusedSectionVars false
/-! Dictionaries: both sides say the same of every list; what the laws do with lists of texts that come in. -/
theorem szSS_l0 (l : List ByteArray) (hl : l.length ≤ 1048576) (hs : ∀ g ∈ l, g.size ≤ 9223372036854775807) : ∀ (d i : Nat) (x : Int), i + d = l.length → 0 ≤ x → x ≤ 1048576 → ∃ r, Ev (fun k => laws_szStringS.l0 k l x i) r ∧ (¬ r < 0 → ∀ g ∈ l.drop i, g.size ≤ 1048576)
  | 0, i, x, hi, h0, h1 => by
    refine ⟨x, ?_, fun _ g hg => ?_⟩
    · apply Ev.succ; simp only [laws_szStringS.l0]; exact Ev.neg (by omega) (Ev.now _)
    · rw [List.drop_of_length_le (by omega)] at hg; simp at hg
  | d + 1, i, x, hi, h0, h1 => by
    have hlt : i < l.length := by omega
    have hsz := hs _ (List.getElem_mem hlt)
    have e1 : wrap64 ((i : Int) + 1) = ((i + 1 : Nat) : Int) := by rw [wrap_id (by omega) (by omega)]; omega
    have e2 : wrap64 (x - (l[i].size : Int)) = x - (l[i].size : Int) := wrap_id (by omega) (by omega)
    by_cases c : (l[i].size : Int) ≤ x
    · obtain ⟨r, hr, hg⟩ := szSS_l0 l hl hs d (i + 1) (x - l[i].size) (by omega) (by omega) (by omega)
      refine ⟨r, ?_, fun hn g hm => ?_⟩
      · apply Ev.succ; simp only [laws_szStringS.l0]
        rw [rdB l i hlt, e1, e2]
        exact Ev.pos (by omega) (Ev.pos (by omega) (Ev.neg (by omega) hr))
      · rw [List.drop_eq_getElem_cons hlt] at hm
        rcases List.mem_cons.1 hm with rfl | hm
        · omega
        · exact hg hn g hm
    · refine ⟨-1, ?_, fun hn => absurd (by omega) hn⟩
      apply Ev.succ; simp only [laws_szStringS.l0]
      rw [rdB l i hlt, e1, e2]
      exact Ev.pos (by omega) (Ev.pos (by omega) (Ev.pos (by omega) (Ev.now _)))
theorem szSS_ev (l : List ByteArray) (hl : l.length ≤ 9223372036854775807) (hs : ∀ g ∈ l, g.size ≤ 9223372036854775807) : ∃ r, Ev (fun k => laws_szStringS.f k l 1048576) r ∧ (¬ r < 0 → l.length ≤ 1048576 ∧ ∀ g ∈ l, g.size ≤ 1048576) := by
  have e2 : wrap64 (1048576 - (l.length : Int)) = 1048576 - (l.length : Int) := wrap_id (by omega) (by omega)
  by_cases c : l.length ≤ 1048576
  · obtain ⟨r, hr, hg⟩ := szSS_l0 l c hs l.length 0 (1048576 - l.length) (by omega) (by omega) (by omega)
    refine ⟨r, ?_, fun hn => ⟨c, fun g hm => hg hn g (by simpa using hm)⟩⟩
    unfold laws_szStringS.f
    rw [e2]
    exact Ev.neg (by omega) hr
  · refine ⟨-1, ?_, fun hn => absurd (by omega) hn⟩
    unfold laws_szStringS.f
    rw [e2]
    exact Ev.pos (by omega) (Ev.now _)
theorem toSS_l0 (l : List ByteArray) (hl : l.length ≤ 1048576) : ∀ (d i : Nat) (x : List ByteArray), i + d = l.length → x.length = l.length → x.take i = l.take i → Ev (fun k => laws_toStringS.l0 k l x i) l
  | 0, i, x, hi, hx, ht => by
    apply Ev.succ; simp only [laws_toStringS.l0]
    refine Ev.neg (by omega) (Ev.const ?_)
    rw [List.take_of_length_le (by omega), List.take_of_length_le (by omega)] at ht
    rw [ht]
  | d + 1, i, x, hi, hx, ht => by
    have hlt : i < l.length := by omega
    have ih := toSS_l0 l hl d (i + 1) (x.set i l[i]) (by omega) (by simp [hx]) (by
      rw [List.take_succ_eq_append_getElem (by simp; omega), List.take_succ_eq_append_getElem (by omega), List.take_set_of_le (Nat.le_refl _), ht]
      simp)
    have e1 : wrap64 ((i : Int) + 1) = ((i + 1 : Nat) : Int) := by rw [wrap_id (by omega) (by omega)]; omega
    apply Ev.succ; simp only [laws_toStringS.l0]
    rw [rdB l i hlt, e1, Int.toNat_natCast]
    exact Ev.pos (by omega) (Ev.pos (by omega) (Ev.pos (by omega) ih))
theorem toSS_ev (l : List ByteArray) (hl : l.length ≤ 1048576) : Ev (fun k => laws_toStringS.f k l) l := by
  unfold laws_toStringS.f
  refine Ev.pos (by omega) (Ev.pos (by omega) ?_)
  exact toSS_l0 l hl l.length 0 _ (by omega) (by simp) (by simp)
/-- Is it a word of a dictionary? -/
def wordB (l : List UInt8) : Bool := ((decide (1 ≤ l.length) && decide (l.length ≤ 40)) && l.all isLow) && decide (l.length ≤ 10)
theorem len_in40 (n : Nat) : (decide ((1 : Int) ≤ (n : Int)) && decide ((n : Int) ≤ 40)) = (decide (1 ≤ n) && decide (n ≤ 40)) := by
  congr 1 <;> (rw [decide_eq_decide]; omega)
theorem short_eq (s : ByteArray) (h1 : s.size ≤ 1048576) : impl_short.f s = some (wordB (bl s)) := by
  unfold impl_short.f impl_IsWord.f wordB
  rw [in_eq, len_in40, overLow_eq s (by omega), ← bl_len]
  have e : decide ((s.size : Int) ≤ 10) = decide (s.size ≤ 10) := by rw [decide_eq_decide]; omega
  rw [e]
  cases (decide (1 ≤ s.size) && decide (s.size ≤ 40)) with
  | false => simp
  | true => cases (bl s).all isLow <;> simp
theorem prWord_l0 (s : ByteArray) (hs : s.size ≤ 9223372036854775806) : ∀ (d i : Nat), i + d = s.size → Ev (fun k => spec_prWord.l0 k s i) (((bl s).drop i).all isLow)
  | 0, i, hi => by
    apply Ev.succ
    simp only [spec_prWord.l0]
    refine Ev.neg (by omega) (Ev.const ?_)
    rw [List.drop_of_length_le (by rw [← bl_len]; omega)]; rfl
  | d + 1, i, hi => by
    have hlt : i < (bl s).length := by rw [← bl_len]; omega
    have ih := prWord_l0 s hs d (i + 1) (by omega)
    apply Ev.succ
    simp only [spec_prWord.l0]
    refine Ev.pos (by omega) (Ev.pos (by omega) ?_)
    rw [wrap_id (by omega) (by omega), bt_nat s i hlt, List.drop_eq_getElem_cons hlt, List.all_cons]
    by_cases c1 : ((bl s)[i].toNat : Int) < 97
    · refine Ev.pos c1 (Ev.const ?_)
      have : isLow (bl s)[i] = false := by unfold isLow; rw [Bool.and_eq_false_iff]; left; rw [decide_eq_false_iff_not]; omega
      rw [this]; rfl
    · refine Ev.neg c1 ?_
      by_cases c2 : ((bl s)[i].toNat : Int) > 122
      · refine Ev.pos c2 (Ev.const ?_)
        have : isLow (bl s)[i] = false := by unfold isLow; rw [Bool.and_eq_false_iff]; right; rw [decide_eq_false_iff_not]; omega
        rw [this]; rfl
      · refine Ev.neg c2 ?_
        have : isLow (bl s)[i] = true := by unfold isLow; rw [Bool.and_eq_true, decide_eq_true_eq, decide_eq_true_eq]; omega
        rw [this, Bool.true_and]
        exact_mod_cast ih
theorem wdWord_ev (s : ByteArray) (h1 : s.size ≤ 1048576) : Ev (fun k => spec_wdWord.f k s) (wordB (bl s)) := by
  unfold spec_wdWord.f wordB
  refine Ev.bind (a := (decide (1 ≤ (bl s).length) && decide ((bl s).length ≤ 40)) && (bl s).all isLow) ?_ ?_
  · unfold spec_prWord.f
    refine Ev.bindc (l1In_eq _ _ _) ?_
    rw [len_in40, ← bl_len]
    cases (decide (1 ≤ s.size) && decide (s.size ≤ 40)) with
    | false => exact Ev.no (Ev.now _)
    | true =>
      refine Ev.yes ?_
      rw [Bool.true_and]
      have := prWord_l0 s (by omega) s.size 0 (by omega)
      rwa [List.drop_zero] at this
  · have e : decide ((s.size : Int) ≤ 10) = decide ((bl s).length ≤ 10) := by rw [decide_eq_decide]; rw [← bl_len]; omega
    rw [e]
    cases ((decide (1 ≤ (bl s).length) && decide ((bl s).length ≤ 40)) && (bl s).all isLow) with
    | false => exact Ev.no (Ev.now _)
    | true => exact Ev.yes (Ev.now _)
/-- Are the words from a place on good, and behind the one ahead? -/
def chkW (l : List ByteArray) : Nat → Nat → Bool
  | 0, _ => true
  | d + 1, i => wordB (bl (rdOf ByteArray.empty l (i : Int))) && (decide (i = 0) || Op.bytesLess (rdOf ByteArray.empty l ((i : Int) - 1)).toList (rdOf ByteArray.empty l (i : Int)).toList) && chkW l d (i + 1)
theorem chkW_mem (l : List ByteArray) : ∀ (d i : Nat), i + d = l.length → chkW l d i = true → ∀ g ∈ l.drop i, wordB (bl g) = true
  | 0, i, hi, h => by rw [List.drop_of_length_le (by omega)]; intro g hg; cases hg
  | d + 1, i, hi, h => by
    have hlt : i < l.length := by omega
    unfold chkW at h
    rw [Bool.and_eq_true, Bool.and_eq_true, rdB l i hlt] at h
    intro g hg
    rw [List.drop_eq_getElem_cons hlt] at hg
    rcases List.mem_cons.1 hg with rfl | hg
    · exact h.1.1
    · exact chkW_mem l d (i + 1) (by omega) h.2 g hg
section
variable (l : List ByteArray) (hl : l.length ≤ 1048576) (hs : ∀ g ∈ l, g.size ≤ 1048576)
include hl hs
theorem wdGood_l0 : ∀ (d i : Nat), i + d = l.length → Ev (fun k => spec_wdGood.l0 k l l (l.length : Int) (i : Int)) (chkW l d i)
  | 0, i, hi => by
    apply Ev.succ; simp only [spec_wdGood.l0]
    exact Ev.neg (by omega) (Ev.now _)
  | d + 1, i, hi => by
    have hlt : i < l.length := by omega
    have ih := wdGood_l0 d (i + 1) (by omega)
    have e1 : wrap64 ((i : Int) + 1) = ((i + 1 : Nat) : Int) := by rw [wrap_id (by omega) (by omega)]; omega
    have e2 : wrap64 ((i : Int) - 1) = (i : Int) - 1 := wrap_id (by omega) (by omega)
    have hw := wdWord_ev l[i] (hs _ (List.getElem_mem hlt))
    apply Ev.succ; simp only [spec_wdGood.l0, e1, e2]
    unfold chkW
    rw [rdB l i hlt]
    refine Ev.pos (by omega) (Ev.pos (by omega) (Ev.pos (by omega) (Ev.bind hw ?_)))
    cases wordB (bl l[i]) with
    | false => exact Ev.neg (by decide) (Ev.now _)
    | true =>
      refine Ev.pos rfl ?_
      by_cases c : i = 0
      · refine Ev.neg (by omega) ?_
        rw [decide_eq_true c]
        simpa using ih
      · refine Ev.pos (by omega) (Ev.pos (by omega) (Ev.pos (by omega) ?_))
        rw [decide_eq_false c]
        cases Op.bytesLess (rdOf ByteArray.empty l ((i : Int) - 1)).toList l[i].toList with
        | false => exact Ev.neg (by decide) (Ev.now _)
        | true => exact Ev.pos rfl (by simpa using ih)
theorem isDict_l0 (b : Bool) (hb : (decide ((1 : Int) ≤ (l.length : Int)) && decide ((l.length : Int) ≤ 12)) = b) : ∀ (d i : Nat), i + d = l.length → Ev (fun k => impl_IsDictionary.l0 k l l (l.length : Int) (i : Int)) (chkW l d i && b)
  | 0, i, hi => by
    apply Ev.succ; simp only [impl_IsDictionary.l0]
    refine Ev.neg (by omega) (Ev.bindc (in_eq _ _ _) ?_)
    rw [hb]
    exact Ev.now _
  | d + 1, i, hi => by
    have hlt : i < l.length := by omega
    have ih := isDict_l0 b hb d (i + 1) (by omega)
    have e1 : wrap64 ((i : Int) + 1) = ((i + 1 : Nat) : Int) := by rw [wrap_id (by omega) (by omega)]; omega
    have e2 : wrap64 ((i : Int) - 1) = (i : Int) - 1 := wrap_id (by omega) (by omega)
    apply Ev.succ; simp only [impl_IsDictionary.l0, e1, e2]
    unfold chkW
    rw [rdB l i hlt, short_eq l[i] (hs _ (List.getElem_mem hlt))]
    refine Ev.pos (by omega) (Ev.pos (by omega) (Ev.pos (by omega) (Ev.bindc rfl ?_)))
    cases wordB (bl l[i]) with
    | false => exact Ev.neg (by decide) (Ev.now _)
    | true =>
      refine Ev.pos rfl ?_
      by_cases c : i = 0
      · refine Ev.neg (by omega) ?_
        rw [decide_eq_true c]
        simpa using ih
      · refine Ev.pos (by omega) (Ev.pos (by omega) (Ev.pos (by omega) ?_))
        rw [decide_eq_false c]
        cases Op.bytesLess (rdOf ByteArray.empty l ((i : Int) - 1)).toList l[i].toList with
        | false => exact Ev.neg (by decide) (Ev.now _)
        | true => exact Ev.pos rfl (by simpa using ih)
end
def dictB (l : List ByteArray) : Bool := (decide ((1 : Int) ≤ (l.length : Int)) && decide ((l.length : Int) ≤ 12)) && chkW l l.length 0
theorem wdGood_ev (l : List ByteArray) (hl : l.length ≤ 1048576) (hs : ∀ g ∈ l, g.size ≤ 1048576) : Ev (fun k => spec_wdGood.f k l) (dictB l) := by
  unfold spec_wdGood.f dictB
  refine Ev.bindc (l1In_eq _ _ _) ?_
  cases (decide ((1 : Int) ≤ (l.length : Int)) && decide ((l.length : Int) ≤ 12)) with
  | false => exact Ev.no (Ev.now _)
  | true => exact Ev.yes (by rw [Bool.true_and]; exact wdGood_l0 l hl hs l.length 0 (by omega))
theorem isDict_ev (l : List ByteArray) (hl : l.length ≤ 1048576) (hs : ∀ g ∈ l, g.size ≤ 1048576) : Ev (fun k => impl_IsDictionary.f k l) (dictB l) := by
  unfold impl_IsDictionary.f dictB
  rw [Bool.and_comm]
  exact isDict_l0 l hl hs _ rfl l.length 0 (by omega)
theorem dictB_spec {l : List ByteArray} (h : dictB l = true) : 1 ≤ l.length ∧ l.length ≤ 12 ∧ ∀ g ∈ l, (bl g).length ≤ 20 := by
  unfold dictB at h
  rw [Bool.and_eq_true] at h
  obtain ⟨h1, h2⟩ := h
  simp only [Bool.and_eq_true, decide_eq_true_eq] at h1
  refine ⟨by omega, by omega, fun g hg => ?_⟩
  have := chkW_mem l l.length 0 (by omega) h2 g (by rwa [List.drop_zero])
  unfold wordB at this
  simp only [Bool.and_eq_true, decide_eq_true_eq] at this
  omega
/-! Distances of a word. -/
def DW (t w : ByteArray) : Int := Lv (bl t) (bl w) 0 0
attribute [local irreducible] rd_L1 rd
theorem bkFar_ev (t w : ByteArray) (ht : (bl t).length ≤ 20) (hw : (bl w).length ≤ 20) : Ev (fun k => spec_bkFar.f k t w) (DW t w) := by
  obtain ⟨T, hT, eT⟩ := bkTable_ev t w ht hw
  obtain ⟨a1, a2, a3⟩ := hT.at_ 0 0 (Nat.zero_le _) (Nat.zero_le _)
  rw [Int.natCast_zero] at a2 a3
  unfold spec_bkFar.f DW
  refine Ev.bind eT ?_
  rw [a1, a2, a3]
  clear a1 a2 a3
  exact Ev.pos (by omega) (Ev.pos (by omega) (Ev.now _))
theorem distFar_ev {α : Type} (t w : ByteArray) (ht : (bl t).length ≤ 20) (hw : (bl w).length ≤ 20) (g : Nat → Int → Option α) (r : α) (h : Ev (fun k => g k (DW t w)) r) :
    Ev (fun k => (impl_distances.f k t w).bind fun t101 => (if 0 < (t101.length : Int) then (if 0 < ((rd_L1 t101 0).length : Int) then g k (rd (rd_L1 t101 0) 0) else none) else none)) r := by
  obtain ⟨T, hT, eT⟩ := dist_ev t w ht hw
  obtain ⟨a1, a2, a3⟩ := hT.at_ 0 0 (Nat.zero_le _) (Nat.zero_le _)
  rw [Int.natCast_zero] at a2 a3
  refine Ev.bind eT ?_
  rw [a1, a2, a3]
  clear a1 a2 a3
  exact Ev.pos (by omega) (Ev.pos (by omega) h)
theorem evW_list {α β : Type} (F : Nat → α → Option β) (b : α → β) : ∀ xs : List α, (∀ x ∈ xs, Ev (fun k => F k x) (b x)) → ∃ K, ∀ k, K ≤ k → ∀ x ∈ xs, F k x = some (b x)
  | [], _ => ⟨0, fun _ _ _ h => by cases h⟩
  | x :: xs, h => by
    obtain ⟨K1, h1⟩ := h x List.mem_cons_self
    obtain ⟨K2, h2⟩ := evW_list F b xs (fun y hy => h y (List.mem_cons_of_mem _ hy))
    refine ⟨max K1 K2, fun k hk y hy => ?_⟩
    rcases List.mem_cons.1 hy with rfl | hy
    · exact h1 k (by omega)
    · exact h2 k (by omega) y hy
theorem pickedW_ev (F : Nat → ByteArray → Option Bool) (b : ByteArray → Bool) (xs : List ByteArray) (hl : xs.length ≤ 8796093022208) (h : ∀ x ∈ xs, Ev (fun k => F k x) (b x)) : Ev (fun k => impl_picked.f xs (F k)) (xs.filter b) := by
  obtain ⟨K, hK⟩ := evW_list F b xs h
  refine ⟨K, fun k hk => ?_⟩
  have e := hK k hk
  show impl_picked.f xs (F k) = _
  unfold impl_picked.f
  rw [if_pos ⟨hl, by rw [List.all_eq_true]; intro x hx; rw [e x hx]; rfl⟩]
  congr 1
  exact List.filter_congr fun x hx => by rw [e x hx]; rfl
end Go.Proofs.YtamhlbdjjfdbiaaDoor

/- FnExactNearestWords: both sides tell the same nearest words, the list is left as it was, and what is told is nobody else's: over the functions that the walk computes. -/
namespace Go.Proofs.YtamhlbdjjfdbiaaDoor
open Go.RowKit Go.Proofs.YtamhlbdjjfdbiaaDoor.P Go.Proofs.YtamhlbdjjfdbiaaDoorW.PrintWords
set_option linter.unusedSimpArgs false
set_option linter.unusedVariables false
set_option linter.unusedSectionVars false
namespace NearestWords
/-- The least distance so far; -1 ahead of all. -/
def stepL (t : ByteArray) (a : Int) (w : ByteArray) : Int := if a < 0 then DW t w else if DW t w < a then DW t w else a
theorem DW_nn (t w : ByteArray) : 0 ≤ DW t w := Lv_nn 0 0
section
variable (l : List ByteArray) (t : ByteArray) (hl : l.length ≤ 12) (hw : ∀ g ∈ l, (bl g).length ≤ 20) (ht : (bl t).length ≤ 20)
include hl hw ht
/-- From a place on, with words p taken so far, the least of them a. -/
theorem spec_l0 : ∀ (d i : Nat) (p : List ByteArray) (a least : Int), i + d = l.length → p.length = i → (p = [] ∧ least = 0 ∧ a = -1 ∨ 0 ≤ a ∧ least = a ∧ (∀ x ∈ p, a ≤ DW t x) ∧ ∃ x ∈ p, DW t x = a) →
    Ev (fun k => spec_NearestWords.l0 k t (p.filter fun w => DW t w == a) least l (l.length : Int) (i : Int))
      ((p ++ l.drop i).filter (fun w => DW t w == (l.drop i).foldl (stepL t) a), (if p ++ l.drop i = [] then 0 else (l.drop i).foldl (stepL t) a), true)
  | 0, i, p, a, least, hi, hp, h => by
    rw [List.drop_of_length_le (by omega), List.append_nil, List.foldl_nil]
    apply Ev.succ; simp only [spec_NearestWords.l0]
    refine Ev.neg (by omega) (Ev.const ?_)
    congr 2
    rcases h with ⟨h1, h2, h3⟩ | ⟨h1, h2, h3, x, h4, h5⟩
    · rw [if_pos h1, h2]
    · rw [if_neg (fun e => by rw [e] at h4; cases h4), h2]
  | d + 1, i, p, a, least, hi, hp, h => by
    have hlt : i < l.length := by omega
    have e1 : wrap64 ((i : Int) + 1) = ((i + 1 : Nat) : Int) := by rw [wrap_id (by omega) (by omega)]; omega
    have hfl := List.length_filter_le (fun w => DW t w == a) p
    have nn := DW_nn t l[i]
    have ih := fun (a' least' : Int) => spec_l0 d (i + 1) (p ++ [l[i]]) a' least' (by omega) (by simp; omega)
    rw [List.drop_eq_getElem_cons hlt, List.foldl_cons]
    simp only [List.append_assoc, List.singleton_append] at ih
    have hf0 : (p.filter fun w => DW t w == a) = [] ↔ p = [] := by
      rcases h with ⟨h1, h2, h3⟩ | ⟨h1, h2, h3, x, h4, h5⟩
      · rw [h1]; simp
      · constructor
        · intro e
          have : x ∈ p.filter fun w => DW t w == a := List.mem_filter.2 ⟨h4, by simp [h5]⟩
          rw [e] at this; cases this
        · intro e; rw [e] at h4; cases h4
    apply Ev.succ; simp only [spec_NearestWords.l0, e1]
    rw [rdB l i hlt]
    refine Ev.pos (by omega) (Ev.pos (by omega) (Ev.pos (by omega) (Ev.bind (bkFar_ev t l[i] ht (hw _ (List.getElem_mem hlt))) ?_)))
    -- the word begins a new list
    have fresh : (p = [] ∨ DW t l[i] < a) → (p ≠ [] → ∀ x ∈ p, a ≤ DW t x) → Ev (fun k => spec_NearestWords.j2 k t (p.filter fun w => DW t w == a) least l[i] (DW t l[i]) l (l.length : Int) (i : Int) true) ((p ++ l[i] :: l.drop (i + 1)).filter (fun w => DW t w == (l.drop (i + 1)).foldl (stepL t) (DW t l[i])), (if p ++ l[i] :: l.drop (i + 1) = [] then 0 else (l.drop (i + 1)).foldl (stepL t) (DW t l[i])), true) := by
      intro hc hall
      have e2 : ((p ++ [l[i]]).filter fun w => DW t w == DW t l[i]) = [l[i]] := by
        rw [List.filter_append]
        have : (p.filter fun w => DW t w == DW t l[i]) = [] := by
          rw [List.filter_eq_nil_iff]
          intro x hx hxx
          have hp0 : p ≠ [] := fun e => by rw [e] at hx; cases hx
          have h6 := hall hp0 x hx
          have h7 : DW t x = DW t l[i] := by simpa using hxx
          rcases hc with hc | hc
          · exact hp0 hc
          · omega
        rw [this]; simp
      have go := ih (DW t l[i]) (DW t l[i]) (.inr ⟨nn, rfl, fun x hx => by
        rcases List.mem_append.1 hx with hx | hx
        · have hp0 : p ≠ [] := fun e => by rw [e] at hx; cases hx
          have h6 := hall hp0 x hx
          rcases hc with hc | hc
          · exact absurd hc hp0
          · omega
        · rw [List.mem_singleton.1 hx]; exact Int.le_refl _, l[i], by simp, rfl⟩)
      rw [e2] at go
      apply Ev.succ; simp only [spec_NearestWords.j2, e1]
      refine Ev.pos (by trivial) (Ev.pos (by trivial) (Ev.pos (by simp) ?_))
      exact go
    rcases h with ⟨h1, h2, h3⟩ | ⟨h1, h2, h3, x, h4, h5⟩
    · have hs : stepL t a l[i] = DW t l[i] := by unfold stepL; rw [if_pos (by omega)]
      rw [hs]
      refine Ev.pos ?_ (fresh (.inl h1) (fun e => absurd h1 e))
      rw [hf0.2 h1]; rfl
    · have hpne : p ≠ [] := fun e => by rw [e] at h4; cases h4
      refine Ev.neg ?_ ?_
      · intro e
        have : (p.filter fun w => DW t w == a).length = 0 := by omega
        exact hpne (hf0.1 (List.length_eq_zero_iff.1 this))
      by_cases c : DW t l[i] < least
      · have hs : stepL t a l[i] = DW t l[i] := by unfold stepL; rw [if_neg (by omega), if_pos (by omega)]
        rw [hs, decide_eq_true c]
        exact fresh (.inr (by omega)) (fun _ => h3)
      · have hs : stepL t a l[i] = a := by unfold stepL; rw [if_neg (by omega), if_neg (by omega)]
        rw [hs, decide_eq_false c]
        have go := ih a least (.inr ⟨h1, h2, fun y hy => by
          rcases List.mem_append.1 hy with hy | hy
          · exact h3 y hy
          · rw [List.mem_singleton.1 hy]; omega, x, List.mem_append_left _ h4, h5⟩)
        rw [List.filter_append] at go
        apply Ev.succ; simp only [spec_NearestWords.j2, e1]
        refine Ev.neg (by decide) ?_
        by_cases c2 : DW t l[i] = least
        · refine Ev.pos c2 (Ev.pos (by omega) ?_)
          rw [List.filter_cons, if_pos (by simp; omega)] at go
          exact go
        · refine Ev.neg c2 ?_
          rw [List.filter_cons, if_neg (by simp; omega)] at go
          simpa using go
theorem impl_l0 (R : List ByteArray × Int × Bool) : ∀ (d i : Nat) (a : Int), i + d = l.length → Ev (fun k => (impl_picked.f l (fun z0_ => impl_NearestWords_1.f k z0_ t ((l.drop i).foldl (stepL t) a))).bind fun t111 => (some (t111, ((l.drop i).foldl (stepL t) a), true))) R → Ev (fun k => impl_NearestWords.l0 k l l (l.length : Int) (i : Int) t a) R
  | 0, i, a, hi, hR => by
    rw [List.drop_of_length_le (by omega), List.foldl_nil] at hR
    apply Ev.succ; simp only [impl_NearestWords.l0]
    exact Ev.neg (by omega) hR
  | d + 1, i, a, hi, hR => by
    have hlt : i < l.length := by omega
    have e1 : wrap64 ((i : Int) + 1) = ((i + 1 : Nat) : Int) := by rw [wrap_id (by omega) (by omega)]; omega
    rw [List.drop_eq_getElem_cons hlt, List.foldl_cons] at hR
    have go := impl_l0 R d (i + 1) _ (by omega) hR
    apply Ev.succ; simp only [impl_NearestWords.l0, e1]
    rw [rdB l i hlt]
    refine Ev.pos (by omega) (Ev.pos (by omega) (Ev.pos (by omega) ?_))
    refine distFar_ev t l[i] ht (hw _ (List.getElem_mem hlt)) (fun k x => if a < 0 then impl_NearestWords.l0 k l l (l.length : Int) ((i + 1 : Nat) : Int) t x else if x < a then impl_NearestWords.l0 k l l (l.length : Int) ((i + 1 : Nat) : Int) t x else impl_NearestWords.l0 k l l (l.length : Int) ((i + 1 : Nat) : Int) t a) R ?_
    unfold stepL at go
    by_cases c1 : a < 0
    · rw [if_pos c1] at go; exact Ev.pos c1 go
    · rw [if_neg c1] at go
      refine Ev.neg c1 ?_
      by_cases c2 : DW t l[i] < a
      · rw [if_pos c2] at go; exact Ev.pos c2 go
      · rw [if_neg c2] at go; exact Ev.neg c2 go
end
theorem both_ev (l : List ByteArray) (t : ByteArray) (hl : l.length ≤ 1048576) (hs : ∀ g ∈ l, g.size ≤ 1048576) (ht : t.size ≤ 1048576) : ∃ r : List ByteArray × Int × Bool, Ev (fun k => spec_NearestWords.f k l t) r ∧ Ev (fun k => impl_NearestWords.f k l t) r ∧ r.1.length ≤ 1048576 := by
  have badE : Ev (fun k => spec_NearestWords.j0 k l t true) (([] : List ByteArray), (0 : Int), false) := Ev.succ (by simp only [spec_NearestWords.j0]; exact Ev.pos (by trivial) (Ev.now _))
  have badI : Ev (fun k => impl_NearestWords.j0 k l true t) (([] : List ByteArray), (0 : Int), false) := Ev.succ (by simp only [impl_NearestWords.j0]; exact Ev.pos (by trivial) (Ev.now _))
  unfold spec_NearestWords.f impl_NearestWords.f
  cases h1 : dictB l with
  | false =>
    exact ⟨([], 0, false), Ev.bind (wdGood_ev l hl hs) (by rw [h1]; exact Ev.neg (by decide) badE), Ev.bind (isDict_ev l hl hs) (by rw [h1]; exact Ev.neg (by decide) badI), Nat.zero_le _⟩
  | true =>
    obtain ⟨q1, q2, q3⟩ := dictB_spec h1
    cases h2 : textB (bl t) with
    | false =>
      exact ⟨([], 0, false), Ev.bind (wdGood_ev l hl hs) (by rw [h1]; exact Ev.yes (Ev.bind (bkText_ev t) (by rw [h2]; exact badE))), Ev.bind (isDict_ev l hl hs) (by rw [h1]; exact Ev.yes (Ev.bindc (x := false) (by rw [isText_eq t (by omega), h2]) badI)), Nat.zero_le _⟩
    | true =>
      have lt := textB_len h2
      have go := spec_l0 l t q2 q3 lt l.length 0 [] (-1) 0 (by omega) rfl (.inl ⟨rfl, rfl, rfl⟩)
      rw [List.drop_zero, List.nil_append, List.filter_nil, if_neg (fun e => by rw [e] at q1; simp at q1)] at go
      have goE : Ev (fun k => spec_NearestWords.j0 k l t (!true)) (l.filter (fun w => DW t w == l.foldl (stepL t) (-1)), l.foldl (stepL t) (-1), true) := Ev.succ (by simp only [spec_NearestWords.j0]; exact Ev.neg (by decide) go)
      have im := impl_l0 l t q2 q3 lt (l.filter (fun w => DW t w == l.foldl (stepL t) (-1)), l.foldl (stepL t) (-1), true) l.length 0 (-1) (by omega) (by
        rw [List.drop_zero]
        refine Ev.bind (pickedW_ev _ (fun w => DW t w == l.foldl (stepL t) (-1)) l (by omega) (fun w hm => ?_)) (Ev.now _)
        unfold impl_NearestWords_1.f
        exact distFar_ev t w lt (q3 w hm) (fun _ x => some (x == l.foldl (stepL t) (-1))) _ (Ev.now _))
      have imE : Ev (fun k => impl_NearestWords.j0 k l (!true) t) (l.filter (fun w => DW t w == l.foldl (stepL t) (-1)), l.foldl (stepL t) (-1), true) := Ev.succ (by simp only [impl_NearestWords.j0]; exact Ev.neg (by decide) im)
      refine ⟨(l.filter (fun w => DW t w == l.foldl (stepL t) (-1)), l.foldl (stepL t) (-1), true), Ev.bind (wdGood_ev l hl hs) (by rw [h1]; exact Ev.yes (Ev.bind (bkText_ev t) (by rw [h2]; exact goE))), Ev.bind (isDict_ev l hl hs) (by rw [h1]; exact Ev.yes (Ev.bindc (x := true) (by rw [isText_eq t (by omega), h2]) imE)), ?_⟩
      have := List.length_filter_le (fun w => DW t w == l.foldl (stepL t) (-1)) l
      show (l.filter _).length ≤ _
      omega
end NearestWords
open NearestWords in
theorem pure_FnExactNearestWords : PureFnExactNearestWords := by
  intro l t hl ht
  refine Ev.rounds (g := fun k => laws_FnExactNearestWords.f k l t) ?_
  unfold laws_FnExactNearestWords.f
  by_cases c0 : (t.size : Int) > 1048576
  · exact Ev.pos c0 (Ev.now _)
  obtain ⟨r, hr, hb⟩ := szSS_ev l hl.1 hl.2
  refine Ev.neg c0 (Ev.bind hr ?_)
  by_cases c : r < 0
  · exact Ev.pos c (Ev.now _)
  · obtain ⟨h1, h2⟩ := hb c
    obtain ⟨q, q1, q2, q3⟩ := both_ev l t h1 h2 (by omega)
    obtain ⟨M, hM⟩ := marks
    have eq := eqSS_ev q.1 (by omega)
    have eql := eqSS_ev l (by omega)
    have mk := markSS_ev M hM q.1 (by omega)
    have mkl := markSS_ev M hM l (by omega)
    have hd := heldSS_ev M hM q.1.length (by omega)
    refine Ev.neg c (Ev.bind (toSS_ev l h1) (Ev.bind q1 (Ev.bind (toSS_ev l h1) (Ev.bind q2 (Ev.bind eq (Ev.pos rfl (Ev.pos rfl ?_)))))))
    apply Ev.succ
    simp only [laws_FnExactNearestWords.j0]
    refine Ev.neg (by simp) (Ev.bind (toSS_ev l h1) (Ev.bind eql (Ev.pos rfl (Ev.bind mkl (Ev.neg (by omega) (Ev.bind eq (Ev.pos rfl (Ev.pos (by trivial) ?_))))))))
    apply Ev.succ
    simp only [laws_FnExactNearestWords.j1]
    refine Ev.neg (by simp) (Ev.bind mk (Ev.bind hd (Ev.neg (by omega) (Ev.pos rfl (Ev.bind (toSS_ev l h1) (Ev.bind q2 (Ev.bind eq (Ev.pos rfl (Ev.pos rfl ?_)))))))))
    apply Ev.succ
    simp only [laws_FnExactNearestWords.j2]
    exact Ev.neg (by simp) (Ev.bind hd (Ev.neg (by omega) (Ev.pos rfl (Ev.now _))))
end Go.Proofs.YtamhlbdjjfdbiaaDoor

namespace Go.Proofs.YtamhlbdjjfdbiaaDoor
open Go.RowKit Go.Proofs.YtamhlbdjjfdbiaaDoorW.PrintWords Go.ChangeShapes Go.WideShapes

theorem C_scalar {α : Type} {enc : α → Value} {h1 : ∀ x, (enc x).oneCell' = true} {w : World} {A : Option Addr} {l : List α} (hn : l.length ≤ 9223372036854775807)
    (hcell : 0 < l.length → ∃ ad, A = some ad ∧ ∀ j x, l[j]? = some x → w.cell? (ad.add j) = some (enc x)) : (Kd.scalar enc h1).C w A l.length l := by
  refine ⟨rfl, hn, fun hp => ?_⟩
  obtain ⟨ad, hA, hc⟩ := hcell hp
  refine ⟨ad, hA, fun j x hx => ⟨[enc x], rfl, rfl, fun i u hu => ?_⟩⟩
  match i, hu with
  | 0, hu =>
    have : enc x = u := by simpa using hu
    subst this
    show w.cell? (ad.add (j * 1 + 0)) = _
    rw [Nat.mul_one, Nat.add_zero]
    exact hc j x hx
  | i + 1, hu => simp at hu

section
variable {H : Type} {enc : TypeId × Value → H} {P : Program} {w : World} {base : Nat} {spare : Nat → Bool} {held : Bool}

/-- A cell that reads at a slice of whole numbers. -/
theorem read_ints {t e : TypeId} {k : IntKind} {fuel : Nat} {v : Value} {y : DataW H × List MemPlace} (ht : P.underlying t = some (.slice e)) (he : P.underlying e = some (.int k)) (hc : P.cellsOf e = 1)
    (hf : DataW.trod enc P w base spare held fuel t [v] = some y) :
    ∃ (A : Option Addr) (c : Nat) (l : List Int), v = .slice A l.length c ∧ l.length ≤ c ∧ (∀ x ∈ l, (Lit.int k x).wf = true) ∧ (Kd.int k).C w A l.length l := by
  rcases open_ints ht he hc hf with ⟨hcs, _⟩ | ⟨a, len, cap, zs, hcs, _, hl, hm, hz, _, hcell, hwf⟩
  · obtain rfl : v = .slice none 0 0 := by simpa using hcs
    exact ⟨none, 0, [], rfl, Nat.le_refl _, fun x hx => by simp at hx, rfl, by simp, fun h => absurd h (by simp)⟩
  · obtain rfl : v = .slice (some a) len cap := by simpa using hcs
    have hlz : len ≤ zs.length := by rw [hz]; split <;> omega
    have hlen : (zs.take len).length = len := by rw [List.length_take]; omega
    refine ⟨some a, cap, zs.take len, by rw [hlen], by rw [hlen]; exact hl, fun x hx => hwf x (List.mem_of_mem_take hx), ?_⟩
    refine C_scalar (by rw [hlen]; unfold maxLen at hm; omega) (fun hp => ⟨a, rfl, fun j x hj => ?_⟩)
    have hj' : j < len := by have := (List.getElem?_eq_some_iff.1 hj).1; rw [hlen] at this; exact this
    rw [hcell j (by omega)]
    rw [List.getElem?_take_of_lt hj'] at hj
    rw [List.getD_eq_getElem?_getD, hj]; rfl

/-- A cell that reads at a slice of strings. -/
theorem read_strs {t e : TypeId} {fuel : Nat} {v : Value} {y : DataW H × List MemPlace} (ht : P.underlying t = some (.slice e)) (he : P.underlying e = some .string) (hc : P.cellsOf e = 1)
    (hf : DataW.trod enc P w base spare held fuel t [v] = some y) :
    ∃ (A : Option Addr) (c : Nat) (l : List ByteArray), v = .slice A l.length c ∧ l.length ≤ c ∧ (∀ s ∈ l, s.size ≤ 9223372036854775807) ∧ Kd.string.C w A l.length l := by
  rcases open_strings ht he hc hf with ⟨hcs, _⟩ | ⟨a, len, cap, zs, hcs, _, hl, hm, hz, _, hcell, hwf⟩
  · obtain rfl : v = .slice none 0 0 := by simpa using hcs
    exact ⟨none, 0, [], rfl, Nat.le_refl _, fun x hx => by simp at hx, rfl, by simp, fun h => absurd h (by simp)⟩
  · obtain rfl : v = .slice (some a) len cap := by simpa using hcs
    have hlz : len ≤ zs.length := by rw [hz]; split <;> omega
    have hlen : (zs.take len).length = len := by rw [List.length_take]; omega
    refine ⟨some a, cap, zs.take len, by rw [hlen], by rw [hlen]; exact hl, fun x hx => by have := hwf x (List.mem_of_mem_take hx); unfold maxLen at this; omega, ?_⟩
    refine C_scalar (by rw [hlen]; unfold maxLen at hm; omega) (fun hp => ⟨a, rfl, fun j x hj => ?_⟩)
    have hj' : j < len := by have := (List.getElem?_eq_some_iff.1 hj).1; rw [hlen] at this; exact this
    rw [hcell j (by omega)]
    rw [List.getElem?_take_of_lt hj'] at hj
    rw [List.getD_eq_getElem?_getD, hj]; rfl

theorem read_int {t : TypeId} {k : IntKind} {fuel : Nat} {v : Value} {y : DataW H × List MemPlace} (ht : P.underlying t = some (.int k))
    (hf : DataW.trod enc P w base spare held fuel t [v] = some y) : ∃ n : Int, v = .int k n ∧ (Lit.int k n).wf = true := by
  obtain ⟨n, e1, _, h⟩ := DataW.trod_int ht hf
  exact ⟨n, by simpa using e1, h⟩
end

/-- The cells of a datum that holds numbers alone, an array's elements being numbers or structs of numbers. -/
def litsOf : DataW Unit → List Value
  | .lit (.int k n) => [.int k n]
  | .agg l => l.flatMap fun
    | .lit (.int k n) => [.int k n]
    | .agg l2 => l2.flatMap fun
      | .lit (.int k n) => [.int k n]
      | _ => []
    | _ => []
  | _ => []
end Go.Proofs.YtamhlbdjjfdbiaaDoor

/- FnExactNearestWordsCardSaid: the law 'FnExactNearestWords' answers true for every input, and leaves its arguments as they were. The row and its tied card, over the walk of its calls and the pure statement. -/
namespace Go.Proofs.YtamhlbdjjfdbiaaDoor.fnExactNearestWords
open Go.ChangeShapes Go.WideShapes Go.ChangeAt Go.RowKit Go.Proofs.YtamhlbdjjfdbiaaDoor.P Go.Proofs.YtamhlbdjjfdbiaaDoorW.PrintWords
open Go.ChangeMaps (open_string shut_string)
set_option linter.unusedVariables false
theorem own : ownKnob Tryd.prog.godebug = none := by kernel_rfl
theorem laidOut : laidOutB Tryd.prog = true := by kernel_rfl
/-- What the row lists of package-level variables. -/
noncomputable def laidList : List (String × DataW Unit) := [("unicode/utf8.acceptRanges", Rows.laid_unicode_utf8_acceptRanges), ("unicode/utf8.first", Rows.laid_unicode_utf8_first)]
/-- A world that meets it: the settled one, the listed variables laid. -/
noncomputable def laidWorld (os : Os) : World :=
  let w0 := World.holding Tryd.prog os ⟨#[], #[], []⟩
  { w0 with heap := ((w0.heap.modify 2 fun o => match o with | .cells _ t frozen => .cells (litsOf Rows.laid_unicode_utf8_acceptRanges).toArray t frozen | o => o).modify 1 fun o => match o with | .cells _ t frozen => .cells (litsOf Rows.laid_unicode_utf8_first).toArray t frozen | o => o) }
theorem laidWorld_met (os : Os) (args : Array Value) : laidMetH Tryd.prog laidList ((laidWorld os).forCall (fun _ _ => 0) ⟨#[], args, []⟩).memory :=
  laidMetH_of_parts3 (fuel := 8) (laidMet_of_run' 8 (by kernel_rfl) (by kernel_rfl)) (by kernel_rfl) (by kernel_rfl)
set_option maxRecDepth 100000 in
theorem lifted (os : Os) (started : os.Started) (H : Type) (enc : TypeId × Value → H) :
    ReturnsInHanded {} Tryd.checked os 11 .any (fun w args => (Rows.fnExactNearestWordsSpec.pre enc Tryd.prog Tryd.f11 [] false w args ∧ laidMetH Tryd.prog laidList w) ∧ sizedMet enc Tryd.prog Tryd.f11 (OpenSpec.ofChange Rows.fnExactNearestWordsSpec) false w args)
      (Rows.fnExactNearestWordsSpec.post enc Tryd.prog Tryd.f11 false true false false) := by
  refine returnsInHanded_of_change_and (C := Tryd.checked) (X := fun w _ => laidMetH Tryd.prog laidList w) (fun _ _ _ hh h => h.of_heap hh) own started (by kernel_rfl) Tryd.func11
    (ChangeSpec.witness_at (enc := enc) (C := Tryd.checked) (os := os) (X := fun w _ => laidMetH Tryd.prog laidList w) false (laidWorld os) #[.slice none 0 0, .string ByteArray.empty] 8 rfl (by kernel_rfl) (by kernel_rfl) (by kernel_rfl) (by kernel_rfl) (by kernel_rfl) (laidWorld_met os _)) ?_
  intro W base args ds gs before hval0 hW _ _ hL _
  have hval : ∀ (j : Nat) t v, Tryd.f11.params[j]? = some t → args[j]? = some v → Value.okWide Tryd.prog W .any base t v := hval0
  have hW' := hW
  obtain ⟨p, q, hA0, hV, rfl, hfz, hnd⟩ := hW
  have hA : DataW.TrodAll enc Tryd.prog W 0 (fun _ => true) true Tryd.f11.params.toList args.toList ds p := hA0
  rw [Tryd.params11] at hA hval
  obtain ⟨v0, vs0, d0, ds0, p0, q0, hargs, rfl, rfl, h0, r0⟩ := trodAll_cons hA
  obtain ⟨v1, vs1, d1, ds1, p1, q1, rfl, rfl, rfl, h1, r1⟩ := trodAll_cons r0
  obtain ⟨rfl, rfl, rfl⟩ := trodAll_nil r1
  obtain rfl : args = #[v0, v1] := by cases args; simp_all
  obtain ⟨rfl, rfl⟩ := trodVars_none hV
  have k0 := h0
  have lt0 : ∀ x ∈ p0, x.block < W.heap.size := by obtain ⟨m, hm⟩ := k0; exact DataW.trod_lt m _ _ _ hm
  obtain ⟨a0, len0, cap0, rfl⟩ := okWide_slice Tryd.underlying31 (hval 0 31 v0 rfl rfl)
  obtain ⟨fu0, hf0⟩ := h0
  have hg0 : DataW.trod enc Tryd.prog W 0 (fun _ => true) true fu0 31 [.slice a0 len0 cap0] = some (d0, p0) := by simpa [Value.cells] using hf0
  clear hf0
  obtain ⟨vv0, hvv0⟩ : ∃ v, v = Value.slice a0 len0 cap0 := ⟨_, rfl⟩
  rw [← hvv0] at hg0 hW' k0 ⊢
  obtain ⟨A0, c0, l0, rfl, hc0, hw0, hr0⟩ := read_strs Tryd.underlying31 Tryd.underlying9 (by kernel_rfl) hg0
  obtain ⟨a1, rfl, rfl, rfl, y1⟩ := open_string Tryd.underlying9 (hval 1 9 v1 rfl rfl) h1
  have z1 : a1.size ≤ 9223372036854775807 := by unfold maxLen at y1; omega
  clear hA0 hval0
  obtain ⟨k, hk⟩ := pure_FnExactNearestWords l0 a1 ⟨hr0.2.1, hw0⟩ z1
  refine (laws_FnExactNearestWords.calls k A0 c0 l0 a1 true W hr0 hc0 hk).mono fun e W' ⟨he, bel0⟩ => ?_
  have bel : Below W.heap.size W W' := bel0
  subst he
  exact ⟨_, rfl, _, _, _, [], _, [], hW', trodAll_mk1 (shut_bool Tryd.underlying4 _), (trodAll_cons_mk (Below.trod laidOut (by kernel_rfl) (of_decide_eq_true (by kernel_rfl)) k0 bel lt0) (trodAll_cons_mk (shut_string Tryd.underlying9 y1) trodAll_mk0)), rfl, bel.frame _, fun h => by cases h⟩
theorem over : Rows.fnExactNearestWordsRow.holds Tryd.pinned (OpenSpec.ofChange Rows.fnExactNearestWordsSpec) :=
  OpenClaim.holds_of_wide 11 Tryd.f11 rfl rfl rfl rfl rfl rfl rfl ⟨rfl, rfl, rfl, rfl, rfl⟩ rfl rfl rfl rfl rfl (by kernel_rfl) Tryd.func11 (by kernel_rfl)
    (of_decide_eq_true (by kernel_rfl)) (by unfold Func.isWrapper; first | (rw [if_pos (by decide +kernel)]; kernel_rfl) | (rw [if_neg (by decide +kernel)]; exact ⟨rfl, rfl⟩))
    (fun os started H enc _ => lifted os started H enc)
theorem proved : Rows.FnExactNearestWordsSaid := over
theorem card : Rows.FnExactNearestWordsCardSaid :=
  Claim7.holds_tied_plain_at .later [] [.data, .pinned] true (true, "f7a8f0b0a8ebe6116bd847de1e23082415b6a2e67e2b3d2d44827f78c58abfdc") false
    proved (fun _ h => by cases h) (by kernel_rfl) (fun _ h => by cases h) fnExactNearestWords_row_tie rfl ⟨rfl, rfl⟩ (by kernel_rfl) rfl
    (fun f fn hf hfn => by
      obtain rfl : f = 11 := Option.some.inj ((show Tryd.prog.funcNamed "loop.example/g01350/laws.FnExactNearestWords" = some 11 by kernel_rfl).symm.trans hf) |>.symm
      obtain rfl : fn = Tryd.f11 := (Option.some.inj (Tryd.func11.symm.trans hfn)).symm
      exact ⟨by kernel_rfl, fun j t ht => by
        rw [Tryd.params11] at ht
        have hm : t ∈ #[31, 9] := Array.mem_of_getElem? ht
        have hm : t ∈ [31, 9] := by simpa using hm
        have hall : ([31, 9].all fun u => !Tryd.prog.wantsStandIn u) = true := by kernel_rfl
        exact (show Tryd.prog.wantsStandIn t = false by simpa using List.all_eq_true.1 hall t hm)⟩)
    (by kernel_rfl)
#print axioms card
end Go.Proofs.YtamhlbdjjfdbiaaDoor.fnExactNearestWords
namespace Go.Proofs.YtamhlbdjjfdbiaaDoor
theorem fnExactNearestWords_holds : Rows.FnExactNearestWordsCardSaid := fnExactNearestWords.card
end Go.Proofs.YtamhlbdjjfdbiaaDoor

