/- Part 6 of 6 of the proof of: FnExactStuckForCardSaid: the law 'FnExactStuckFor' answers true for every input, and leaves its arguments as they were. The row and its tied card, over the walk of its calls and the pure statement. -/
import Derived.Test.YtcidlaabbkimdaaDoorMFnExactStuckFor1
import Derived.Test.YtcidlaabbkimdaaDoorMFnExactStuckFor5
import Derived.Test.YtcidlaabbkimdaaDoorMFnExactStuckForW
import Derived.Laws.Strings
import Derived.Lib.SlTrimSet
import Derived.Lib.Bytealg
import Derived.Test.YtcidlaabbkimdaaDoorMFnExactStuckFor2
import Derived.Sort.LotA
import Derived.Sort.LotB
import Derived.Sort.LotC
import Derived.Test.YtcidlaabbkimdaaDoorMFnExactStuckFor4
import Derived.Test.YtcidlaabbkimdaaDoorMFnExactStuckFor3
import Derived.Sort.Walk13a
import Derived.Sort.LotD4
import Derived.Sort.AssemblyPlain
import Derived.Lib.SlicesCompact
import Derived.WalkKit
import Derived.ProofKit
import Derived.OpenShut
import Derived.ShutString
import Derived.ChangeOld
import Derived.Below
import Derived.SizedLaws
import Derived.ChangeSlices
import Derived.SliceStrings
import Derived.Lib.SmallJoins
import Derived.LaidLaws
import Derived.LaidHandle
import Derived.LaidMore
import Derived.Test.YtcidlaabbkimdaaDoorRows
import Derived.Test.YtcidlaabbkimdaaDoorCards
import Derived.Test.YtcidlaabbkimdaaDoorTie
import Derived.Handed
import Derived.SevenTiedAt
import Derived.Stop.Joined
-- printed by xprint.py
namespace Go.Proofs.YtcidlaabbkimdaaDoor.P
open Go.RowKit Go.Proofs.YtcidlaabbkimdaaDoorW.PrintWords Go.Proofs.YtcidlaabbkimdaaDoorW.PrintLast Go.Proofs.YtcidlaabbkimdaaDoorW.PrintMore
attribute [local go_sem] max2_int min2_int max_two min_two max_three min_three max_four min_four   -- for this text's walks alone
set_option linter.unusedVariables false
set_option linter.unusedSimpArgs false

/-! ### spec_bkTwo: function 31 -/
def spec_bkTwo.f (k : Nat) (a0 : ByteArray) (a1 : ByteArray) : Option (Bool) := (spec_bkText.f k a0).bind fun t101 => (if t101 = true then (if (a1.size : Int) ≤ 40 then ((spec_bkHalf.f a1 0).bind fun t102 => ((spec_bkText.f k t102).bind fun t103 => (if t103 = true then ((spec_bkHalf.f a1 1).bind fun t104 => ((spec_bkText.f k t104).bind fun t105 => (some t105))) else (some false)))) else (some false)) else (some false))
theorem spec_bkTwo.mono : ∀ y0 y1 k,LeO (spec_bkTwo.f k y0 y1) (spec_bkTwo.f (k + 1) y0 y1) := by
 intro y0 y1 k
 unfold spec_bkTwo.f
 repeat' first
   | (with_reducible exact spec_bkText.mono _ _)
   | (with_reducible exact LeO.refl _)
   | (with_reducible exact LeO.none _)
   | (with_reducible refine LeO.ite ?_ ?_)
   | (with_reducible refine LeO.bind ?_ (fun _ => ?_))
   | exact spec_bkText.mono _ _
   | exact LeO.none _
   | refine LeO.ite ?_ ?_
   | refine LeO.bind ?_ (fun _ => ?_)
set_option maxHeartbeats 8000000 in
set_option maxRecDepth 100000 in
theorem spec_bkTwo.calls (k : Nat) (a0 : ByteArray) (a1 : ByteArray) (r : Bool) (w : World) (h : spec_bkTwo.f k a0 a1 = some r) :
  Calls Tryd.prog 31 #[.string a0,.string a1] w fun e w' => e = .returned (.bool r) ∧ Drawn0 w w' := by
 have H : ((spec_bkText.f k a0).bind fun t101 => (if t101 = true then (if (a1.size : Int) ≤ 40 then ((spec_bkHalf.f a1 0).bind fun t102 => ((spec_bkText.f k t102).bind fun t103 => (if t103 = true then ((spec_bkHalf.f a1 1).bind fun t104 => ((spec_bkText.f k t104).bind fun t105 => (some t105))) else (some false)))) else (some false)) else (some false))) = some r := h; clear h; replace H := Option.bind_eq_some_iff.mp H; obtain ⟨t101,A30,H⟩ := H; replace H : (if t101 = true then (if (a1.size : Int) ≤ 40 then ((spec_bkHalf.f a1 0).bind fun t102 => ((spec_bkText.f k t102).bind fun t103 => (if t103 = true then ((spec_bkHalf.f a1 1).bind fun t104 => ((spec_bkText.f k t104).bind fun t105 => (some t105))) else (some false)))) else (some false)) else (some false)) = some r := H; have A3 := Aside0.mk A30; clear A30
 by_cases c4 : t101 = true
 ·
  subst c4; have H1 : (if (a1.size : Int) ≤ 40 then ((spec_bkHalf.f a1 0).bind fun t102 => ((spec_bkText.f k t102).bind fun t103 => (if t103 = true then ((spec_bkHalf.f a1 1).bind fun t104 => ((spec_bkText.f k t104).bind fun t105 => (some t105))) else (some false)))) else (some false)) = some r := by rw [if_pos rfl] at H; exact H
  clear H; have H := H1; clear H1
  by_cases c5 : (a1.size : Int) ≤ 40
  ·
   rw [if_pos c5] at H; have c5b0 : decide ((a1.size : Int) ≤ 40) = true := decide_eq_true c5; have c5b1 : decide (a1.size ≤ 40) = true := decide_eq_true (by omega); clear c5; replace H := Option.bind_eq_some_iff.mp H; obtain ⟨t102,A60,H⟩ := H; replace H : ((spec_bkText.f k t102).bind fun t103 => (if t103 = true then ((spec_bkHalf.f a1 1).bind fun t104 => ((spec_bkText.f k t104).bind fun t105 => (some t105))) else (some false))) = some r := H; have A6 := Aside0.mk A60; clear A60; replace H := Option.bind_eq_some_iff.mp H; obtain ⟨t103,A70,H⟩ := H; replace H : (if t103 = true then ((spec_bkHalf.f a1 1).bind fun t104 => ((spec_bkText.f k t104).bind fun t105 => (some t105))) else (some false)) = some r := H; have A7 := Aside0.mk A70; clear A70
   by_cases c8 : t103 = true
   ·
    subst c8; have H1 : ((spec_bkHalf.f a1 1).bind fun t104 => ((spec_bkText.f k t104).bind fun t105 => (some t105))) = some r := by rw [if_pos rfl] at H; exact H
    clear H; have H := H1; clear H1; replace H := Option.bind_eq_some_iff.mp H; obtain ⟨t104,A90,H⟩ := H; replace H : ((spec_bkText.f k t104).bind fun t105 => (some t105)) = some r := H; have A9 := Aside0.mk A90; clear A90; replace H := Option.bind_eq_some_iff.mp H; obtain ⟨t105,A100,H⟩ := H; replace H : (some t105) = some r := H; have A10 := Aside0.mk A100; clear A100; obtain rfl := Option.some.inj H
    go_enter Tryd.func31,Tryd.ntmps31
    go_wp2_with (first | ((with_reducible refine gate_callee (f := 27) rfl ?_); refine goesL_ (some 6) rfl rfl Tryd.func27 (by kernel_rfl) rfl #[.string a0] rfl (by (try simp only [List.map_toArray,List.map_cons,List.map_nil]); first | done | rfl | (simp only [List.length_drop,List.length_take]; rfl)) ?_; (with_reducible refine (spec_bkText.calls k a0 true _ A3.out).mono ?_); rintro e w' ⟨rfl,⟨nd,rfl⟩⟩; refine ⟨_,rfl,?_⟩) | (go_at_call 50; (with_reducible refine (spec_bkHalf.calls a1 0 t102 _ A6.out).mono ?_); rintro e w' ⟨rfl,⟨nd,rfl⟩⟩) | (go_at_call 27; (with_reducible refine (spec_bkText.calls k t102 true _ A7.out).mono ?_); rintro e w' ⟨rfl,⟨nd,rfl⟩⟩) | (go_at_call 50; (with_reducible refine (spec_bkHalf.calls a1 1 t104 _ A9.out).mono ?_); rintro e w' ⟨rfl,⟨nd,rfl⟩⟩) | (go_at_call 27; (with_reducible refine (spec_bkText.calls k t104 t105 _ A10.out).mono ?_); rintro e w' ⟨rfl,⟨nd,rfl⟩⟩))
    go_ret
    exact ⟨by first | rfl | (simp; done) | (simp [*]; done),by repeat (first | exact Drawn0.refl _ | apply Drawn0.step)⟩
   ·
    replace c8 := Bool.eq_false_iff.mpr c8; subst c8; have H1 : (some false) = some r := by rw [if_neg (show ¬ (false = true) by decide)] at H; exact H
    clear H; have H := H1; clear H1; obtain rfl := Option.some.inj H
    go_enter Tryd.func31,Tryd.ntmps31
    go_wp2_with (first | ((with_reducible refine gate_callee (f := 27) rfl ?_); refine goesL_ (some 6) rfl rfl Tryd.func27 (by kernel_rfl) rfl #[.string a0] rfl (by (try simp only [List.map_toArray,List.map_cons,List.map_nil]); first | done | rfl | (simp only [List.length_drop,List.length_take]; rfl)) ?_; (with_reducible refine (spec_bkText.calls k a0 true _ A3.out).mono ?_); rintro e w' ⟨rfl,⟨nd,rfl⟩⟩; refine ⟨_,rfl,?_⟩) | (go_at_call 50; (with_reducible refine (spec_bkHalf.calls a1 0 t102 _ A6.out).mono ?_); rintro e w' ⟨rfl,⟨nd,rfl⟩⟩) | (go_at_call 27; (with_reducible refine (spec_bkText.calls k t102 false _ A7.out).mono ?_); rintro e w' ⟨rfl,⟨nd,rfl⟩⟩))
    go_ret
    exact ⟨by first | rfl | (simp; done) | (simp [*]; done),by repeat (first | exact Drawn0.refl _ | apply Drawn0.step)⟩
  ·
   rw [if_neg c5] at H; have c5b0 : decide ((a1.size : Int) ≤ 40) = false := decide_eq_false c5; have c5b1 : decide (a1.size ≤ 40) = false := decide_eq_false (by omega); clear c5; obtain rfl := Option.some.inj H
   go_enter Tryd.func31,Tryd.ntmps31
   go_wp2_with (first | ((with_reducible refine gate_callee (f := 27) rfl ?_); refine goesL_ (some 6) rfl rfl Tryd.func27 (by kernel_rfl) rfl #[.string a0] rfl (by (try simp only [List.map_toArray,List.map_cons,List.map_nil]); first | done | rfl | (simp only [List.length_drop,List.length_take]; rfl)) ?_; (with_reducible refine (spec_bkText.calls k a0 true _ A3.out).mono ?_); rintro e w' ⟨rfl,⟨nd,rfl⟩⟩; refine ⟨_,rfl,?_⟩))
   go_ret
   exact ⟨by first | rfl | (simp; done) | (simp [*]; done),by repeat (first | exact Drawn0.refl _ | apply Drawn0.step)⟩
 ·
  replace c4 := Bool.eq_false_iff.mpr c4; subst c4; have H1 : (some false) = some r := by rw [if_neg (show ¬ (false = true) by decide)] at H; exact H
  clear H; have H := H1; clear H1; obtain rfl := Option.some.inj H
  go_enter Tryd.func31,Tryd.ntmps31
  go_wp2_with (first | ((with_reducible refine gate_callee (f := 27) rfl ?_); refine goesL_ (some 6) rfl rfl Tryd.func27 (by kernel_rfl) rfl #[.string a0] rfl (by (try simp only [List.map_toArray,List.map_cons,List.map_nil]); first | done | rfl | (simp only [List.length_drop,List.length_take]; rfl)) ?_; (with_reducible refine (spec_bkText.calls k a0 false _ A3.out).mono ?_); rintro e w' ⟨rfl,⟨nd,rfl⟩⟩; refine ⟨_,rfl,?_⟩))
  go_ret
  exact ⟨by first | rfl | (simp; done) | (simp [*]; done),by repeat (first | exact Drawn0.refl _ | apply Drawn0.step)⟩

end Go.Proofs.YtcidlaabbkimdaaDoor.P

-- printed by xprint.py
namespace Go.Proofs.YtcidlaabbkimdaaDoor.P
open Go.RowKit Go.Proofs.YtcidlaabbkimdaaDoorW.PrintWords Go.Proofs.YtcidlaabbkimdaaDoorW.PrintLast Go.Proofs.YtcidlaabbkimdaaDoorW.PrintMore
attribute [local go_sem] max2_int min2_int max_two min_two max_three min_three max_four min_four   -- for this text's walks alone
set_option linter.unusedVariables false
set_option linter.unusedSimpArgs false

/-! ### spec_StuckFor: function 18 -/
def spec_StuckFor.f (k : Nat) (a0 : ByteArray) (a1 : ByteArray) : Option (ByteArray × Bool) := (spec_bkTwo.f k a0 a1).bind fun t101 => (if t101 = true then ((spec_bkTell.f k a0 a1).bind fun bt102 => ((spec_bkShow.f k a0 (⟨#[]⟩ : ByteArray) bt102.2).bind fun t104 => (if t104.toList = a1.toList then (some (bt102.2,true)) else (some ((⟨#[]⟩ : ByteArray),false))))) else (some ((⟨#[]⟩ : ByteArray),false)))
theorem spec_StuckFor.mono : ∀ y0 y1 k,LeO (spec_StuckFor.f k y0 y1) (spec_StuckFor.f (k + 1) y0 y1) := by
 intro y0 y1 k
 unfold spec_StuckFor.f
 repeat' first
   | (with_reducible exact spec_bkShow.mono _ _ _ _)
   | (with_reducible exact spec_bkTell.mono _ _ _)
   | (with_reducible exact spec_bkTwo.mono _ _ _)
   | (with_reducible exact LeO.refl _)
   | (with_reducible exact LeO.none _)
   | (with_reducible refine LeO.ite ?_ ?_)
   | (with_reducible refine LeO.bind ?_ (fun _ => ?_))
   | exact spec_bkShow.mono _ _ _ _
   | exact spec_bkTell.mono _ _ _
   | exact spec_bkTwo.mono _ _ _
   | exact LeO.none _
   | refine LeO.ite ?_ ?_
   | refine LeO.bind ?_ (fun _ => ?_)
set_option maxHeartbeats 8000000 in
set_option maxRecDepth 100000 in
theorem spec_StuckFor.calls (k : Nat) (a0 : ByteArray) (a1 : ByteArray) (r1 : ByteArray) (r2 : Bool) (w : World) (h : spec_StuckFor.f k a0 a1 = some (r1,r2)) :
  Calls Tryd.prog 18 #[.string a0,.string a1] w fun e w' => e = .returned (.tuple #[.string r1,.bool r2]) ∧ Drawn0 w w' := by
 have H : ((spec_bkTwo.f k a0 a1).bind fun t101 => (if t101 = true then ((spec_bkTell.f k a0 a1).bind fun bt102 => ((spec_bkShow.f k a0 (⟨#[]⟩ : ByteArray) bt102.2).bind fun t104 => (if t104.toList = a1.toList then (some (bt102.2,true)) else (some ((⟨#[]⟩ : ByteArray),false))))) else (some ((⟨#[]⟩ : ByteArray),false)))) = some (r1,r2) := h; clear h; replace H := Option.bind_eq_some_iff.mp H; obtain ⟨t101,A30,H⟩ := H; replace H : (if t101 = true then ((spec_bkTell.f k a0 a1).bind fun bt102 => ((spec_bkShow.f k a0 (⟨#[]⟩ : ByteArray) bt102.2).bind fun t104 => (if t104.toList = a1.toList then (some (bt102.2,true)) else (some ((⟨#[]⟩ : ByteArray),false))))) else (some ((⟨#[]⟩ : ByteArray),false))) = some (r1,r2) := H; have A3 := Aside0.mk A30; clear A30
 by_cases c4 : t101 = true
 ·
  subst c4; have H1 : ((spec_bkTell.f k a0 a1).bind fun bt102 => ((spec_bkShow.f k a0 (⟨#[]⟩ : ByteArray) bt102.2).bind fun t104 => (if t104.toList = a1.toList then (some (bt102.2,true)) else (some ((⟨#[]⟩ : ByteArray),false))))) = some (r1,r2) := by rw [if_pos rfl] at H; exact H
  clear H; have H := H1; clear H1; replace H := Option.bind_eq_some_iff.mp H; obtain ⟨⟨t102,t103⟩,A50,H⟩ := H; replace H : ((spec_bkShow.f k a0 (⟨#[]⟩ : ByteArray) t103).bind fun t104 => (if t104.toList = a1.toList then (some (t103,true)) else (some ((⟨#[]⟩ : ByteArray),false)))) = some (r1,r2) := H; have A5 := Aside0.mk A50; clear A50; replace H := Option.bind_eq_some_iff.mp H; obtain ⟨t104,A60,H⟩ := H; replace H : (if t104.toList = a1.toList then (some (t103,true)) else (some ((⟨#[]⟩ : ByteArray),false))) = some (r1,r2) := H; have A6 := Aside0.mk A60; clear A60
  by_cases c7 : t104.toList = a1.toList
  ·
   rw [if_pos c7] at H; have c7b0 : (t104.toList == a1.toList) = true := beq_iff_eq.mpr c7; have c7b1 : (t104.toList != a1.toList) = false := bne_eq_false_iff_eq.mpr c7; clear c7; simp only [Option.some.injEq,Prod.mk.injEq] at H; obtain ⟨rfl,rfl⟩ := H
   go_enter Tryd.func18,Tryd.ntmps18
   go_wp2_with (first | ((with_reducible refine gate_callee (f := 31) rfl ?_); refine goesL_ (some 10) rfl rfl Tryd.func31 (by kernel_rfl) rfl #[.string a0,.string a1] rfl (by (try simp only [List.map_toArray,List.map_cons,List.map_nil]); first | done | rfl | (simp only [List.length_drop,List.length_take]; rfl)) ?_; (with_reducible refine (spec_bkTwo.calls k a0 a1 true _ A3.out).mono ?_); rintro e w' ⟨rfl,⟨nd,rfl⟩⟩; refine ⟨_,rfl,?_⟩) | ((with_reducible refine gate_callee (f := 32) rfl ?_); refine goesL_ (some 15) rfl rfl Tryd.func32 (by kernel_rfl) rfl #[.string a0,.string a1] rfl (by (try simp only [List.map_toArray,List.map_cons,List.map_nil]); first | done | rfl | (simp only [List.length_drop,List.length_take]; rfl)) ?_; (with_reducible refine (spec_bkTell.calls k a0 a1 t102 t103 _ A5.out).mono ?_); rintro e w' ⟨rfl,⟨nd,rfl⟩⟩; refine ⟨_,rfl,?_⟩) | ((with_reducible refine gate_callee (f := 33) rfl ?_); refine goesL_ (some 20) rfl rfl Tryd.func33 (by kernel_rfl) rfl #[.string a0,.string (⟨#[]⟩ : ByteArray),.string t103] rfl (by (try simp only [List.map_toArray,List.map_cons,List.map_nil]); first | done | rfl | (simp only [List.length_drop,List.length_take]; rfl)) ?_; (with_reducible refine (spec_bkShow.calls k a0 (⟨#[]⟩ : ByteArray) t103 t104 _ A6.out).mono ?_); rintro e w' ⟨rfl,⟨nd,rfl⟩⟩; refine ⟨_,rfl,?_⟩))
   go_ret2
   exact ⟨by first | rfl | (simp; done) | (simp [*]; done),by repeat (first | exact Drawn0.refl _ | apply Drawn0.step)⟩
  ·
   rw [if_neg c7] at H; have c7b0 : (t104.toList == a1.toList) = false := beq_eq_false_iff_ne.mpr c7; have c7b1 : (t104.toList != a1.toList) = true := bne_iff_ne.mpr c7; simp only [Option.some.injEq,Prod.mk.injEq] at H; obtain ⟨rfl,rfl⟩ := H
   go_enter Tryd.func18,Tryd.ntmps18
   go_wp2_with (first | ((with_reducible refine gate_callee (f := 31) rfl ?_); refine goesL_ (some 10) rfl rfl Tryd.func31 (by kernel_rfl) rfl #[.string a0,.string a1] rfl (by (try simp only [List.map_toArray,List.map_cons,List.map_nil]); first | done | rfl | (simp only [List.length_drop,List.length_take]; rfl)) ?_; (with_reducible refine (spec_bkTwo.calls k a0 a1 true _ A3.out).mono ?_); rintro e w' ⟨rfl,⟨nd,rfl⟩⟩; refine ⟨_,rfl,?_⟩) | ((with_reducible refine gate_callee (f := 32) rfl ?_); refine goesL_ (some 15) rfl rfl Tryd.func32 (by kernel_rfl) rfl #[.string a0,.string a1] rfl (by (try simp only [List.map_toArray,List.map_cons,List.map_nil]); first | done | rfl | (simp only [List.length_drop,List.length_take]; rfl)) ?_; (with_reducible refine (spec_bkTell.calls k a0 a1 t102 t103 _ A5.out).mono ?_); rintro e w' ⟨rfl,⟨nd,rfl⟩⟩; refine ⟨_,rfl,?_⟩) | ((with_reducible refine gate_callee (f := 33) rfl ?_); refine goesL_ (some 20) rfl rfl Tryd.func33 (by kernel_rfl) rfl #[.string a0,.string (⟨#[]⟩ : ByteArray),.string t103] rfl (by (try simp only [List.map_toArray,List.map_cons,List.map_nil]); first | done | rfl | (simp only [List.length_drop,List.length_take]; rfl)) ?_; (with_reducible refine (spec_bkShow.calls k a0 (⟨#[]⟩ : ByteArray) t103 t104 _ A6.out).mono ?_); rintro e w' ⟨rfl,⟨nd,rfl⟩⟩; refine ⟨_,rfl,?_⟩))
   go_ret2
   exact ⟨by first | rfl | (simp; done) | (simp [*]; done),by repeat (first | exact Drawn0.refl _ | apply Drawn0.step)⟩
 ·
  replace c4 := Bool.eq_false_iff.mpr c4; subst c4; have H1 : (some ((⟨#[]⟩ : ByteArray),false)) = some (r1,r2) := by rw [if_neg (show ¬ (false = true) by decide)] at H; exact H
  clear H; have H := H1; clear H1; simp only [Option.some.injEq,Prod.mk.injEq] at H; obtain ⟨rfl,rfl⟩ := H
  go_enter Tryd.func18,Tryd.ntmps18
  go_wp2_with (first | ((with_reducible refine gate_callee (f := 31) rfl ?_); refine goesL_ (some 10) rfl rfl Tryd.func31 (by kernel_rfl) rfl #[.string a0,.string a1] rfl (by (try simp only [List.map_toArray,List.map_cons,List.map_nil]); first | done | rfl | (simp only [List.length_drop,List.length_take]; rfl)) ?_; (with_reducible refine (spec_bkTwo.calls k a0 a1 false _ A3.out).mono ?_); rintro e w' ⟨rfl,⟨nd,rfl⟩⟩; refine ⟨_,rfl,?_⟩))
  go_ret2
  exact ⟨by first | rfl | (simp; done) | (simp [*]; done),by repeat (first | exact Drawn0.refl _ | apply Drawn0.step)⟩

end Go.Proofs.YtcidlaabbkimdaaDoor.P

-- printed by xprint.py
namespace Go.Proofs.YtcidlaabbkimdaaDoor.P
open Go.RowKit Go.Proofs.YtcidlaabbkimdaaDoorW.PrintWords Go.Proofs.YtcidlaabbkimdaaDoorW.PrintLast Go.Proofs.YtcidlaabbkimdaaDoorW.PrintMore
attribute [local go_sem] max2_int min2_int max_two min_two max_three min_three max_four min_four   -- for this text's walks alone
set_option linter.unusedVariables false
set_option linter.unusedSimpArgs false

/-! ### laws_FnExactStuckFor: function 7 -/
def laws_FnExactStuckFor.f (k : Nat) (a0 : ByteArray) (a1 : ByteArray) : Option (Bool) := if (a0.size : Int) > 1048576 then (some true) else (if (a1.size : Int) > 1048576 then (some true) else ((spec_StuckFor.f k a0 a1).bind fun bt101 => ((impl_StuckFor.f k a0 a1).bind fun bt103 => (if bt103.1.toList = bt101.1.toList then (if (bt103.2 != bt101.2) = true then (some false) else (some true)) else (some false)))))
theorem laws_FnExactStuckFor.mono : ∀ y0 y1 k,LeO (laws_FnExactStuckFor.f k y0 y1) (laws_FnExactStuckFor.f (k + 1) y0 y1) := by
 intro y0 y1 k
 unfold laws_FnExactStuckFor.f
 repeat' first
   | (with_reducible exact impl_StuckFor.mono _ _ _)
   | (with_reducible exact spec_StuckFor.mono _ _ _)
   | (with_reducible exact LeO.refl _)
   | (with_reducible exact LeO.none _)
   | (with_reducible refine LeO.ite ?_ ?_)
   | (with_reducible refine LeO.bind ?_ (fun _ => ?_))
   | exact impl_StuckFor.mono _ _ _
   | exact spec_StuckFor.mono _ _ _
   | exact LeO.none _
   | refine LeO.ite ?_ ?_
   | refine LeO.bind ?_ (fun _ => ?_)
set_option maxHeartbeats 8000000 in
set_option maxRecDepth 100000 in
theorem laws_FnExactStuckFor.calls (k : Nat) (a0 : ByteArray) (a1 : ByteArray) (r : Bool) (w : World) (h : laws_FnExactStuckFor.f k a0 a1 = some r) :
  Calls Tryd.prog 7 #[.string a0,.string a1] w fun e w' => e = .returned (.bool r) ∧ Below w.heap.size w w' := by
 have HB := Aside0.mk (Below.refl w.heap.size w); have H : (if (a0.size : Int) > 1048576 then (some true) else (if (a1.size : Int) > 1048576 then (some true) else ((spec_StuckFor.f k a0 a1).bind fun bt101 => ((impl_StuckFor.f k a0 a1).bind fun bt103 => (if bt103.1.toList = bt101.1.toList then (if (bt103.2 != bt101.2) = true then (some false) else (some true)) else (some false)))))) = some r := h; clear h
 by_cases c3 : (a0.size : Int) > 1048576
 ·
  rw [if_pos c3] at H; have c3b0 : decide (1048576 < (a0.size : Int)) = true := decide_eq_true c3; have c3b1 : decide (1048576 < a0.size) = true := decide_eq_true (by omega); clear c3; obtain rfl := Option.some.inj H
  go_enter Tryd.func7,Tryd.ntmps7
  go_wp2
  go_ret
  exact ⟨by first | rfl | (simp [errW_none,errW_some] <;> rfl) | (simp [*,errW_none,errW_some] <;> rfl),by repeat (first | (with_reducible first | exact HB.out | apply below_alloc | apply pw_below_drewN | apply below_drew1) | exact HB.out)⟩
 ·
  rw [if_neg c3] at H; have c3b0 : decide (1048576 < (a0.size : Int)) = false := decide_eq_false c3; have c3b1 : decide (1048576 < a0.size) = false := decide_eq_false (by omega); clear c3
  by_cases c4 : (a1.size : Int) > 1048576
  ·
   rw [if_pos c4] at H; have c4b0 : decide (1048576 < (a1.size : Int)) = true := decide_eq_true c4; have c4b1 : decide (1048576 < a1.size) = true := decide_eq_true (by omega); clear c4; obtain rfl := Option.some.inj H
   go_enter Tryd.func7,Tryd.ntmps7
   go_wp2
   go_ret
   exact ⟨by first | rfl | (simp [errW_none,errW_some] <;> rfl) | (simp [*,errW_none,errW_some] <;> rfl),by repeat (first | (with_reducible first | exact HB.out | apply below_alloc | apply pw_below_drewN | apply below_drew1) | exact HB.out)⟩
  ·
   rw [if_neg c4] at H; have c4b0 : decide (1048576 < (a1.size : Int)) = false := decide_eq_false c4; have c4b1 : decide (1048576 < a1.size) = false := decide_eq_false (by omega); clear c4; replace H := Option.bind_eq_some_iff.mp H; obtain ⟨⟨t101,t102⟩,A50,H⟩ := H; replace H : ((impl_StuckFor.f k a0 a1).bind fun bt103 => (if bt103.1.toList = t101.toList then (if (bt103.2 != t102) = true then (some false) else (some true)) else (some false))) = some r := H; have A5 := Aside0.mk A50; clear A50; replace H := Option.bind_eq_some_iff.mp H; obtain ⟨⟨t103,t104⟩,A60,H⟩ := H; replace H : (if t103.toList = t101.toList then (if (t104 != t102) = true then (some false) else (some true)) else (some false)) = some r := H; have A6 := Aside0.mk A60; clear A60
   by_cases c7 : t103.toList = t101.toList
   ·
    rw [if_pos c7] at H; have c7b0 : (t103.toList == t101.toList) = true := beq_iff_eq.mpr c7; have c7b1 : (t103.toList != t101.toList) = false := bne_eq_false_iff_eq.mpr c7; clear c7
    by_cases c8 : (t104 != t102) = true
    ·
     rw [if_pos c8] at H; have c8b0 : (t104 != t102) = true := c8
     (try (have c8b1 : decide (t104 = t102) = false := by simpa using c8))
     (try (have c8b2 : (t104 == t102) = false := by simpa using c8))
     (try (have c8b3 : ¬ (t104 = t102) := by simpa using c8))
     clear c8; obtain rfl := Option.some.inj H
     go_enter Tryd.func7,Tryd.ntmps7
     go_wp2_with (first | ((with_reducible refine gate_callee (f := 18) rfl ?_); refine goesL_ (some 18) rfl rfl Tryd.func18 (by kernel_rfl) rfl #[.string a0,.string a1] rfl (by (try simp only [List.map_toArray,List.map_cons,List.map_nil]); first | done | rfl | (simp only [List.length_drop,List.length_take]; rfl)) ?_; (with_reducible refine (spec_StuckFor.calls k a0 a1 t101 t102 _ A5.out).mono ?_); rintro e w' ⟨rfl,⟨nd,rfl⟩⟩; refine ⟨_,rfl,?_⟩) | ((with_reducible refine gate_callee (f := 19) rfl ?_); refine goesL_ (some 24) rfl rfl Tryd.func19 (by kernel_rfl) rfl #[.string a0,.string a1] rfl (by (try simp only [List.map_toArray,List.map_cons,List.map_nil]); first | done | rfl | (simp only [List.length_drop,List.length_take]; rfl)) ?_; (with_reducible refine (impl_StuckFor.calls k a0 a1 t103 t104 _ A6.out).mono ?_); rintro e w9 ⟨rfl,hb⟩; refine ⟨_,rfl,?_⟩; have n0_ := Aside0.mk (below_step (by repeat (first | (with_reducible first | exact HB.out | apply below_alloc | apply pw_below_drewN | apply below_drew1) | exact HB.out)) hb); clear HB; have HB := n0_; clear n0_; (try clear hb); (try clear hb2); (try clear hk); (try clear hi)))
     go_ret
     exact ⟨by first | rfl | (simp [errW_none,errW_some] <;> rfl) | (simp [*,errW_none,errW_some] <;> rfl),by repeat (first | (with_reducible first | exact HB.out | apply below_alloc | apply pw_below_drewN | apply below_drew1) | exact HB.out)⟩
    ·
     rw [if_neg c8] at H; have c8b0 : (t104 != t102) = false := by simpa using c8
     (try (have c8b1 : decide (t104 = t102) = true := by simpa using c8))
     (try (have c8b2 : (t104 == t102) = true := by simpa using c8))
     clear c8; obtain rfl := Option.some.inj H
     go_enter Tryd.func7,Tryd.ntmps7
     go_wp2_with (first | ((with_reducible refine gate_callee (f := 18) rfl ?_); refine goesL_ (some 18) rfl rfl Tryd.func18 (by kernel_rfl) rfl #[.string a0,.string a1] rfl (by (try simp only [List.map_toArray,List.map_cons,List.map_nil]); first | done | rfl | (simp only [List.length_drop,List.length_take]; rfl)) ?_; (with_reducible refine (spec_StuckFor.calls k a0 a1 t101 t102 _ A5.out).mono ?_); rintro e w' ⟨rfl,⟨nd,rfl⟩⟩; refine ⟨_,rfl,?_⟩) | ((with_reducible refine gate_callee (f := 19) rfl ?_); refine goesL_ (some 24) rfl rfl Tryd.func19 (by kernel_rfl) rfl #[.string a0,.string a1] rfl (by (try simp only [List.map_toArray,List.map_cons,List.map_nil]); first | done | rfl | (simp only [List.length_drop,List.length_take]; rfl)) ?_; (with_reducible refine (impl_StuckFor.calls k a0 a1 t103 t104 _ A6.out).mono ?_); rintro e w10 ⟨rfl,hb⟩; refine ⟨_,rfl,?_⟩; have n0_ := Aside0.mk (below_step (by repeat (first | (with_reducible first | exact HB.out | apply below_alloc | apply pw_below_drewN | apply below_drew1) | exact HB.out)) hb); clear HB; have HB := n0_; clear n0_; (try clear hb); (try clear hb2); (try clear hk); (try clear hi)))
     go_ret
     exact ⟨by first | rfl | (simp [errW_none,errW_some] <;> rfl) | (simp [*,errW_none,errW_some] <;> rfl),by repeat (first | (with_reducible first | exact HB.out | apply below_alloc | apply pw_below_drewN | apply below_drew1) | exact HB.out)⟩
   ·
    rw [if_neg c7] at H; have c7b0 : (t103.toList == t101.toList) = false := beq_eq_false_iff_ne.mpr c7; have c7b1 : (t103.toList != t101.toList) = true := bne_iff_ne.mpr c7; obtain rfl := Option.some.inj H
    go_enter Tryd.func7,Tryd.ntmps7
    go_wp2_with (first | ((with_reducible refine gate_callee (f := 18) rfl ?_); refine goesL_ (some 18) rfl rfl Tryd.func18 (by kernel_rfl) rfl #[.string a0,.string a1] rfl (by (try simp only [List.map_toArray,List.map_cons,List.map_nil]); first | done | rfl | (simp only [List.length_drop,List.length_take]; rfl)) ?_; (with_reducible refine (spec_StuckFor.calls k a0 a1 t101 t102 _ A5.out).mono ?_); rintro e w' ⟨rfl,⟨nd,rfl⟩⟩; refine ⟨_,rfl,?_⟩) | ((with_reducible refine gate_callee (f := 19) rfl ?_); refine goesL_ (some 24) rfl rfl Tryd.func19 (by kernel_rfl) rfl #[.string a0,.string a1] rfl (by (try simp only [List.map_toArray,List.map_cons,List.map_nil]); first | done | rfl | (simp only [List.length_drop,List.length_take]; rfl)) ?_; (with_reducible refine (impl_StuckFor.calls k a0 a1 t103 t104 _ A6.out).mono ?_); rintro e w11 ⟨rfl,hb⟩; refine ⟨_,rfl,?_⟩; have n0_ := Aside0.mk (below_step (by repeat (first | (with_reducible first | exact HB.out | apply below_alloc | apply pw_below_drewN | apply below_drew1) | exact HB.out)) hb); clear HB; have HB := n0_; clear n0_; (try clear hb); (try clear hb2); (try clear hk); (try clear hi)))
    go_ret
    exact ⟨by first | rfl | (simp [errW_none,errW_some] <;> rfl) | (simp [*,errW_none,errW_some] <;> rfl),by repeat (first | (with_reducible first | exact HB.out | apply below_alloc | apply pw_below_drewN | apply below_drew1) | exact HB.out)⟩

end Go.Proofs.YtcidlaabbkimdaaDoor.P

namespace Go.Proofs.YtcidlaabbkimdaaDoor
open Go.RowKit Go.Proofs.YtcidlaabbkimdaaDoor.P Go.Proofs.YtcidlaabbkimdaaDoorW.PrintWords Go.Proofs.YtcidlaabbkimdaaDoorW.PrintLast
/-- The pure statement of FnExactStuckFor. -/
def PureFnExactStuckFor : Prop := ∀ (a0 : ByteArray) (a1 : ByteArray), a0.size ≤ 9223372036854775807 → a1.size ≤ 9223372036854775807 →  ∃ k, laws_FnExactStuckFor.f k a0 a1 = some true
end Go.Proofs.YtcidlaabbkimdaaDoor

namespace Go.Proofs.YtcidlaabbkimdaaDoor
open Go.RowKit Go.Proofs.YtcidlaabbkimdaaDoorW.PrintWords
/-! Plain words for the pure statements: answers that stand from some number of rounds on. -/
theorem Ev.succ {α : Type} {g : Nat → Option α} {r : α} (h : Ev (fun k => g (k + 1)) r) : Ev g r := Ev.step (fun _ => rfl) h
theorem Ev.const {α : Type} {a : Option α} {r : α} (h : a = some r) : Ev (fun _ => a) r := ⟨0, fun _ _ => h⟩
theorem Ev.pos {α : Type} {c : Prop} [Decidable c] {g f : Nat → Option α} {r : α} (hc : c) (h : Ev g r) : Ev (fun k => if c then g k else f k) r := by simp only [if_pos hc]; exact h
theorem Ev.neg {α : Type} {c : Prop} [Decidable c] {g f : Nat → Option α} {r : α} (hc : ¬ c) (h : Ev f r) : Ev (fun k => if c then g k else f k) r := by simp only [if_neg hc]; exact h
theorem Ev.yes {α : Type} {c : Prop} [Decidable c] {g f : Nat → Option α} {r : α} (h : Ev g r) (hc : c := by first | omega | rfl | trivial | decide | simp | (simp; omega)) : Ev (fun k => if c then g k else f k) r := Ev.pos hc h
theorem Ev.no {α : Type} {c : Prop} [Decidable c] {g f : Nat → Option α} {r : α} (h : Ev f r) (hc : ¬ c := by first | omega | decide | simp | (simp; omega)) : Ev (fun k => if c then g k else f k) r := Ev.neg hc h
theorem Ev.bindc {α β : Type} {a : Option α} {x : α} {f : Nat → α → Option β} {r : β} (h : a = some x) (k : Ev (fun n => f n x) r) : Ev (fun n => a.bind (f n)) r := by subst h; exact k
theorem wrap_id {n : Int} (h1 : -9223372036854775808 ≤ n) (h2 : n ≤ 9223372036854775807) : wrap64 n = n := IntWalk.wrap64_in n ⟨h1, h2⟩
theorem wf_i64 {n : Int} (h : (Lit.int .i64 n).wf = true) : -9223372036854775808 ≤ n ∧ n ≤ 9223372036854775807 := by
  have e1 : IntKind.i64.min = -9223372036854775808 := rfl
  have e2 : IntKind.i64.max = 9223372036854775807 := rfl
  simp only [Lit.wf, e1, e2, Bool.and_eq_true, decide_eq_true_eq] at h
  exact h
theorem rd_nat (l : List Int) (j : Nat) (h : j < l.length) : rd l (j : Int) = l[j] := by unfold rd; simp [List.getD, h]
end Go.Proofs.YtcidlaabbkimdaaDoor

namespace Go.Proofs.YtcidlaabbkimdaaDoor
open Go.RowKit Go.Proofs.YtcidlaabbkimdaaDoorW.PrintWords
set_option linter.unusedSimpArgs false
set_option linter.unusedVariables false
/-! Strings as lists of bytes. -/
/-- A string's bytes. -/
def bl (s : ByteArray) : List UInt8 := s.data.toList
theorem bl_len (s : ByteArray) : s.size = (bl s).length := rfl
theorem bl_inj {s t : ByteArray} (h : bl s = bl t) : s = t := ByteArray.ext (Array.toList_inj.1 h)
theorem bl_toList (s : ByteArray) : s.toList = bl s := Go.ByteArray.toList_eq s
theorem bl_mk (a : Array UInt8) : bl ⟨a⟩ = a.toList := rfl
theorem mk_bl (s : ByteArray) : (⟨(bl s).toArray⟩ : ByteArray) = s := bl_inj (by simp [bl])
theorem bl_extract (s : ByteArray) (i j : Nat) : bl (s.extract i j) = ((bl s).drop i).take (j - i) := by simp [bl, ByteArray.data_extract]
theorem bl_append (s t : ByteArray) : bl (s ++ t) = bl s ++ bl t := by simp [bl, ByteArray.data_append]
theorem bl_nums (l : List Int) : bl (strOfNums l) = l.map fun n => UInt8.ofNat n.toNat := rfl
theorem bl_empty : bl (⟨#[]⟩ : ByteArray) = [] := rfl
theorem bt_nat (s : ByteArray) (i : Nat) (h : i < (bl s).length) : bt s (i : Int) = ((bl s)[i].toNat : Int) := by
  unfold bt
  have h' : ((i : Int)).toNat < s.size := by rw [Int.toNat_natCast]; exact h
  rw [dif_pos h']; rfl
theorem of_toNat (c : UInt8) : UInt8.ofNat ((c.toNat : Int)).toNat = c := by rw [Int.toNat_natCast]; simp
theorem bt_of (s : ByteArray) (i : Nat) (h : i < (bl s).length) : UInt8.ofNat (bt s (i : Int)).toNat = (bl s)[i] := by rw [bt_nat s i h]; exact of_toNat _
theorem byte_eq (c d : UInt8) : ((c.toNat : Int) = (d.toNat : Int)) ↔ c = d := by
  constructor
  · intro h; exact UInt8.toNat_inj.1 (by exact_mod_cast h)
  · intro h; rw [h]
theorem byte_lt (c d : UInt8) : ((c.toNat : Int) < (d.toNat : Int)) ↔ c < d := by rw [UInt8.lt_iff_toNat_lt]; omega
theorem byte_le (c d : UInt8) : ((c.toNat : Int) ≤ (d.toNat : Int)) ↔ c ≤ d := by rw [UInt8.le_iff_toNat_le]; omega
theorem dropWhile_nil {α : Type} (p : α → Bool) : ∀ l : List α, l.dropWhile p = [] ↔ l.all p = true
  | [] => by simp
  | x :: xs => by
    by_cases h : p x = true
    · simp [List.dropWhile_cons, h, dropWhile_nil p xs]
    · simp [List.dropWhile_cons, h]
theorem dropWhile_keeps {α : Type} (p : α → Bool) : ∀ l : List α, (l.dropWhile p).all p = l.all p
  | [] => rfl
  | x :: xs => by
    by_cases h : p x = true
    · simp only [List.dropWhile_cons, h, if_true, List.all_cons, Bool.true_and]; exact dropWhile_keeps p xs
    · simp [List.dropWhile_cons, h]
theorem trimS_nil (l cs : List UInt8) : Lib.trimS l cs = [] ↔ l.all (cs.contains ·) = true := by
  unfold Lib.trimS Lib.trimLeftS Lib.trimRightS
  rw [dropWhile_nil, List.all_reverse, dropWhile_keeps, List.all_reverse]
theorem indexByte_neg (l : List UInt8) (c : UInt8) : Lib.indexByte l c < 0 ↔ ¬ c ∈ l := by
  induction l with
  | nil => simp [Lib.indexByte]
  | cons b l ih =>
    have hge := Lib.indexByte_ge l c
    unfold Lib.indexByte
    by_cases h : b = c
    · subst h; simp
    · have h1 : (b == c) = false := by simpa using h
      rw [h1]
      have h2 : ¬ c = b := fun e => h e.symm
      simp only [Bool.false_eq_true, if_false, List.mem_cons, h2, false_or]
      by_cases e : Lib.indexByte l c = -1
      · simp only [e, beq_self_eq_true, if_true]
        have := ih.1 (by omega)
        simp [this]
      · have e' : (Lib.indexByte l c == -1) = false := by simpa using e
        rw [e']
        simp only [Bool.false_eq_true, if_false]
        have hp : ¬ Lib.indexByte l c < 0 := by omega
        have := mt ih.2 hp
        constructor
        · intro h3; omega
        · intro h3; exact absurd h3 this
/-- The letters. -/
def isLow (c : UInt8) : Bool := decide (97 ≤ c.toNat) && decide (c.toNat ≤ 122)
theorem u8_all (P : UInt8 → Prop) [DecidablePred P] (h : ∀ n, n < 256 → P (UInt8.ofNat n)) (c : UInt8) : P c := by
  have := h c.toNat c.toNat_lt
  rwa [show UInt8.ofNat c.toNat = c from by simp] at this
theorem low_contains (c : UInt8) : ([97, 98, 99, 100, 101, 102, 103, 104, 105, 106, 107, 108, 109, 110, 111, 112, 113, 114, 115, 116, 117, 118, 119, 120, 121, 122] : List UInt8).contains c = isLow c := by
  refine u8_all (fun c => _ = isLow c) ?_ c
  decide +kernel
theorem dig_contains (c : UInt8) : ([48, 49, 50, 51, 52, 53, 54, 55, 56, 57] : List UInt8).contains c = (decide (48 ≤ c.toNat) && decide (c.toNat ≤ 57)) := by
  refine u8_all (fun c => _ = (decide (48 ≤ c.toNat) && decide (c.toNat ≤ 57))) ?_ c
  decide +kernel
end Go.Proofs.YtcidlaabbkimdaaDoor

namespace Go.Proofs.YtcidlaabbkimdaaDoor
open Go.RowKit Go.Proofs.YtcidlaabbkimdaaDoor.P Go.Proofs.YtcidlaabbkimdaaDoorW.PrintWords
open Go.Sort (swp ltInt insInner insOuter insertionSort siftDown heapBuild heapPop heapSort reverseLoop reverseRange)
set_option linter.unusedSimpArgs false
set_option linter.unusedVariables false
/-! The byte sort's functions compute the library's plain ones (Derived.Sort.Defs), over the row as an array. -/
theorem rdA (d : Array Int) (i : Nat) : rd d.toList (i : Int) = d[i]! := by
  unfold rd
  rw [Int.toNat_natCast, List.getD_eq_getElem?_getD, Array.getElem?_toList, getElem!_def]
  cases d[i]? <;> rfl
theorem swpA (d : Array Int) (i j : Nat) : ((d.toList.set i (rd d.toList (j : Int))).set j (rd d.toList (i : Int))) = (swp d i j).toList := by
  rw [rdA, rdA]
  unfold swp
  simp
theorem lenA (d : Array Int) : d.toList.length = d.size := by simp
theorem lessA (x y : Int) : cmp_Less_byte.f x y = some (ltInt x y) := by
  unfold cmp_Less_byte.f cmp_isNaN_byte.f ltInt
  simp
theorem sizeA (d : Array Int) (i j : Nat) : (swp d i j).size = d.size := Sort.size_swp d i j
/-! ### the insertion sort -/
theorem insInner_size (a : Nat) : ∀ (j : Nat) (d : Array Int), (insInner ltInt a j d).size = d.size
  | 0, d => rfl
  | j + 1, d => by
    unfold insInner
    split
    · rw [insInner_size a j, sizeA]
    · rfl
theorem insA_l1 (a b i : Nat) (R : List Int) (hi : i ≤ 1000000) : ∀ (j : Nat) (d : Array Int), j < d.size → d.size ≤ 1000000 → Ev (fun k => slices_insertionSortOrdered_byte.l0 k (insInner ltInt a j d).toList (a : Int) (b : Int) ((i + 1 : Nat) : Int)) R → Ev (fun k => slices_insertionSortOrdered_byte.l1 k d.toList (a : Int) (b : Int) (i : Int) (j : Int)) R
  | 0, d, hj, hd, h => by
    have ei : wrap64 ((i : Int) + 1) = ((i + 1 : Nat) : Int) := by rw [wrap_id (by omega) (by omega)]; omega
    apply Ev.succ; simp only [slices_insertionSortOrdered_byte.l1, ei]
    exact Ev.neg (by omega) h
  | j + 1, d, hj, hd, h => by
    have ei : wrap64 ((i : Int) + 1) = ((i + 1 : Nat) : Int) := by rw [wrap_id (by omega) (by omega)]; omega
    have ej : wrap64 (((j + 1 : Nat) : Int) - 1) = (j : Int) := by rw [wrap_id (by omega) (by omega)]; omega
    unfold insInner at h
    apply Ev.succ; simp only [slices_insertionSortOrdered_byte.l1, ei, ej, lessA, Int.toNat_natCast, swpA, lenA]
    by_cases c1 : j + 1 > a
    · refine Ev.pos (by omega) (Ev.pos (by omega) (Ev.pos (by omega) (Ev.pos (by omega) (Ev.pos (by omega) (Ev.bindc rfl ?_)))))
      rw [rdA, rdA]
      by_cases c2 : ltInt d[j + 1]! d[j]! = true
      · rw [c2] at h ⊢
        rw [decide_eq_true c1, Bool.true_and, if_pos rfl] at h
        exact Ev.pos rfl (insA_l1 a b i R hi j (swp d (j + 1) j) (by rw [sizeA]; omega) (by rw [sizeA]; exact hd) h)
      · rw [Bool.not_eq_true] at c2
        rw [c2] at h ⊢
        rw [Bool.and_false, if_neg (by decide)] at h
        exact Ev.neg (by decide) h
    · rw [decide_eq_false c1, Bool.false_and, if_neg (by decide)] at h
      exact Ev.neg (by omega) h
theorem insA_l0 (a b : Nat) : ∀ (n i : Nat) (d : Array Int), b - i ≤ n → b ≤ d.size → d.size ≤ 1000000 → i ≤ 1000000 → Ev (fun k => slices_insertionSortOrdered_byte.l0 k d.toList (a : Int) (b : Int) (i : Int)) (insOuter ltInt a b i d).toList
  | 0, i, d, hn, hb, hd, hi => by
    unfold insOuter
    rw [if_neg (by omega)]
    apply Ev.succ; simp only [slices_insertionSortOrdered_byte.l0]
    exact Ev.neg (by omega) (Ev.now _)
  | n + 1, i, d, hn, hb, hd, hi => by
    unfold insOuter
    apply Ev.succ; simp only [slices_insertionSortOrdered_byte.l0]
    by_cases c : i < b
    · rw [if_pos c]
      exact Ev.pos (by omega) (insA_l1 a b i _ hi i d (by omega) hd (insA_l0 a b n (i + 1) _ (by omega) (by rw [insInner_size]; exact hb) (by rw [insInner_size]; exact hd) (by omega)))
    · rw [if_neg c]
      exact Ev.neg (by omega) (Ev.now _)
theorem insA_ev (d : Array Int) (a b : Nat) (hb : b ≤ d.size) (ha : a ≤ b) (hd : d.size ≤ 100000) : Ev (fun k => slices_insertionSortOrdered_byte.f k d.toList (a : Int) (b : Int)) (insertionSort ltInt d a b).toList := by
  unfold slices_insertionSortOrdered_byte.f insertionSort
  rw [show wrap64 ((a : Int) + 1) = ((a + 1 : Nat) : Int) by rw [wrap_id (by omega) (by omega)]; omega]
  exact insA_l0 a b b (a + 1) d (by omega) hb (by omega) (by omega)
/-! ### the row turned round -/
theorem revA_l0 : ∀ (n i j : Nat) (d : Array Int), j - i ≤ n → j < d.size → d.size ≤ 1000000 → Ev (fun k => slices_reverseRangeOrdered_byte.l0 k d.toList (i : Int) (j : Int)) (reverseLoop i j d).toList
  | 0, i, j, d, hn, hj, hd => by
    unfold reverseLoop
    rw [if_neg (by omega)]
    apply Ev.succ; simp only [slices_reverseRangeOrdered_byte.l0]
    exact Ev.neg (by omega) (Ev.now _)
  | n + 1, i, j, d, hn, hj, hd => by
    unfold reverseLoop
    apply Ev.succ; simp only [slices_reverseRangeOrdered_byte.l0, Int.toNat_natCast, swpA, lenA]
    by_cases c : i < j
    · rw [if_pos c]
      rw [show wrap64 ((i : Int) + 1) = ((i + 1 : Nat) : Int) by rw [wrap_id (by omega) (by omega)]; omega, show wrap64 ((j : Int) - 1) = ((j - 1 : Nat) : Int) by rw [wrap_id (by omega) (by omega)]; omega]
      exact Ev.pos (by omega) (Ev.pos (by omega) (Ev.pos (by omega) (Ev.pos (by omega) (Ev.pos (by omega) (revA_l0 n (i + 1) (j - 1) (swp d i j) (by omega) (by rw [sizeA]; omega) (by rw [sizeA]; exact hd))))))
    · rw [if_neg c]
      exact Ev.neg (by omega) (Ev.now _)
theorem revA_ev (d : Array Int) (a b : Nat) (hb : b ≤ d.size) (ha : a < b) (hd : d.size ≤ 100000) : Ev (fun k => slices_reverseRangeOrdered_byte.f k d.toList (a : Int) (b : Int)) (reverseRange d a b).toList := by
  unfold slices_reverseRangeOrdered_byte.f reverseRange
  rw [show wrap64 ((b : Int) - 1) = ((b - 1 : Nat) : Int) by rw [wrap_id (by omega) (by omega)]; omega]
  exact revA_l0 b a (b - 1) d (by omega) (by omega) (by omega)
end Go.Proofs.YtcidlaabbkimdaaDoor

namespace Go.Proofs.YtcidlaabbkimdaaDoor
open Go.RowKit Go.Proofs.YtcidlaabbkimdaaDoor.P Go.Proofs.YtcidlaabbkimdaaDoorW.PrintWords
open Go.Sort (swp ltInt siftDown heapBuild heapPop heapSort)
set_option linter.unusedSimpArgs false
set_option linter.unusedVariables false
/-! ### the heap sort -/
theorem wN (x : Int) (n : Nat) (h : x = (n : Int)) (hn : n ≤ 10000000) : wrap64 x = (n : Int) := by rw [wrap_id (by omega) (by omega), h]
theorem sift_size (hi first : Nat) : ∀ (n root : Nat) (d : Array Int), hi - root ≤ n → (siftDown ltInt hi first root d).size = d.size
  | 0, root, d, hn => by unfold siftDown; rw [dif_pos (by omega)]
  | n + 1, root, d, hn => by
    unfold siftDown
    by_cases c : 2 * root + 1 ≥ hi
    · rw [dif_pos c]
    · rw [dif_neg c]
      split
      · split
        · rfl
        · split
          · rw [sift_size hi first n _ _ (by omega), sizeA]
          · rfl
      · split
        · rfl
        · rw [sift_size hi first n _ _ (by omega), sizeA]
theorem sift_stop (hi first root : Nat) (d : Array Int) (c : 2 * root + 1 ≥ hi) : siftDown ltInt hi first root d = d := by
  conv => lhs; unfold siftDown
  rw [dif_pos c]
theorem sift_l (hi first root : Nat) (d : Array Int) (c : ¬ 2 * root + 1 ≥ hi) (q : (decide (2 * root + 1 + 1 < hi) && ltInt d[first + (2 * root + 1)]! d[first + (2 * root + 1) + 1]!) = false) :
    siftDown ltInt hi first root d = if (!ltInt d[first + root]! d[first + (2 * root + 1)]!) = true then d else siftDown ltInt hi first (2 * root + 1) (swp d (first + root) (first + (2 * root + 1))) := by
  conv => lhs; unfold siftDown
  rw [dif_neg c, q, if_neg (by decide)]
theorem sift_r (hi first root : Nat) (d : Array Int) (c : ¬ 2 * root + 1 ≥ hi) (q : (decide (2 * root + 1 + 1 < hi) && ltInt d[first + (2 * root + 1)]! d[first + (2 * root + 1) + 1]!) = true) (h2 : 2 * root + 2 < hi) :
    siftDown ltInt hi first root d = if (!ltInt d[first + root]! d[first + (2 * root + 2)]!) = true then d else siftDown ltInt hi first (2 * root + 2) (swp d (first + root) (first + (2 * root + 2))) := by
  conv => lhs; unfold siftDown
  rw [dif_neg c, q, if_pos rfl, dif_pos h2]
/-- The sums that a round reckons. -/
theorem siftE (first root : Nat) (hf : first ≤ 100000) (hr : root ≤ 100000) : wrap64 (2 * (root : Int)) = ((2 * root : Nat) : Int) ∧ wrap64 (((2 * root : Nat) : Int) + 1) = ((2 * root + 1 : Nat) : Int) ∧ wrap64 (((2 * root + 1 : Nat) : Int) + 1) = ((2 * root + 2 : Nat) : Int) ∧
    wrap64 ((first : Int) + ((2 * root + 1 : Nat) : Int)) = ((first + (2 * root + 1) : Nat) : Int) ∧ wrap64 (((first + (2 * root + 1) : Nat) : Int) + 1) = ((first + (2 * root + 1) + 1 : Nat) : Int) ∧ wrap64 ((first : Int) + (root : Int)) = ((first + root : Nat) : Int) ∧ wrap64 ((first : Int) + ((2 * root + 2 : Nat) : Int)) = ((first + (2 * root + 2) : Nat) : Int) :=
  ⟨wN _ _ (by push_cast; rfl) (by omega), wN _ _ (by push_cast; rfl) (by omega), wN _ _ (by push_cast; rfl) (by omega), wN _ _ (by push_cast; rfl) (by omega), wN _ _ (by push_cast; rfl) (by omega), wN _ _ (by push_cast; rfl) (by omega), wN _ _ (by push_cast; rfl) (by omega)⟩
theorem siftA_l0 (hi first : Nat) (hh : hi ≤ 100000) (hf : first ≤ 100000) : ∀ (n root : Nat) (d : Array Int), hi - root ≤ n → root ≤ 100000 → first + hi ≤ d.size → d.size ≤ 100000 → ∀ S, siftDown ltInt hi first root d = S → Ev (fun k => slices_siftDownOrdered_byte.l0 k d.toList (hi : Int) (first : Int) (root : Int)) S.toList
  | 0, root, d, hn, hr, hs, hd, S, hS => by
    rw [sift_stop _ _ _ _ (by omega)] at hS
    subst hS
    apply Ev.succ; obtain ⟨e1, e2, -⟩ := siftE first root hf hr; simp only [slices_siftDownOrdered_byte.l0, e1, e2]; clear e1 e2
    exact Ev.pos (by omega) (Ev.now _)
  | n + 1, root, d, hn, hr, hs, hd, S, hS => by
    by_cases c : 2 * root + 1 ≥ hi
    · rw [sift_stop _ _ _ _ c] at hS
      subst hS
      apply Ev.succ; obtain ⟨e1, e2, -⟩ := siftE first root hf hr; simp only [slices_siftDownOrdered_byte.l0, e1, e2]; clear e1 e2
      exact Ev.pos (by omega) (Ev.now _)
    · have jF : S = (if (!ltInt d[first + root]! d[first + (2 * root + 1)]!) = true then d else siftDown ltInt hi first (2 * root + 1) (swp d (first + root) (first + (2 * root + 1)))) → Ev (fun k => slices_siftDownOrdered_byte.j1 k d.toList (hi : Int) (first : Int) (root : Int) ((2 * root + 1 : Nat) : Int) false) S.toList := by
        intro hR
        apply Ev.succ; obtain ⟨e1, e2, e3, e4, e5, e6, e7⟩ := siftE first root hf hr; simp only [slices_siftDownOrdered_byte.j1, e3, e4, e6, e7, lessA, Int.toNat_natCast, swpA, lenA]; clear e1 e2 e3 e4 e5 e6 e7 hS
        refine Ev.no (Ev.pos (by omega) (Ev.pos (by omega) (Ev.pos (by omega) (Ev.pos (by omega) (Ev.bindc rfl ?_)))))
        rw [rdA, rdA]
        cases q : ltInt d[first + root]! d[first + (2 * root + 1)]! with
        | false => rw [q] at hR; simp only [Bool.not_false, if_true] at hR; subst hR; exact Ev.no (Ev.now _)
        | true => rw [q] at hR; simp only [Bool.not_true, Bool.false_eq_true, if_false] at hR; exact Ev.yes (siftA_l0 hi first hh hf n (2 * root + 1) _ (by omega) (by omega) (by rw [sizeA]; exact hs) (by rw [sizeA]; exact hd) S hR.symm)
      have jT : 2 * root + 2 < hi → S = (if (!ltInt d[first + root]! d[first + (2 * root + 2)]!) = true then d else siftDown ltInt hi first (2 * root + 2) (swp d (first + root) (first + (2 * root + 2)))) → Ev (fun k => slices_siftDownOrdered_byte.j1 k d.toList (hi : Int) (first : Int) (root : Int) ((2 * root + 1 : Nat) : Int) true) S.toList := by
        intro h2 hR
        apply Ev.succ; obtain ⟨e1, e2, e3, e4, e5, e6, e7⟩ := siftE first root hf hr; simp only [slices_siftDownOrdered_byte.j1, e3, e4, e6, e7, lessA, Int.toNat_natCast, swpA, lenA]; clear e1 e2 e3 e4 e5 e6 e7 hS
        refine Ev.yes (Ev.pos (by omega) (Ev.pos (by omega) (Ev.pos (by omega) (Ev.pos (by omega) (Ev.bindc rfl ?_)))))
        rw [rdA, rdA]
        cases q : ltInt d[first + root]! d[first + (2 * root + 2)]! with
        | false => rw [q] at hR; simp only [Bool.not_false, if_true] at hR; subst hR; exact Ev.no (Ev.now _)
        | true => rw [q] at hR; simp only [Bool.not_true, Bool.false_eq_true, if_false] at hR; exact Ev.yes (siftA_l0 hi first hh hf n (2 * root + 2) _ (by omega) (by omega) (by rw [sizeA]; exact hs) (by rw [sizeA]; exact hd) S hR.symm)
      apply Ev.succ; obtain ⟨e1, e2, e3, e4, e5, e6, e7⟩ := siftE first root hf hr; simp only [slices_siftDownOrdered_byte.l0, e1, e2, e3, e4, e5, lessA, lenA]; clear e1 e2 e3 e4 e5 e6 e7
      refine Ev.neg (by omega) ?_
      by_cases c2 : 2 * root + 1 + 1 < hi
      · refine Ev.pos (by omega) (Ev.pos (by omega) (Ev.pos (by omega) (Ev.pos (by omega) (Ev.pos (by omega) (Ev.bindc rfl ?_)))))
        rw [rdA, rdA]
        cases q : ltInt d[first + (2 * root + 1)]! d[first + (2 * root + 1) + 1]! with
        | false => rw [sift_l _ _ _ _ c (by rw [q, Bool.and_false])] at hS; exact jF hS.symm
        | true => rw [sift_r _ _ _ _ c (by rw [q, decide_eq_true c2]; rfl) (by omega)] at hS; exact jT (by omega) hS.symm
      · rw [sift_l _ _ _ _ c (by rw [decide_eq_false c2, Bool.false_and])] at hS
        exact Ev.neg (by omega) (jF hS.symm)
theorem siftA_f (d : Array Int) (lo hi first : Nat) (hh : hi ≤ 100000) (hf : first ≤ 100000) (hr : lo ≤ 100000) (hs : first + hi ≤ d.size) (hd : d.size ≤ 100000) : Ev (fun k => slices_siftDownOrdered_byte.f k d.toList (lo : Int) (hi : Int) (first : Int)) (siftDown ltInt hi first lo d).toList := by
  unfold slices_siftDownOrdered_byte.f
  exact siftA_l0 hi first hh hf hi lo d (by omega) hr hs hd _ rfl
theorem build_size (hi first : Nat) : ∀ (m : Nat) (d : Array Int), (heapBuild ltInt hi first m d).size = d.size
  | 0, d => rfl
  | m + 1, d => by unfold heapBuild; rw [build_size hi first m, sift_size hi first hi m d (by omega)]
theorem popA_l1 (lo : Nat) : ∀ (m : Nat) (d : Array Int), lo + m ≤ d.size → d.size ≤ 100000 → Ev (fun k => slices_heapSortOrdered_byte.l1 k d.toList (lo : Int) 0 ((m : Int) - 1)) (heapPop ltInt lo m d).toList
  | 0, d, hs, hd => by
    apply Ev.succ; simp only [slices_heapSortOrdered_byte.l1]
    exact Ev.neg (by omega) (Ev.now _)
  | m + 1, d, hs, hd => by
    have h1 := siftA_f (swp d lo (lo + m)) 0 m lo (by omega) (by omega) (by omega) (by rw [sizeA]; omega) (by rw [sizeA]; exact hd)
    have h2 := popA_l1 lo m (siftDown ltInt m lo 0 (swp d lo (lo + m))) (by rw [sift_size m lo m 0 _ (by omega), sizeA]; omega) (by rw [sift_size m lo m 0 _ (by omega), sizeA]; omega)
    have e1 : (((m + 1 : Nat) : Int) - 1) = (m : Int) := by omega
    have e2 : wrap64 ((lo : Int) + (m : Int)) = ((lo + m : Nat) : Int) := wN _ _ (by push_cast; rfl) (by omega)
    have e3 : wrap64 ((m : Int) - 1) = (m : Int) - 1 := wrap_id (by omega) (by omega)
    apply Ev.succ; simp only [slices_heapSortOrdered_byte.l1, e1, e2, e3, Int.toNat_natCast, swpA, lenA]; clear e1 e2 e3
    refine Ev.pos (by omega) (Ev.pos (by omega) (Ev.pos (by omega) (Ev.pos (by omega) (Ev.pos (by omega) (Ev.bind h1 ?_)))))
    exact h2
theorem buildA_l0 (lo hi : Nat) (R : List Int) (hlo : lo ≤ 100000) (hh : hi ≤ 100000) : ∀ (m : Nat) (d : Array Int), m ≤ hi + 1 → lo + hi ≤ d.size → d.size ≤ 100000 → Ev (fun k => slices_heapSortOrdered_byte.l1 k (heapBuild ltInt hi lo m d).toList (lo : Int) 0 ((hi : Int) - 1)) R → Ev (fun k => slices_heapSortOrdered_byte.l0 k d.toList (lo : Int) 0 (hi : Int) ((m : Int) - 1)) R
  | 0, d, hm, hs, hd, h => by
    have e3 : wrap64 ((hi : Int) - 1) = (hi : Int) - 1 := wrap_id (by omega) (by omega)
    apply Ev.succ; simp only [slices_heapSortOrdered_byte.l0, e3]; clear e3
    exact Ev.neg (by omega) h
  | m + 1, d, hm, hs, hd, h => by
    have h1 := siftA_f d m hi lo hh hlo (by omega) hs hd
    have h2 := buildA_l0 lo hi R hlo hh m (siftDown ltInt hi lo m d) (by omega) (by rw [sift_size hi lo hi m _ (by omega)]; exact hs) (by rw [sift_size hi lo hi m _ (by omega)]; exact hd) h
    have e1 : (((m + 1 : Nat) : Int) - 1) = (m : Int) := by omega
    have e3 : wrap64 ((m : Int) - 1) = (m : Int) - 1 := wrap_id (by omega) (by omega)
    apply Ev.succ; simp only [slices_heapSortOrdered_byte.l0, e1, e3]; clear e1 e3
    exact Ev.pos (by omega) (Ev.bind h1 h2)
theorem heapA_ev (d : Array Int) (a b : Nat) (hb : b ≤ d.size) (ha : a < b) (hd : d.size ≤ 100000) : Ev (fun k => slices_heapSortOrdered_byte.f k d.toList (a : Int) (b : Int)) (heapSort ltInt d a b).toList := by
  unfold slices_heapSortOrdered_byte.f heapSort
  have e1 : wrap64 ((b : Int) - (a : Int)) = ((b - a : Nat) : Int) := wN _ _ (by omega) (by omega)
  have e2 : wrap64 (((b - a : Nat) : Int) - 1) = ((b - a - 1 : Nat) : Int) := wN _ _ (by omega) (by omega)
  have e3 : wrap64 (Int.tdiv ((b - a - 1 : Nat) : Int) 2) = (((b - a - 1) / 2 + 1 : Nat) : Int) - 1 := by
    rw [show (((b - a - 1) / 2 + 1 : Nat) : Int) - 1 = (((b - a - 1) / 2 : Nat) : Int) by omega]
    exact wN _ _ (by rw [Int.tdiv_eq_ediv_of_nonneg (by omega)]; omega) (by omega)
  rw [e1, e2, e3]; clear e1 e2 e3
  exact buildA_l0 a (b - a) _ (by omega) (by omega) _ d (by omega) (by omega) hd (popA_l1 a (b - a) _ (by rw [build_size]; omega) (by rw [build_size]; exact hd))
end Go.Proofs.YtcidlaabbkimdaaDoor

namespace Go.Proofs.YtcidlaabbkimdaaDoor
open Go.RowKit Go.Proofs.YtcidlaabbkimdaaDoor.P Go.Proofs.YtcidlaabbkimdaaDoorW.PrintWords
open Go.Sort (swp ltInt scanUp scanDown partLoop partition partEqLoop partitionEqual scanSorted partialIns partialInsertionSort scanUp_ge scanDown_le scanUp_spec partLoop_eq partEqLoop_eq)
set_option linter.unusedSimpArgs false
set_option linter.unusedVariables false
/-! ### the scans -/
theorem up_go (p : Int → Bool) (d : Array Int) (j i : Nat) (h : i ≤ j) (q : p d[i]! = true) : scanUp p d j i = scanUp p d j (i + 1) := by
  conv => lhs; unfold scanUp
  rw [decide_eq_true h, q]; rfl
theorem up_stop (p : Int → Bool) (d : Array Int) (j i : Nat) (h : i ≤ j → p d[i]! = false) : scanUp p d j i = i := by
  unfold scanUp
  by_cases c : i ≤ j
  · rw [h c, Bool.and_false, if_neg (by decide)]
  · rw [decide_eq_false c, Bool.false_and, if_neg (by decide)]
theorem down_go (p : Int → Bool) (d : Array Int) (i j : Nat) (h : i ≤ j + 1) (q : p d[j + 1]! = true) : scanDown p d i (j + 1) = scanDown p d i j := by
  conv => lhs; unfold scanDown
  rw [decide_eq_true h, q]; rfl
theorem down_stop (p : Int → Bool) (d : Array Int) (i j : Nat) (h : i ≤ j → p d[j]! = false) : scanDown p d i j = j := by
  cases j with
  | zero => rfl
  | succ j =>
    unfold scanDown
    by_cases c : i ≤ j + 1
    · rw [h c, Bool.and_false, if_neg (by decide)]
    · rw [decide_eq_false c, Bool.false_and, if_neg (by decide)]
theorem up_le (p : Int → Bool) (d : Array Int) (j i : Nat) : scanUp p d j i ≤ i ∨ scanUp p d j i ≤ j + 1 := by
  by_cases c : i ≤ j + 1
  · exact Or.inr ((scanUp_spec p d j _ i rfl).2.1 c)
  · exact Or.inl (by rw [up_stop _ _ _ _ (by omega)]; exact Nat.le_refl _)
theorem wS (i : Nat) (h : i ≤ 1000000) : wrap64 ((i : Int) + 1) = ((i + 1 : Nat) : Int) := wN _ _ (by push_cast; rfl) (by omega)
theorem wP (i : Nat) (h : i ≤ 1000000) (h1 : 1 ≤ i) : wrap64 ((i : Int) - 1) = ((i - 1 : Nat) : Int) := wN _ _ (by omega) (by omega)
/-! ### the partition -/
theorem parA_l0 (a j : Nat) (d : Array Int) (R : Int × Bool × List Int) (ha : a < d.size) (hj : j < d.size) (hd : d.size ≤ 100000) : ∀ (n i : Nat), j + 1 - i ≤ n → i ≤ 200000 → ∀ i2, scanUp (fun x => ltInt x d[a]!) d j i = i2 → Ev (fun k => slices_partitionOrdered_byte.l1 k d.toList (a : Int) (i2 : Int) (j : Int)) R → Ev (fun k => slices_partitionOrdered_byte.l0 k d.toList (a : Int) (i : Int) (j : Int)) R
  | 0, i, hn, hi, i2, e, h => by
    rw [up_stop (fun x => ltInt x d[a]!) d j i (by omega)] at e; subst e
    apply Ev.succ; simp only [slices_partitionOrdered_byte.l0]
    refine Ev.neg (by omega) ?_
    apply Ev.succ; simp only [slices_partitionOrdered_byte.j1]; exact h
  | n + 1, i, hn, hi, i2, e, h => by
    apply Ev.succ; simp only [slices_partitionOrdered_byte.l0, lessA, lenA, wS i (by omega)]
    by_cases c : i ≤ j
    · refine Ev.pos (by omega) (Ev.pos (by omega) (Ev.pos (by omega) (Ev.pos (by omega) (Ev.pos (by omega) (Ev.bindc rfl ?_)))))
      rw [rdA, rdA]
      cases q : ltInt d[i]! d[a]! with
      | false =>
        rw [up_stop (fun x => ltInt x d[a]!) d j i (fun _ => q)] at e; subst e
        refine Ev.no ?_
        apply Ev.succ; simp only [slices_partitionOrdered_byte.j1]; exact h
      | true =>
        rw [up_go (fun x => ltInt x d[a]!) d j i c q] at e
        exact Ev.yes (parA_l0 a j d R ha hj hd n (i + 1) (by omega) (by omega) i2 e h)
    · rw [up_stop (fun x => ltInt x d[a]!) d j i (fun x => absurd x c)] at e; subst e
      refine Ev.neg (by omega) ?_
      apply Ev.succ; simp only [slices_partitionOrdered_byte.j1]; exact h
theorem parA_l3 (a j : Nat) (d : Array Int) (R : Int × Bool × List Int) (ha : a < d.size) (hj : j < d.size) (hd : d.size ≤ 100000) : ∀ (n i : Nat), j + 1 - i ≤ n → i ≤ 200000 → ∀ i2, scanUp (fun x => ltInt x d[a]!) d j i = i2 → Ev (fun k => slices_partitionOrdered_byte.l4 k d.toList (a : Int) (i2 : Int) (j : Int)) R → Ev (fun k => slices_partitionOrdered_byte.l3 k d.toList (a : Int) (i : Int) (j : Int)) R
  | 0, i, hn, hi, i2, e, h => by
    rw [up_stop (fun x => ltInt x d[a]!) d j i (by omega)] at e; subst e
    apply Ev.succ; simp only [slices_partitionOrdered_byte.l3]
    refine Ev.neg (by omega) ?_
    apply Ev.succ; simp only [slices_partitionOrdered_byte.j6]; exact h
  | n + 1, i, hn, hi, i2, e, h => by
    apply Ev.succ; simp only [slices_partitionOrdered_byte.l3, lessA, lenA, wS i (by omega)]
    by_cases c : i ≤ j
    · refine Ev.pos (by omega) (Ev.pos (by omega) (Ev.pos (by omega) (Ev.pos (by omega) (Ev.pos (by omega) (Ev.bindc rfl ?_)))))
      rw [rdA, rdA]
      cases q : ltInt d[i]! d[a]! with
      | false =>
        rw [up_stop (fun x => ltInt x d[a]!) d j i (fun _ => q)] at e; subst e
        refine Ev.no ?_
        apply Ev.succ; simp only [slices_partitionOrdered_byte.j6]; exact h
      | true =>
        rw [up_go (fun x => ltInt x d[a]!) d j i c q] at e
        exact Ev.yes (parA_l3 a j d R ha hj hd n (i + 1) (by omega) (by omega) i2 e h)
    · rw [up_stop (fun x => ltInt x d[a]!) d j i (fun x => absurd x c)] at e; subst e
      refine Ev.neg (by omega) ?_
      apply Ev.succ; simp only [slices_partitionOrdered_byte.j6]; exact h
theorem parA_l1 (a i : Nat) (d : Array Int) (R : Int × Bool × List Int) (ha : a < d.size) (hi : 1 ≤ i) (hd : d.size ≤ 100000) : ∀ (j : Nat), j < d.size → ∀ j2, scanDown (fun x => !ltInt x d[a]!) d i j = j2 → Ev (fun k => slices_partitionOrdered_byte.j3 k d.toList (a : Int) (i : Int) (j2 : Int)) R → Ev (fun k => slices_partitionOrdered_byte.l1 k d.toList (a : Int) (i : Int) (j : Int)) R
  | 0, hj, j2, e, h => by
    rw [down_stop _ _ _ _ (by omega)] at e; subst e
    apply Ev.succ; simp only [slices_partitionOrdered_byte.l1]
    exact Ev.neg (by omega) h
  | j + 1, hj, j2, e, h => by
    apply Ev.succ; simp only [slices_partitionOrdered_byte.l1, lessA, lenA, wP (j + 1) (by omega) (by omega), Nat.add_sub_cancel]
    by_cases c : i ≤ j + 1
    · refine Ev.pos (by omega) (Ev.pos (by omega) (Ev.pos (by omega) (Ev.pos (by omega) (Ev.pos (by omega) (Ev.bindc rfl ?_)))))
      rw [rdA, rdA]
      cases q : ltInt d[j + 1]! d[a]! with
      | true =>
        rw [down_stop _ _ _ _ (fun _ => by simp only [q, Bool.not_true])] at e; subst e
        exact Ev.yes h
      | false =>
        rw [down_go _ _ _ _ c (by simp only [q, Bool.not_false])] at e
        exact Ev.no (parA_l1 a i d R ha hi hd j (by omega) j2 e h)
    · rw [down_stop _ _ _ _ (fun x => absurd x c)] at e; subst e
      exact Ev.neg (by omega) h
theorem parA_l4 (a i : Nat) (d : Array Int) (R : Int × Bool × List Int) (ha : a < d.size) (hi : 1 ≤ i) (hi2 : i ≤ 200000) (hd : d.size ≤ 100000) : ∀ (j : Nat), j < d.size → ∀ j2, scanDown (fun x => !ltInt x d[a]!) d i j = j2 → (i > j2 → R = ((j2 : Int), false, (swp d j2 a).toList)) → (i ≤ j2 → Ev (fun k => slices_partitionOrdered_byte.l2 k (swp d i j2).toList (a : Int) ((i + 1 : Nat) : Int) ((j2 - 1 : Nat) : Int)) R) → Ev (fun k => slices_partitionOrdered_byte.l4 k d.toList (a : Int) (i : Int) (j : Int)) R
  | 0, hj, j2, e, h1, h2 => by
    rw [down_stop _ _ _ _ (by omega)] at e; subst e
    rw [h1 (by omega)]
    apply Ev.succ; simp only [slices_partitionOrdered_byte.l4, lenA, Int.toNat_natCast, swpA]
    exact Ev.neg (by omega) (Ev.pos (by omega) (Ev.pos (by omega) (Ev.pos (by omega) (Ev.pos (by omega) (Ev.pos (by omega) (Ev.now _))))))
  | j + 1, hj, j2, e, h1, h2 => by
    apply Ev.succ; simp only [slices_partitionOrdered_byte.l4, lessA, lenA, wS i (by omega), wP (j + 1) (by omega) (by omega), Nat.add_sub_cancel, Int.toNat_natCast, swpA]
    by_cases c : i ≤ j + 1
    · refine Ev.pos (by omega) (Ev.pos (by omega) (Ev.pos (by omega) (Ev.pos (by omega) (Ev.pos (by omega) (Ev.bindc rfl ?_)))))
      rw [rdA, rdA]
      cases q : ltInt d[j + 1]! d[a]! with
      | true =>
        rw [down_stop _ _ _ _ (fun _ => by simp only [q, Bool.not_true])] at e; subst e
        exact Ev.yes (Ev.neg (by omega) (Ev.pos (by omega) (Ev.pos (by omega) (h2 c))))
      | false =>
        rw [down_go _ _ _ _ c (by simp only [q, Bool.not_false])] at e
        exact Ev.no (parA_l4 a i d R ha hi hi2 hd j (by omega) j2 e h1 h2)
    · rw [down_stop _ _ _ _ (fun x => absurd x c)] at e; subst e
      rw [h1 (by omega)]
      exact Ev.neg (by omega) (Ev.pos (by omega) (Ev.pos (by omega) (Ev.pos (by omega) (Ev.pos (by omega) (Ev.pos (by omega) (Ev.now _))))))
theorem parA_l2 (a : Nat) : ∀ (n i j : Nat) (d : Array Int), a < d.size → j + 1 - i ≤ n → a < i → i ≤ 150000 → j < d.size → d.size ≤ 100000 → ∀ r, partLoop ltInt a i j d = r → Ev (fun k => slices_partitionOrdered_byte.l2 k d.toList (a : Int) (i : Int) (j : Int)) ((r.1 : Int), false, (swp r.2 r.1 a).toList) := by
  intro n
  induction n with
  | zero =>
    intro i j d ha hn hi hij hj hd r hr
    have g1 := (scanUp_spec (fun x => ltInt x d[a]!) d j _ i rfl)
    have g2 := scanDown_le (fun x => !ltInt x d[a]!) d (scanUp (fun x => ltInt x d[a]!) d j i) j
    rw [partLoop_eq] at hr
    generalize q1 : scanUp (fun x => ltInt x d[a]!) d j i = i2 at g1 g2 hr
    generalize q2 : scanDown (fun x => !ltInt x d[a]!) d i2 j = j2 at g2 hr
    have g3 := g1.1
    have g4 : i2 ≤ i ∨ i2 ≤ j + 1 := by subst q1; exact up_le _ _ _ _
    clear g1
    rw [if_pos (by omega)] at hr
    subst hr
    apply Ev.succ; simp only [slices_partitionOrdered_byte.l2]
    exact parA_l3 a j d _ (by omega) hj hd _ i (Nat.le_refl _) (by omega) i2 q1 (parA_l4 a i2 d _ (by omega) (by omega) (by omega) hd j hj j2 q2 (fun _ => rfl) (fun h => absurd h (by omega)))
  | succ n ih =>
    intro i j d ha hn hi hij hj hd r hr
    have g1 := (scanUp_spec (fun x => ltInt x d[a]!) d j _ i rfl)
    have g2 := scanDown_le (fun x => !ltInt x d[a]!) d (scanUp (fun x => ltInt x d[a]!) d j i) j
    rw [partLoop_eq] at hr
    generalize q1 : scanUp (fun x => ltInt x d[a]!) d j i = i2 at g1 g2 hr
    generalize q2 : scanDown (fun x => !ltInt x d[a]!) d i2 j = j2 at g2 hr
    have g3 := g1.1
    have g4 : i2 ≤ i ∨ i2 ≤ j + 1 := by subst q1; exact up_le _ _ _ _
    clear g1
    apply Ev.succ; simp only [slices_partitionOrdered_byte.l2]
    refine parA_l3 a j d _ (by omega) hj hd _ i (Nat.le_refl _) (by omega) i2 q1 (parA_l4 a i2 d _ (by omega) (by omega) (by omega) hd j hj j2 q2 (fun h => ?_) (fun h => ?_))
    · rw [if_pos h] at hr; subst hr; rfl
    · rw [if_neg (by omega)] at hr
      exact ih (i2 + 1) (j2 - 1) _ (by rw [sizeA]; exact ha) (by omega) (by omega) (by omega) (by rw [sizeA]; omega) (by rw [sizeA]; exact hd) r hr
theorem part_stop (d : Array Int) (a b p i j : Nat) (hi : scanUp (fun x => ltInt x (swp d a p)[a]!) (swp d a p) (b - 1) (a + 1) = i) (hj : scanDown (fun x => !ltInt x (swp d a p)[a]!) (swp d a p) i (b - 1) = j) (c : i > j) : partition ltInt d a b p = (j, true, swp (swp d a p) j a) := by
  subst hi; subst hj
  unfold partition
  dsimp only
  rw [if_pos c]
theorem part_go (d : Array Int) (a b p i j : Nat) (hi : scanUp (fun x => ltInt x (swp d a p)[a]!) (swp d a p) (b - 1) (a + 1) = i) (hj : scanDown (fun x => !ltInt x (swp d a p)[a]!) (swp d a p) i (b - 1) = j) (c : ¬ i > j) : partition ltInt d a b p = ((partLoop ltInt a (i + 1) (j - 1) (swp (swp d a p) i j)).1, false, swp (partLoop ltInt a (i + 1) (j - 1) (swp (swp d a p) i j)).2 (partLoop ltInt a (i + 1) (j - 1) (swp (swp d a p) i j)).1 a) := by
  subst hi; subst hj
  unfold partition
  dsimp only
  rw [if_neg c]
theorem parA_ev (d : Array Int) (a b p : Nat) (hp : p < b) (hap : a ≤ p) (hab : a + 1 < b) (hb : b ≤ d.size) (hd : d.size ≤ 100000) : Ev (fun k => slices_partitionOrdered_byte.f k d.toList (a : Int) (b : Int) (p : Int)) (((partition ltInt d a b p).1 : Int), (partition ltInt d a b p).2.1, (partition ltInt d a b p).2.2.toList) := by
  simp only [slices_partitionOrdered_byte.f, Int.toNat_natCast, swpA, lenA, wS a (by omega), wP b (by omega) (by omega)]
  refine Ev.pos (by omega) (Ev.pos (by omega) (Ev.pos (by omega) (Ev.pos (by omega) ?_)))
  have g1 := (scanUp_spec (fun x => ltInt x (swp d a p)[a]!) (swp d a p) (b - 1) _ (a + 1) rfl)
  have g2 := scanDown_le (fun x => !ltInt x (swp d a p)[a]!) (swp d a p) (scanUp (fun x => ltInt x (swp d a p)[a]!) (swp d a p) (b - 1) (a + 1)) (b - 1)
  generalize q1 : scanUp (fun x => ltInt x (swp d a p)[a]!) (swp d a p) (b - 1) (a + 1) = i2 at g1 g2
  generalize q2 : scanDown (fun x => !ltInt x (swp d a p)[a]!) (swp d a p) i2 (b - 1) = j2 at g2
  have g3 := g1.1
  have g4 := g1.2.1 (by omega)
  clear g1
  have hz := sizeA d a p
  refine parA_l0 a (b - 1) (swp d a p) _ (by omega) (by omega) (by omega) _ (a + 1) (Nat.le_refl _) (by omega) i2 q1 (parA_l1 a i2 (swp d a p) _ (by omega) (by omega) (by omega) (b - 1) (by omega) j2 q2 ?_)
  by_cases c : i2 > j2
  · rw [part_stop d a b p i2 j2 q1 q2 c]
    apply Ev.succ; simp only [slices_partitionOrdered_byte.j3, lenA, Int.toNat_natCast, swpA]
    exact Ev.pos (by omega) (Ev.pos (by omega) (Ev.pos (by omega) (Ev.pos (by omega) (Ev.pos (by omega) (Ev.now _)))))
  · rw [part_go d a b p i2 j2 q1 q2 c]
    apply Ev.succ; simp only [slices_partitionOrdered_byte.j3, lenA, Int.toNat_natCast, swpA, wS i2 (by omega), wP j2 (by omega) (by omega)]
    refine Ev.neg (by omega) (Ev.pos (by omega) (Ev.pos (by omega) (Ev.pos (by omega) (Ev.pos (by omega) ?_))))
    exact parA_l2 a _ (i2 + 1) (j2 - 1) _ (by rw [sizeA]; omega) (Nat.le_refl _) (by omega) (by omega) (by rw [sizeA]; omega) (by rw [sizeA]; omega) _ rfl
/-! ### the partition of equals -/
theorem peqA_l1 (a j : Nat) (d : Array Int) (R : Int × List Int) (ha : a < d.size) (hj : j < d.size) (hd : d.size ≤ 100000) : ∀ (n i : Nat), j + 1 - i ≤ n → i ≤ 200000 → ∀ i2, scanUp (fun x => !ltInt d[a]! x) d j i = i2 → Ev (fun k => slices_partitionEqualOrdered_byte.l2 k d.toList (a : Int) (i2 : Int) (j : Int)) R → Ev (fun k => slices_partitionEqualOrdered_byte.l1 k d.toList (a : Int) (i : Int) (j : Int)) R
  | 0, i, hn, hi, i2, e, h => by
    rw [up_stop (fun x => !ltInt d[a]! x) d j i (by omega)] at e; subst e
    apply Ev.succ; simp only [slices_partitionEqualOrdered_byte.l1]
    refine Ev.neg (by omega) ?_
    apply Ev.succ; simp only [slices_partitionEqualOrdered_byte.j2]; exact h
  | n + 1, i, hn, hi, i2, e, h => by
    apply Ev.succ; simp only [slices_partitionEqualOrdered_byte.l1, lessA, lenA, wS i (by omega)]
    by_cases c : i ≤ j
    · refine Ev.pos (by omega) (Ev.pos (by omega) (Ev.pos (by omega) (Ev.pos (by omega) (Ev.pos (by omega) (Ev.bindc rfl ?_)))))
      rw [rdA, rdA]
      cases q : ltInt d[a]! d[i]! with
      | true =>
        rw [up_stop (fun x => !ltInt d[a]! x) d j i (fun _ => by simp only [q, Bool.not_true])] at e; subst e
        refine Ev.yes ?_
        apply Ev.succ; simp only [slices_partitionEqualOrdered_byte.j2]; exact h
      | false =>
        rw [up_go (fun x => !ltInt d[a]! x) d j i c (by simp only [q, Bool.not_false])] at e
        exact Ev.no (peqA_l1 a j d R ha hj hd n (i + 1) (by omega) (by omega) i2 e h)
    · rw [up_stop (fun x => !ltInt d[a]! x) d j i (fun x => absurd x c)] at e; subst e
      refine Ev.neg (by omega) ?_
      apply Ev.succ; simp only [slices_partitionEqualOrdered_byte.j2]; exact h
theorem peqA_l2 (a i : Nat) (d : Array Int) (R : Int × List Int) (ha : a < d.size) (hi : 1 ≤ i) (hi2 : i ≤ 200000) (hd : d.size ≤ 100000) : ∀ (j : Nat), j < d.size → ∀ j2, scanDown (fun x => ltInt d[a]! x) d i j = j2 → (i > j2 → R = ((i : Int), d.toList)) → (i ≤ j2 → Ev (fun k => slices_partitionEqualOrdered_byte.l0 k (swp d i j2).toList (a : Int) ((i + 1 : Nat) : Int) ((j2 - 1 : Nat) : Int)) R) → Ev (fun k => slices_partitionEqualOrdered_byte.l2 k d.toList (a : Int) (i : Int) (j : Int)) R
  | 0, hj, j2, e, h1, h2 => by
    rw [down_stop _ _ _ _ (by omega)] at e; subst e
    rw [h1 (by omega)]
    apply Ev.succ; simp only [slices_partitionEqualOrdered_byte.l2, lenA, Int.toNat_natCast, swpA]
    exact Ev.neg (by omega) (Ev.pos (by omega) (Ev.now _))
  | j + 1, hj, j2, e, h1, h2 => by
    apply Ev.succ; simp only [slices_partitionEqualOrdered_byte.l2, lessA, lenA, wS i (by omega), wP (j + 1) (by omega) (by omega), Nat.add_sub_cancel, Int.toNat_natCast, swpA]
    by_cases c : i ≤ j + 1
    · refine Ev.pos (by omega) (Ev.pos (by omega) (Ev.pos (by omega) (Ev.pos (by omega) (Ev.pos (by omega) (Ev.bindc rfl ?_)))))
      rw [rdA, rdA]
      cases q : ltInt d[a]! d[j + 1]! with
      | false =>
        rw [down_stop _ _ _ _ (fun _ => q)] at e; subst e
        exact Ev.no (Ev.neg (by omega) (Ev.pos (by omega) (Ev.pos (by omega) (h2 c))))
      | true =>
        rw [down_go _ _ _ _ c q] at e
        exact Ev.yes (peqA_l2 a i d R ha hi hi2 hd j (by omega) j2 e h1 h2)
    · rw [down_stop _ _ _ _ (fun x => absurd x c)] at e; subst e
      rw [h1 (by omega)]
      exact Ev.neg (by omega) (Ev.pos (by omega) (Ev.now _))
theorem peqA_l0 (a : Nat) : ∀ (n i j : Nat) (d : Array Int), a < d.size → j + 1 - i ≤ n → a < i → i ≤ 150000 → j < d.size → d.size ≤ 100000 → ∀ r, partEqLoop ltInt a i j d = r → Ev (fun k => slices_partitionEqualOrdered_byte.l0 k d.toList (a : Int) (i : Int) (j : Int)) ((r.1 : Int), r.2.toList) := by
  intro n
  induction n with
  | zero =>
    intro i j d ha hn hi hij hj hd r hr
    have g1 := (scanUp_spec (fun x => !ltInt d[a]! x) d j _ i rfl)
    have g2 := scanDown_le (fun x => ltInt d[a]! x) d (scanUp (fun x => !ltInt d[a]! x) d j i) j
    rw [partEqLoop_eq] at hr
    generalize q1 : scanUp (fun x => !ltInt d[a]! x) d j i = i2 at g1 g2 hr
    generalize q2 : scanDown (fun x => ltInt d[a]! x) d i2 j = j2 at g2 hr
    have g3 := g1.1
    have g4 : i2 ≤ i ∨ i2 ≤ j + 1 := by subst q1; exact up_le _ _ _ _
    clear g1
    rw [if_pos (by omega)] at hr
    subst hr
    apply Ev.succ; simp only [slices_partitionEqualOrdered_byte.l0]
    exact peqA_l1 a j d _ (by omega) hj hd _ i (Nat.le_refl _) (by omega) i2 q1 (peqA_l2 a i2 d _ (by omega) (by omega) (by omega) hd j hj j2 q2 (fun _ => rfl) (fun h => absurd h (by omega)))
  | succ n ih =>
    intro i j d ha hn hi hij hj hd r hr
    have g1 := (scanUp_spec (fun x => !ltInt d[a]! x) d j _ i rfl)
    have g2 := scanDown_le (fun x => ltInt d[a]! x) d (scanUp (fun x => !ltInt d[a]! x) d j i) j
    rw [partEqLoop_eq] at hr
    generalize q1 : scanUp (fun x => !ltInt d[a]! x) d j i = i2 at g1 g2 hr
    generalize q2 : scanDown (fun x => ltInt d[a]! x) d i2 j = j2 at g2 hr
    have g3 := g1.1
    have g4 : i2 ≤ i ∨ i2 ≤ j + 1 := by subst q1; exact up_le _ _ _ _
    clear g1
    apply Ev.succ; simp only [slices_partitionEqualOrdered_byte.l0]
    refine peqA_l1 a j d _ (by omega) hj hd _ i (Nat.le_refl _) (by omega) i2 q1 (peqA_l2 a i2 d _ (by omega) (by omega) (by omega) hd j hj j2 q2 (fun h => ?_) (fun h => ?_))
    · rw [if_pos h] at hr; subst hr; rfl
    · rw [if_neg (by omega)] at hr
      exact ih (i2 + 1) (j2 - 1) _ (by rw [sizeA]; exact ha) (by omega) (by omega) (by omega) (by rw [sizeA]; omega) (by rw [sizeA]; exact hd) r hr
theorem peqA_ev (d : Array Int) (a b p : Nat) (hp : p < b) (hap : a ≤ p) (hab : a + 1 < b) (hb : b ≤ d.size) (hd : d.size ≤ 100000) : Ev (fun k => slices_partitionEqualOrdered_byte.f k d.toList (a : Int) (b : Int) (p : Int)) (((partitionEqual ltInt d a b p).1 : Int), (partitionEqual ltInt d a b p).2.toList) := by
  simp only [slices_partitionEqualOrdered_byte.f, Int.toNat_natCast, swpA, lenA, wS a (by omega), wP b (by omega) (by omega)]
  refine Ev.pos (by omega) (Ev.pos (by omega) (Ev.pos (by omega) (Ev.pos (by omega) ?_)))
  have hz := sizeA d a p
  exact peqA_l0 a _ (a + 1) (b - 1) (swp d a p) (by omega) (Nat.le_refl _) (by omega) (by omega) (by omega) (by omega) _ rfl
/-! ### the partial insertion sort (of fewer than 50) -/
theorem sorted_go (d : Array Int) (b i : Nat) (h : i < b) (q : ltInt d[i]! d[i - 1]! = false) : scanSorted ltInt d b i = scanSorted ltInt d b (i + 1) := by
  conv => lhs; unfold scanSorted
  rw [decide_eq_true h, q]; rfl
theorem sorted_stop (d : Array Int) (b i : Nat) (h : i < b → ltInt d[i]! d[i - 1]! = true) : scanSorted ltInt d b i = i := by
  unfold scanSorted
  by_cases c : i < b
  · rw [h c, Bool.not_true, Bool.and_false, if_neg (by decide)]
  · rw [decide_eq_false c, Bool.false_and, if_neg (by decide)]
theorem pisA_l1 (a b : Nat) (d : Array Int) (R : Bool × List Int) (hb : b ≤ d.size) (hd : d.size ≤ 100000) (s : Int) : ∀ (n i : Nat), b - i ≤ n → 1 ≤ i → i ≤ 200000 → ∀ i2, scanSorted ltInt d b i = i2 → Ev (fun k => slices_partialInsertionSortOrdered_byte.j2 k d.toList (a : Int) (b : Int) (i2 : Int) s) R → Ev (fun k => slices_partialInsertionSortOrdered_byte.l1 k d.toList (a : Int) (b : Int) (i : Int) s) R
  | 0, i, hn, h1, hi, i2, e, h => by
    rw [sorted_stop _ _ _ (by omega)] at e; subst e
    apply Ev.succ; simp only [slices_partialInsertionSortOrdered_byte.l1]
    exact Ev.neg (by omega) h
  | n + 1, i, hn, h1, hi, i2, e, h => by
    apply Ev.succ; simp only [slices_partialInsertionSortOrdered_byte.l1, lessA, lenA, wS i (by omega), wP i (by omega) h1]
    by_cases c : i < b
    · refine Ev.pos (by omega) (Ev.pos (by omega) (Ev.pos (by omega) (Ev.pos (by omega) (Ev.pos (by omega) (Ev.bindc rfl ?_)))))
      rw [rdA, rdA]
      cases q : ltInt d[i]! d[i - 1]! with
      | true => rw [sorted_stop _ _ _ (fun _ => q)] at e; subst e; exact Ev.yes h
      | false =>
        rw [sorted_go _ _ _ c q] at e
        exact Ev.no (pisA_l1 a b d R hb hd s n (i + 1) (by omega) (by omega) (by omega) i2 e h)
    · rw [sorted_stop _ _ _ (fun x => absurd x c)] at e; subst e
      exact Ev.neg (by omega) h
theorem pis_eq (d : Array Int) (a b i : Nat) (h : scanSorted ltInt d b (a + 1) = i) (h5 : b - a < 50) : partialInsertionSort ltInt d a b = (d, decide (i = b)) := by
  unfold partialInsertionSort
  rw [Go.Sort.partialIns_succ]
  rw [h]
  by_cases c : i = b
  · rw [if_pos c, decide_eq_true c]
  · rw [if_neg c, if_pos h5, decide_eq_false c]
theorem pisA_ev (d : Array Int) (a b : Nat) (hab : a < b) (hb : b ≤ d.size) (h5 : b - a < 50) (hd : d.size ≤ 100000) : Ev (fun k => slices_partialInsertionSortOrdered_byte.f k d.toList (a : Int) (b : Int)) ((partialInsertionSort ltInt d a b).2, (partialInsertionSort ltInt d a b).1.toList) := by
  rw [pis_eq d a b _ rfl h5]
  generalize q : scanSorted ltInt d b (a + 1) = i
  simp only [slices_partialInsertionSortOrdered_byte.f, wS a (by omega)]
  apply Ev.succ; simp only [slices_partialInsertionSortOrdered_byte.l0]
  refine Ev.pos (by decide) (pisA_l1 a b d _ hb hd 0 _ (a + 1) (Nat.le_refl _) (by omega) (by omega) i q ?_)
  apply Ev.succ; simp only [slices_partialInsertionSortOrdered_byte.j2]
  by_cases c : i = b
  · rw [decide_eq_true c]; exact Ev.pos (by omega) (Ev.now _)
  · rw [decide_eq_false c, show wrap64 ((b : Int) - (a : Int)) = ((b - a : Nat) : Int) from wN _ _ (by omega) (by omega)]
    exact Ev.neg (by omega) (Ev.pos (by omega) (Ev.now _))
end Go.Proofs.YtcidlaabbkimdaaDoor

namespace Go.Proofs.YtcidlaabbkimdaaDoor
open Go.RowKit Go.Proofs.YtcidlaabbkimdaaDoor.P Go.Proofs.YtcidlaabbkimdaaDoorW.PrintWords
open Go.Sort (swp ltInt xorNext bitsLen breakStep breakPatterns order2 median choosePivot order2_count hintOf hintCode Hint reverseRange partialInsertionSort partitionEqual partition pdq)
set_option linter.unusedSimpArgs false
set_option linter.unusedVariables false
/-! ### the patterns -/
/-- Where a round swaps to. -/
def gO (L m : Nat) (r : UInt64) : Nat := if (r.toNat &&& (m - 1)) ≥ L then (r.toNat &&& (m - 1)) - L else (r.toNat &&& (m - 1))
theorem breakStep_eq (a L m : Nat) (r : UInt64) (d : Array Int) (idx : Nat) : breakStep a L m (r, d) idx = (xorNext r, swp d idx (a + gO L m (xorNext r))) := rfl
def brkOk (L : Nat) : Prop := slices_nextPowerOfTwo.f (L : Int) = some ((1 <<< bitsLen L : Nat) : Int) ∧
  brkO (L : Int) ((1 <<< bitsLen L : Nat) : Int) (nx (L : Int)) = (gO L (1 <<< bitsLen L) (xorNext (UInt64.ofNat L)) : Int) ∧
  brkO (L : Int) ((1 <<< bitsLen L : Nat) : Int) (nx (nx (L : Int))) = (gO L (1 <<< bitsLen L) (xorNext (xorNext (UInt64.ofNat L))) : Int) ∧
  brkO (L : Int) ((1 <<< bitsLen L : Nat) : Int) (nx (nx (nx (L : Int)))) = (gO L (1 <<< bitsLen L) (xorNext (xorNext (xorNext (UInt64.ofNat L)))) : Int) ∧
  gO L (1 <<< bitsLen L) (xorNext (UInt64.ofNat L)) < L ∧ gO L (1 <<< bitsLen L) (xorNext (xorNext (UInt64.ofNat L))) < L ∧ gO L (1 <<< bitsLen L) (xorNext (xorNext (xorNext (UInt64.ofNat L)))) < L
theorem brk_ok (L : Nat) (h1 : 13 ≤ L) (h2 : L ≤ 20) : brkOk L := by
  have h : L = 13 ∨ L = 14 ∨ L = 15 ∨ L = 16 ∨ L = 17 ∨ L = 18 ∨ L = 19 ∨ L = 20 := by omega
  rcases h with rfl | rfl | rfl | rfl | rfl | rfl | rfl | rfl <;> (unfold brkOk; decide +kernel)
theorem brkS_eq (d : Array Int) (i j : Nat) : brkS d.toList (j : Int) (i : Int) = (swp d i j).toList := by
  unfold brkS
  rw [Int.toNat_natCast, Int.toNat_natCast, swpA]
theorem brkA3 (d : Array Int) (a L m i o1 o2 o3 : Nat) (x : Int) (l1 : o1 < L) (l2 : o2 < L) (l3 : o3 < L) (ha : a ≤ 100000) (hL : L ≤ 100) (e1 : brkO (L : Int) (m : Int) (nx x) = (o1 : Int)) (e2 : brkO (L : Int) (m : Int) (nx (nx x)) = (o2 : Int)) (e3 : brkO (L : Int) (m : Int) (nx (nx (nx x))) = (o3 : Int)) :
    brkL (a : Int) (L : Int) (m : Int) 3 (i : Int) x d.toList = some (swp (swp (swp d i (a + o1)) (i + 1) (a + o2)) (i + 2) (a + o3)).toList := by
  have c1 : 0 ≤ (o1 : Int) ∧ (o1 : Int) < (L : Int) := by clear e1 e2 e3; omega
  have c2 : 0 ≤ (o2 : Int) ∧ (o2 : Int) < (L : Int) := by clear e1 e2 e3; omega
  have c3 : 0 ≤ (o3 : Int) ∧ (o3 : Int) < (L : Int) := by clear e1 e2 e3; omega
  have w1 : wrap64 ((a : Int) + (o1 : Int)) = ((a + o1 : Nat) : Int) := by clear e1 e2 e3; exact wN _ _ (by push_cast; rfl) (by omega)
  have w2 : wrap64 ((a : Int) + (o2 : Int)) = ((a + o2 : Nat) : Int) := by clear e1 e2 e3 w1; exact wN _ _ (by push_cast; rfl) (by omega)
  have w3 : wrap64 ((a : Int) + (o3 : Int)) = ((a + o3 : Nat) : Int) := by clear e1 e2 e3 w1 w2; exact wN _ _ (by push_cast; rfl) (by omega)
  have i1 : (i : Int) + 1 = ((i + 1 : Nat) : Int) := by push_cast; rfl
  have i2 : ((i + 1 : Nat) : Int) + 1 = ((i + 2 : Nat) : Int) := by push_cast; rfl
  rw [brkL, e1, if_pos c1, w1, brkS_eq, i1, brkL, e2, if_pos c2, w2, brkS_eq, i2, brkL, e3, if_pos c3, w3, brkS_eq, brkL]
theorem brkA (d : Array Int) (a b : Nat) (h1 : 13 ≤ b - a) (h2 : b - a ≤ 20) (hb : b ≤ d.size) (hd : d.size ≤ 100000) : slices_breakPatternsOrdered_byte.f d.toList (a : Int) (b : Int) = some (breakPatterns d a b).toList := by
  have eL : (b : Int) - (a : Int) = ((b - a : Nat) : Int) := by omega
  have ei : (a : Int) + ((b - a : Nat) : Int) / 4 * 2 - 1 = ((a + (b - a) / 4 * 2 - 1 : Nat) : Int) := by omega
  have g : 0 ≤ (a : Int) ∧ 8 ≤ ((b - a : Nat) : Int) ∧ (b : Int) ≤ (d.toList.length : Int) ∧ d.toList.length ≤ 1000000 := ⟨by omega, by omega, by rw [lenA]; omega, by rw [lenA]; omega⟩
  have g8 : b - a ≥ 8 := by omega
  have ha : a ≤ 100000 := by omega
  have hL : b - a ≤ 100 := by omega
  obtain ⟨e0, e1, e2, e3, l1, l2, l3⟩ := brk_ok (b - a) h1 h2
  have H := brkA3 d a (b - a) _ (a + (b - a) / 4 * 2 - 1) _ _ _ _ l1 l2 l3 ha hL e1 e2 e3
  unfold slices_breakPatternsOrdered_byte.f breakPatterns
  dsimp only
  rw [eL, if_pos g, if_pos g8, ei, e0, breakStep_eq, breakStep_eq, breakStep_eq, Option.bind_some, H]
/-! ### the pivot -/
theorem o2A (d : Array Int) (a b s : Nat) (hs : s ≤ 1000) : o2 d.toList (a : Int) (b : Int) (s : Int) = (((order2 ltInt d a b s).1 : Int), ((order2 ltInt d a b s).2.1 : Int), ((order2 ltInt d a b s).2.2 : Int)) := by
  unfold o2 order2 ltInt
  rw [rdA, rdA]
  by_cases c : d[b]! < d[a]!
  · rw [if_pos c, if_pos (decide_eq_true c), wS s (by omega)]
  · rw [if_neg c, if_neg (by rw [decide_eq_false c]; decide)]
theorem medA (d : Array Int) (a b c s : Nat) (hs : s ≤ 100) : med d.toList (a : Int) (b : Int) (c : Int) (s : Int) = (((median ltInt d a b c s).1 : Int), ((median ltInt d a b c s).2 : Int)) := by
  have c1 := order2_count ltInt d a b s
  have h1 := o2A d a b s (by omega)
  have c2 := order2_count ltInt d (order2 ltInt d a b s).2.1 c (order2 ltInt d a b s).2.2
  have h2 := o2A d (order2 ltInt d a b s).2.1 c (order2 ltInt d a b s).2.2 (by omega)
  have h3 := o2A d (order2 ltInt d a b s).1 (order2 ltInt d (order2 ltInt d a b s).2.1 c (order2 ltInt d a b s).2.2).1 (order2 ltInt d (order2 ltInt d a b s).2.1 c (order2 ltInt d a b s).2.2).2.2 (by omega)
  unfold med median
  simp only [h1, h2, h3]
theorem pivA (d : Array Int) (a b : Nat) (h1 : 8 ≤ b - a) (h2 : b - a < 50) (hb : b ≤ d.size) (hd : d.size ≤ 100000) : slices_choosePivotOrdered_byte.f d.toList (a : Int) (b : Int) = some (((choosePivot ltInt d a b).1 : Int), hintCode (choosePivot ltInt d a b).2) := by
  have eL : (b : Int) - (a : Int) = ((b - a : Nat) : Int) := by omega
  have eq4 : wrap64 (Int.tdiv ((b - a : Nat) : Int) 4) = (((b - a) / 4 : Nat) : Int) := wN _ _ (by rw [Int.tdiv_eq_ediv_of_nonneg (by omega)]; omega) (by omega)
  have p1 : pv1 (a : Int) ((b - a : Nat) : Int) = ((a + (b - a) / 4 * 1 : Nat) : Int) := by
    unfold pv1
    rw [eq4, show wrap64 (((b - a) / 4 : Nat) : Int) = (((b - a) / 4 : Nat) : Int) from wN _ _ rfl (by omega)]
    exact wN _ _ (by push_cast; omega) (by omega)
  have p2 : pv2 (a : Int) ((b - a : Nat) : Int) = ((a + (b - a) / 4 * 2 : Nat) : Int) := by
    unfold pv2
    rw [eq4, show wrap64 ((((b - a) / 4 : Nat) : Int) * 2) = (((b - a) / 4 * 2 : Nat) : Int) from wN _ _ (by push_cast; rfl) (by omega)]
    exact wN _ _ (by push_cast; rfl) (by omega)
  have p3 : pv3 (a : Int) ((b - a : Nat) : Int) = ((a + (b - a) / 4 * 3 : Nat) : Int) := by
    unfold pv3
    rw [eq4, show wrap64 ((((b - a) / 4 : Nat) : Int) * 3) = (((b - a) / 4 * 3 : Nat) : Int) from wN _ _ (by push_cast; rfl) (by omega)]
    exact wN _ _ (by push_cast; rfl) (by omega)
  clear eq4
  have hr : Go.Sort.rawPivot ltInt d a b = median ltInt d (a + (b - a) / 4 * 1) (a + (b - a) / 4 * 2) (a + (b - a) / 4 * 3) 0 := by
    unfold Go.Sort.rawPivot
    rw [if_pos h1, if_neg (by omega)]
  have hm := medA d (a + (b - a) / 4 * 1) (a + (b - a) / 4 * 2) (a + (b - a) / 4 * 3) 0 (by omega)
  unfold slices_choosePivotOrdered_byte.f
  rw [eL, if_pos ⟨by omega, by omega, by omega, by rw [lenA]; omega, by rw [lenA]; omega⟩, p1, p2, p3, Go.Sort.choosePivot_eq, hr]
  rw [show ((0 : Nat) : Int) = 0 from rfl] at hm
  rw [hm]
  generalize (median ltInt d (a + (b - a) / 4 * 1) (a + (b - a) / 4 * 2) (a + (b - a) / 4 * 3) 0) = m
  obtain ⟨x, s⟩ := m
  simp only [hintI, hintOf]
  by_cases z0 : s = 0
  · subst z0; rfl
  · by_cases z12 : s = 12
    · subst z12; rfl
    · rw [if_neg (by omega), if_neg (by omega), if_neg z0, if_neg z12]; rfl
/-! ### the recursion -/
theorem pdq_j4 (D : Array Int) (a b lim p : Nat) (wb wp : Bool) (L : Int) (T : List Int) (hp : p < b) (hab : a < b) (hb : b ≤ D.size) (hd : D.size ≤ 100000)
    (h : Ev (fun k => slices_pdqsortOrdered_byte.j5 k D.toList (a : Int) (b : Int) (lim : Int) wb wp L (p : Int) (decide (a > 0) && !ltInt D[a - 1]! D[p]!)) T) :
    Ev (fun k => slices_pdqsortOrdered_byte.j4 k D.toList (a : Int) (b : Int) (lim : Int) wb wp L (p : Int)) T := by
  apply Ev.succ; simp only [slices_pdqsortOrdered_byte.j4, lenA, lessA]
  by_cases c : a > 0
  · rw [decide_eq_true c, Bool.true_and] at h
    rw [wP a (by omega) (by omega)]
    refine Ev.pos (by omega) (Ev.pos (by omega) (Ev.pos (by omega) (Ev.pos (by omega) (Ev.pos (by omega) (Ev.bindc rfl ?_)))))
    rw [rdA, rdA]; exact h
  · rw [decide_eq_false c, Bool.false_and] at h
    exact Ev.neg (by omega) h
theorem pdq_j3 (D : Array Int) (a b lim p : Nat) (wb wp x : Bool) (L : Int) (T : List Int) (hab : a < b) (h5 : b - a < 50) (hb : b ≤ D.size) (hd : D.size ≤ 100000) (pi : Array Int × Bool) (hpi : pi = if x = true then partialInsertionSort ltInt D a b else (D, false))
    (h1 : pi.2 = true → T = pi.1.toList) (h2 : pi.2 = false → Ev (fun k => slices_pdqsortOrdered_byte.j4 k pi.1.toList (a : Int) (b : Int) (lim : Int) wb wp L (p : Int)) T) :
    Ev (fun k => slices_pdqsortOrdered_byte.j3 k D.toList (a : Int) (b : Int) (lim : Int) wb wp L (p : Int) x) T := by
  apply Ev.succ; simp only [slices_pdqsortOrdered_byte.j3]
  cases x with
  | false =>
    rw [if_neg (by decide)] at hpi; subst hpi
    exact Ev.no (h2 rfl)
  | true =>
    rw [if_pos rfl] at hpi; subst hpi
    refine Ev.yes (Ev.bind (pisA_ev D a b hab hb h5 hd) ?_)
    cases q : (partialInsertionSort ltInt D a b).2 with
    | true => rw [h1 q]; exact Ev.yes (Ev.now _)
    | false => exact Ev.no (h2 q)
theorem hint_inc (h : Hint) : (hintCode h == 1) = decide (h = .increasing) := by cases h <;> rfl
theorem hint_dec (h : Hint) : (hintCode h = 2) ↔ h = .decreasing := by cases h <;> decide
theorem pdq_j2 (D : Array Int) (a b lim p : Nat) (wb wp : Bool) (hint : Hint) (L : Int) (T : List Int) (hab : a < b) (h5 : b - a < 50) (hb : b ≤ D.size) (hd : D.size ≤ 100000) (pi : Array Int × Bool) (hpi : pi = if (wb && wp && decide (hint = .increasing)) = true then partialInsertionSort ltInt D a b else (D, false))
    (h1 : pi.2 = true → T = pi.1.toList) (h2 : pi.2 = false → Ev (fun k => slices_pdqsortOrdered_byte.j4 k pi.1.toList (a : Int) (b : Int) (lim : Int) wb wp L (p : Int)) T) :
    Ev (fun k => slices_pdqsortOrdered_byte.j2 k D.toList (a : Int) (b : Int) (lim : Int) wb wp L (p : Int) (hintCode hint)) T := by
  have H := pdq_j3 D a b lim p wb wp (wb && wp && decide (hint = .increasing)) L T hab h5 hb hd pi hpi h1 h2
  apply Ev.succ; simp only [slices_pdqsortOrdered_byte.j2, hint_inc]
  cases wb with
  | false => exact Ev.no H
  | true =>
    cases wp with
    | false => exact Ev.yes (Ev.no H)
    | true => exact Ev.yes (Ev.yes H)
theorem pdq_j1 (D : Array Int) (a b lim : Nat) (wb wp : Bool) (L : Int) (T : List Int) (h8 : 8 ≤ b - a) (h5 : b - a < 50) (hb : b ≤ D.size) (hd : D.size ≤ 100000)
    (h : Ev (fun k => slices_pdqsortOrdered_byte.j2 k (if (choosePivot ltInt D a b).2 = .decreasing then reverseRange D a b else D).toList (a : Int) (b : Int) (lim : Int) wb wp L ((if (choosePivot ltInt D a b).2 = .decreasing then (b - 1) - ((choosePivot ltInt D a b).1 - a) else (choosePivot ltInt D a b).1 : Nat) : Int) (hintCode (if (choosePivot ltInt D a b).2 = .decreasing then Hint.increasing else (choosePivot ltInt D a b).2))) T) :
    Ev (fun k => slices_pdqsortOrdered_byte.j1 k D.toList (a : Int) (b : Int) (lim : Int) wb wp L) T := by
  have hc := Go.Sort.choosePivot_holds ltInt D a b (by omega)
  apply Ev.succ; simp only [slices_pdqsortOrdered_byte.j1, pivA D a b h8 h5 hb hd, Option.bind_some, hint_dec]
  by_cases c : (choosePivot ltInt D a b).2 = .decreasing
  · rw [if_pos c, if_pos c, if_pos c] at h
    refine Ev.pos c (Ev.bind (revA_ev D a b hb (by omega) hd) ?_)
    rw [show wrap64 (((choosePivot ltInt D a b).1 : Int) - (a : Int)) = (((choosePivot ltInt D a b).1 - a : Nat) : Int) from wN _ _ (by omega) (by omega), wP b (by omega) (by omega), show wrap64 (((b - 1 : Nat) : Int) - (((choosePivot ltInt D a b).1 - a : Nat) : Int)) = ((b - 1 - ((choosePivot ltInt D a b).1 - a) : Nat) : Int) from wN _ _ (by omega) (by omega)]
    exact h
  · rw [if_neg c, if_neg c, if_neg c] at h
    exact Ev.neg c h
theorem peq_range (d : Array Int) (a b p : Nat) (hap : a ≤ p) (hp : p < b) (hab : a + 1 < b) (hb : b ≤ d.size) : a < (partitionEqual ltInt d a b p).1 ∧ (partitionEqual ltInt d a b p).1 ≤ b ∧ (partitionEqual ltInt d a b p).2.size = d.size := by
  have h := Go.Sort.partEqLoop_spec ltInt a b _ (a + 1) (b - 1) (swp d a p) (Nat.le_refl _) (by omega) (by omega) (by omega) (by rw [sizeA]; exact hb) (fun t h1 h2 => by omega) (fun t h1 h2 => by omega)
  unfold partitionEqual
  exact ⟨h.1, h.2.1, by rw [h.2.2.1.1, sizeA]⟩
end Go.Proofs.YtcidlaabbkimdaaDoor

namespace Go.Proofs.YtcidlaabbkimdaaDoor
open Go.RowKit Go.Proofs.YtcidlaabbkimdaaDoor.P Go.Proofs.YtcidlaabbkimdaaDoorW.PrintWords
open Go.Sort (swp ltInt xorNext bitsLen breakPatterns choosePivot hintOf hintCode Hint reverseRange partialInsertionSort partitionEqual partition pdq insertionSort heapSort)
set_option linter.unusedSimpArgs false
set_option linter.unusedVariables false
theorem pdqA_go (n : Nat) (ih : ∀ (a b limit : Nat) (wb wp : Bool) (d : Array Int), b - a ≤ n → a ≤ b → b - a ≤ 20 → b ≤ d.size → d.size ≤ 100000 → limit ≤ 100 → Ev (fun k => slices_pdqsortOrdered_byte.l0 k d.toList (a : Int) (b : Int) (limit : Int) wb wp) (pdq ltInt d a b limit wb wp).toList ∧ (pdq ltInt d a b limit wb wp).size = d.size)
    (a b lim p : Nat) (wb wp : Bool) (D S : Array Int) (hn : b - a ≤ n + 1) (h12 : ¬ b - a ≤ 12) (h20 : b - a ≤ 20) (hap : a ≤ p) (hp : p < b) (hb : b ≤ D.size) (hd : D.size ≤ 100000) (hl : lim ≤ 100)
    (hS : S = if (decide (a > 0) && !ltInt D[a - 1]! D[p]!) = true then
      (if a < (partitionEqual ltInt D a b p).1 ∧ (partitionEqual ltInt D a b p).1 ≤ b then pdq ltInt (partitionEqual ltInt D a b p).2 (partitionEqual ltInt D a b p).1 b lim wb wp else (partitionEqual ltInt D a b p).2)
    else
      (if a ≤ (partition ltInt D a b p).1 ∧ (partition ltInt D a b p).1 < b then
        (if (partition ltInt D a b p).1 - a < b - (partition ltInt D a b p).1 then
          pdq ltInt (pdq ltInt (partition ltInt D a b p).2.2 a (partition ltInt D a b p).1 lim true true) ((partition ltInt D a b p).1 + 1) b lim (decide ((partition ltInt D a b p).1 - a ≥ (b - a) / 8)) (partition ltInt D a b p).2.1
        else
          pdq ltInt (pdq ltInt (partition ltInt D a b p).2.2 ((partition ltInt D a b p).1 + 1) b lim true true) a (partition ltInt D a b p).1 lim (decide (b - (partition ltInt D a b p).1 ≥ (b - a) / 8)) (partition ltInt D a b p).2.1)
      else (partition ltInt D a b p).2.2)) :
    Ev (fun k => slices_pdqsortOrdered_byte.j4 k D.toList (a : Int) (b : Int) (lim : Int) wb wp ((b - a : Nat) : Int) (p : Int)) S.toList ∧ S.size = D.size := by
  have ihf : ∀ (a b : Nat) (d : Array Int), b - a ≤ n → a ≤ b → b - a ≤ 20 → b ≤ d.size → d.size ≤ 100000 → Ev (fun k => slices_pdqsortOrdered_byte.f k d.toList (a : Int) (b : Int) (lim : Int)) (pdq ltInt d a b lim true true).toList := by
    intro a b d h1 h2 h3 h4 h5
    apply Ev.succ; simp only [slices_pdqsortOrdered_byte.f]
    exact (ih a b lim true true d h1 h2 h3 h4 h5 hl).1
  suffices h : Ev (fun k => slices_pdqsortOrdered_byte.j5 k D.toList (a : Int) (b : Int) (lim : Int) wb wp ((b - a : Nat) : Int) (p : Int) (decide (a > 0) && !ltInt D[a - 1]! D[p]!)) S.toList ∧ S.size = D.size from
    ⟨pdq_j4 D a b lim p wb wp _ _ hp (by omega) hb hd h.1, h.2⟩
  cases q : (decide (a > 0) && !ltInt D[a - 1]! D[p]!) with
  | true =>
    rw [q, if_pos rfl] at hS
    obtain ⟨r1, r2, r3⟩ := peq_range D a b p hap hp (by omega) hb
    rw [if_pos ⟨r1, r2⟩] at hS
    have H := peqA_ev D a b p hp hap (by omega) hb hd
    generalize partitionEqual ltInt D a b p = pe at hS r1 r2 r3 H
    have I := ih pe.1 b lim wb wp pe.2 (by omega) r2 (by omega) (by omega) (by omega) hl
    rw [← hS] at I
    refine ⟨?_, by rw [I.2, r3]⟩
    apply Ev.succ; simp only [slices_pdqsortOrdered_byte.j5]
    exact Ev.yes (Ev.bind H I.1)
  | false =>
    rw [q, if_neg (by decide)] at hS
    obtain ⟨r1, r2, r3, -, -⟩ := Go.Sort.partition_holds ltInt Go.Sort.swo_ltInt D a b p hap hp hb
    replace r3 := r3.1
    rw [if_pos ⟨r1, r2⟩] at hS
    have H := parA_ev D a b p hp hap (by omega) hb hd
    generalize partition ltInt D a b p = pt at hS r1 r2 r3 H
    obtain ⟨mid, ap, d4⟩ := pt
    dsimp only at hS r1 r2 r3 H
    have w1 : ∀ (P : Int → Prop), P ((mid - a : Nat) : Int) → P (wrap64 ((mid : Int) - (a : Int))) := fun P h => by rw [show wrap64 ((mid : Int) - (a : Int)) = ((mid - a : Nat) : Int) from wN _ _ (by omega) (by omega)]; exact h
    have g : Ev (fun n => if ((mid - a : Nat) : Int) < ((b - mid : Nat) : Int) then (slices_pdqsortOrdered_byte.f n d4.toList (a : Int) (mid : Int) (lim : Int)).bind fun t117 => slices_pdqsortOrdered_byte.l0 n t117 ((mid + 1 : Nat) : Int) (b : Int) (lim : Int) (decide (((mid - a : Nat) : Int) ≥ (((b - a) / 8 : Nat) : Int))) ap
        else (slices_pdqsortOrdered_byte.f n d4.toList ((mid + 1 : Nat) : Int) (b : Int) (lim : Int)).bind fun t118 => slices_pdqsortOrdered_byte.l0 n t118 (a : Int) (mid : Int) (lim : Int) (decide (((b - mid : Nat) : Int) ≥ (((b - a) / 8 : Nat) : Int))) ap) S.toList ∧ S.size = D.size := by
      by_cases c : mid - a < b - mid
      · rw [if_pos c] at hS
        have s1 := (ih a mid lim true true d4 (by omega) r1 (by omega) (by omega) (by omega) hl).2
        have I1 := ihf a mid d4 (by omega) r1 (by omega) (by omega) (by omega)
        have I2 := ih (mid + 1) b lim (decide (mid - a ≥ (b - a) / 8)) ap (pdq ltInt d4 a mid lim true true) (by omega) (by omega) (by omega) (by omega) (by omega) hl
        rw [← hS] at I2
        refine ⟨Ev.pos (by omega) (Ev.bind I1 ?_), by rw [I2.2, s1, r3]⟩
        rw [show decide (((mid - a : Nat) : Int) ≥ (((b - a) / 8 : Nat) : Int)) = decide (mid - a ≥ (b - a) / 8) from decide_eq_decide.mpr (by omega)]
        exact I2.1
      · rw [if_neg c] at hS
        have s1 := (ih (mid + 1) b lim true true d4 (by omega) (by omega) (by omega) (by omega) (by omega) hl).2
        have I1 := ihf (mid + 1) b d4 (by omega) (by omega) (by omega) (by omega) (by omega)
        have I2 := ih a mid lim (decide (b - mid ≥ (b - a) / 8)) ap (pdq ltInt d4 (mid + 1) b lim true true) (by omega) (by omega) (by omega) (by omega) (by omega) hl
        rw [← hS] at I2
        refine ⟨Ev.neg (by omega) (Ev.bind I1 ?_), by rw [I2.2, s1, r3]⟩
        rw [show decide (((b - mid : Nat) : Int) ≥ (((b - a) / 8 : Nat) : Int)) = decide (b - mid ≥ (b - a) / 8) from decide_eq_decide.mpr (by omega)]
        exact I2.1
    refine ⟨?_, g.2⟩
    apply Ev.succ; simp only [slices_pdqsortOrdered_byte.j5]
    refine Ev.no (Ev.bind H ?_)
    dsimp only
    rw [show wrap64 ((mid : Int) - (a : Int)) = ((mid - a : Nat) : Int) from wN _ _ (by omega) (by omega), show wrap64 ((b : Int) - (mid : Int)) = ((b - mid : Nat) : Int) from wN _ _ (by omega) (by omega), wS mid (by omega), show wrap64 (Int.tdiv ((b - a : Nat) : Int) 8) = (((b - a) / 8 : Nat) : Int) from wN _ _ (by rw [Int.tdiv_eq_ediv_of_nonneg (by omega)]; omega) (by omega)]
    exact g.1
theorem pdqA : ∀ (n a b limit : Nat) (wb wp : Bool) (d : Array Int), b - a ≤ n → a ≤ b → b - a ≤ 20 → b ≤ d.size → d.size ≤ 100000 → limit ≤ 100 → Ev (fun k => slices_pdqsortOrdered_byte.l0 k d.toList (a : Int) (b : Int) (limit : Int) wb wp) (pdq ltInt d a b limit wb wp).toList ∧ (pdq ltInt d a b limit wb wp).size = d.size := by
  intro n
  induction n with
  | zero =>
    intro a b limit wb wp d hn hab h20 hb hd hl
    rw [Go.Sort.pdq_small (by omega)]
    have hi := Go.Sort.insertionSort_holds (lt := ltInt) Go.Sort.swo_ltInt d a b hab hb
    refine ⟨?_, hi.1.1⟩
    apply Ev.succ; simp only [slices_pdqsortOrdered_byte.l0]
    rw [show wrap64 ((b : Int) - (a : Int)) = ((b - a : Nat) : Int) from wN _ _ (by omega) (by omega)]
    exact Ev.pos (by omega) (Ev.bind (insA_ev d a b hb hab hd) (Ev.now _))
  | succ n ih =>
    intro a b limit wb wp d hn hab h20 hb hd hl
    by_cases h12 : b - a ≤ 12
    · rw [Go.Sort.pdq_small h12]
      have hi := Go.Sort.insertionSort_holds (lt := ltInt) Go.Sort.swo_ltInt d a b hab hb
      refine ⟨?_, hi.1.1⟩
      apply Ev.succ; simp only [slices_pdqsortOrdered_byte.l0]
      rw [show wrap64 ((b : Int) - (a : Int)) = ((b - a : Nat) : Int) from wN _ _ (by omega) (by omega)]
      exact Ev.pos (by omega) (Ev.bind (insA_ev d a b hb hab hd) (Ev.now _))
    by_cases h0 : limit = 0
    · rw [Go.Sort.pdq_heap h12 h0]
      have hi := Go.Sort.heapSort_holds (lt := ltInt) Go.Sort.swo_ltInt d a b hab hb
      refine ⟨?_, hi.1.1⟩
      apply Ev.succ; simp only [slices_pdqsortOrdered_byte.l0]
      rw [show wrap64 ((b : Int) - (a : Int)) = ((b - a : Nat) : Int) from wN _ _ (by omega) (by omega)]
      exact Ev.neg (by omega) (Ev.pos (by omega) (Ev.bind (heapA_ev d a b hb (by omega) hd) (Ev.now _)))
    have hU := Go.Sort.pdq_unfold (lt := ltInt) (d := d) (a := a) (b := b) (limit := limit) (wb := wb) (wp := wp)
    rw [if_neg h12, if_neg h0] at hU
    have s1 : (Go.Sort.rd ltInt d a b limit wb wp).d1.size = d.size := (Go.Sort.step_break d hab hb ((!wb) = true)).1
    have l1 : (Go.Sort.rd ltInt d a b limit wb wp).lim ≤ limit := Go.Sort.rd_lim_le
    have c1 : a ≤ (Go.Sort.rd ltInt d a b limit wb wp).c.1 ∧ (Go.Sort.rd ltInt d a b limit wb wp).c.1 < b := Go.Sort.choosePivot_holds ltInt (Go.Sort.rd ltInt d a b limit wb wp).d1 a b (by omega)
    have s2 : (Go.Sort.rd ltInt d a b limit wb wp).d2.size = (Go.Sort.rd ltInt d a b limit wb wp).d1.size := (Go.Sort.step_reverse Go.Sort.reverseRange_holds (Go.Sort.rd ltInt d a b limit wb wp).d1 hab (by rw [s1]; exact hb) ((Go.Sort.rd ltInt d a b limit wb wp).c.2 = .decreasing)).1
    have pv : a ≤ (Go.Sort.rd ltInt d a b limit wb wp).pivot ∧ (Go.Sort.rd ltInt d a b limit wb wp).pivot < b := Go.Sort.pivot_range c1.1 c1.2 ((Go.Sort.rd ltInt d a b limit wb wp).c.2 = .decreasing)
    have hpi : (Go.Sort.rd ltInt d a b limit wb wp).pi = if (wb && wp && decide ((Go.Sort.rd ltInt d a b limit wb wp).hint = .increasing)) = true then partialInsertionSort ltInt (Go.Sort.rd ltInt d a b limit wb wp).d2 a b else ((Go.Sort.rd ltInt d a b limit wb wp).d2, false) := rfl
    have s3 : (Go.Sort.rd ltInt d a b limit wb wp).pi.1 = (Go.Sort.rd ltInt d a b limit wb wp).d2 := by
      rw [hpi]
      split
      · rw [pis_eq _ a b _ rfl (by omega)]
      · rfl
    have K : ∀ T, Ev (fun k => slices_pdqsortOrdered_byte.j1 k (Go.Sort.rd ltInt d a b limit wb wp).d1.toList (a : Int) (b : Int) ((Go.Sort.rd ltInt d a b limit wb wp).lim : Int) wb wp ((b - a : Nat) : Int)) T → Ev (fun k => slices_pdqsortOrdered_byte.l0 k d.toList (a : Int) (b : Int) (limit : Int) wb wp) T := by
      intro T hT
      apply Ev.succ; simp only [slices_pdqsortOrdered_byte.l0]
      rw [show wrap64 ((b : Int) - (a : Int)) = ((b - a : Nat) : Int) from wN _ _ (by omega) (by omega)]
      refine Ev.neg (by omega) (Ev.neg (by omega) ?_)
      cases wb with
      | true => exact Ev.yes hT
      | false =>
        rw [wP limit (by omega) (by omega)]
        exact Ev.no (Ev.bindc (brkA d a b (by omega) h20 hb hd) hT)
    have J : ∀ T, Ev (fun k => slices_pdqsortOrdered_byte.j2 k (Go.Sort.rd ltInt d a b limit wb wp).d2.toList (a : Int) (b : Int) ((Go.Sort.rd ltInt d a b limit wb wp).lim : Int) wb wp ((b - a : Nat) : Int) ((Go.Sort.rd ltInt d a b limit wb wp).pivot : Int) (hintCode (Go.Sort.rd ltInt d a b limit wb wp).hint)) T → Ev (fun k => slices_pdqsortOrdered_byte.l0 k d.toList (a : Int) (b : Int) (limit : Int) wb wp) T := by
      intro T hT
      exact K T (pdq_j1 (Go.Sort.rd ltInt d a b limit wb wp).d1 a b _ wb wp _ T (by omega) (by omega) (by rw [s1]; exact hb) (by rw [s1]; exact hd) hT)
    clear K c1
    generalize Go.Sort.rd ltInt d a b limit wb wp = R at *
    generalize pdq ltInt d a b limit wb wp = S at *
    have hG := fun h => pdqA_go n ih a b R.lim R.pivot wb wp R.pi.1 S hn h12 h20 pv.1 pv.2 (by rw [s3, s2, s1]; exact hb) (by rw [s3, s2, s1]; exact hd) (by omega) h
    cases q : R.pi.2 with
    | true =>
      rw [q, if_pos rfl] at hU
      refine ⟨J _ (pdq_j2 R.d2 a b R.lim R.pivot wb wp R.hint _ _ (by omega) (by omega) (by rw [s2, s1]; exact hb) (by rw [s2, s1]; exact hd) R.pi hpi (fun _ => by rw [hU]) (fun h => by rw [q] at h; exact absurd h (by decide))), by rw [hU, s3, s2, s1]⟩
    | false =>
      rw [q, if_neg (by decide)] at hU
      have hH := hG hU
      refine ⟨J _ (pdq_j2 R.d2 a b R.lim R.pivot wb wp R.hint _ _ (by omega) (by omega) (by rw [s2, s1]; exact hb) (by rw [s2, s1]; exact hd) R.pi hpi (fun h => by rw [q] at h; exact absurd h (by decide)) (fun _ => hH.1)), by rw [hH.2, s3, s2, s1]⟩
/-- The sort of up to twenty bytes. -/
theorem sortB_ev (l : List Int) (h : l.length ≤ 20) : Ev (fun k => slices_Sort_byte_byte.f k l) (l.mergeSort fun x y => decide (x ≤ y)) := by
  have hb : ∀ n : Nat, n ≤ 20 → bits_Len.f (IntKind.u64.wrap (n : Int)) = some ((bitsLen n : Nat) : Int) ∧ bitsLen n ≤ 100 := by
    intro n hn
    have : n = 0 ∨ n = 1 ∨ n = 2 ∨ n = 3 ∨ n = 4 ∨ n = 5 ∨ n = 6 ∨ n = 7 ∨ n = 8 ∨ n = 9 ∨ n = 10 ∨ n = 11 ∨ n = 12 ∨ n = 13 ∨ n = 14 ∨ n = 15 ∨ n = 16 ∨ n = 17 ∨ n = 18 ∨ n = 19 ∨ n = 20 := by omega
    rcases this with rfl | rfl | rfl | rfl | rfl | rfl | rfl | rfl | rfl | rfl | rfl | rfl | rfl | rfl | rfl | rfl | rfl | rfl | rfl | rfl | rfl <;> decide +kernel
  have hs := Go.Sort.sortInt l
  obtain ⟨h1, h2⟩ := hb l.length h
  have hp := (pdqA 20 0 l.length (bitsLen l.length) true true l.toArray (by omega) (by omega) (by omega) (by simp) (by simp; omega) h2).1
  have hq : Ev (fun k => slices_pdqsortOrdered_byte.f k l 0 (l.length : Int) ((bitsLen l.length : Nat) : Int)) (l.mergeSort fun x y => decide (x ≤ y)) := by
    apply Ev.succ; simp only [slices_pdqsortOrdered_byte.f]
    rw [← hs]
    exact hp
  unfold slices_Sort_byte_byte.f
  exact Ev.bindc h1 (Ev.bind hq (Ev.now _))
end Go.Proofs.YtcidlaabbkimdaaDoor

namespace Go.Proofs.YtcidlaabbkimdaaDoor
open Go.RowKit Go.Proofs.YtcidlaabbkimdaaDoor.P Go.Proofs.YtcidlaabbkimdaaDoorW.PrintWords
set_option linter.unusedSimpArgs false
set_option linter.unusedVariables false
theorem over_eq (s cs : ByteArray) (h1 : s.size ≤ 9223372036854775807) (h2 : cs.size < 4294967281) (h3 : (bl cs).all (fun b => decide (b.toNat < 128)) = true) : impl_over.f s cs = some ((bl s).all ((bl cs).contains ·)) := by
  unfold impl_over.f strings_Trim.f
  rw [if_pos ⟨h1, h2, h3⟩]
  simp only [Option.bind_some]
  congr 1
  rw [bl_toList, bl_mk, List.toList_toArray]
  have := trimS_nil (bl s) (bl cs)
  unfold bl at this ⊢
  rw [Bool.eq_iff_iff, beq_iff_eq]
  exact this
theorem overLow_eq (s : ByteArray) (h1 : s.size ≤ 9223372036854775807) : impl_over.f s (⟨#[97, 98, 99, 100, 101, 102, 103, 104, 105, 106, 107, 108, 109, 110, 111, 112, 113, 114, 115, 116, 117, 118, 119, 120, 121, 122]⟩ : ByteArray) = some ((bl s).all isLow) := by
  rw [over_eq s _ h1 (by decide) (by decide)]
  congr 1
  congr 1
  funext c
  exact low_contains c
/-- Is it a text? -/
def textB (l : List UInt8) : Bool := decide (l.length ≤ 20) && l.all isLow
theorem isText_eq (s : ByteArray) (h1 : s.size ≤ 9223372036854775807) : impl_isText.f s = some (textB (bl s)) := by
  unfold impl_isText.f textB
  by_cases c : s.size ≤ 20
  · rw [if_pos (by omega), overLow_eq s h1, decide_eq_true (by rw [← bl_len]; exact c)]; rfl
  · rw [if_neg (by omega), decide_eq_false (by rw [← bl_len]; exact c), Bool.false_and]
theorem bkText_l0 (s : ByteArray) (hs : s.size ≤ 9223372036854775806) : ∀ (d i : Nat), i + d = s.size → Ev (fun k => spec_bkText.l0 k s i) (((bl s).drop i).all isLow)
  | 0, i, hi => by
    apply Ev.succ
    simp only [spec_bkText.l0]
    refine Ev.neg (by omega) (Ev.const ?_)
    rw [List.drop_of_length_le (by rw [← bl_len]; omega)]; rfl
  | d + 1, i, hi => by
    have hlt : i < (bl s).length := by rw [← bl_len]; omega
    apply Ev.succ
    simp only [spec_bkText.l0]
    refine Ev.pos (by omega) (Ev.pos (by omega) ?_)
    rw [wrap_id (by omega) (by omega), bt_nat s i hlt, List.drop_eq_getElem_cons hlt, List.all_cons]
    by_cases c1 : ((bl s)[i].toNat : Int) < 97
    · refine Ev.pos c1 (Ev.const ?_)
      have : isLow (bl s)[i] = false := by unfold isLow; rw [Bool.and_eq_false_iff]; left; rw [decide_eq_false_iff_not]; omega
      rw [this]; rfl
    · refine Ev.neg c1 ?_
      by_cases c2 : ((bl s)[i].toNat : Int) > 122
      · refine Ev.pos c2 (Ev.const ?_)
        have : isLow (bl s)[i] = false := by unfold isLow; rw [Bool.and_eq_false_iff]; right; rw [decide_eq_false_iff_not]; omega
        rw [this]; rfl
      · refine Ev.neg c2 ?_
        have : isLow (bl s)[i] = true := by unfold isLow; rw [Bool.and_eq_true, decide_eq_true_eq, decide_eq_true_eq]; omega
        rw [this, Bool.true_and]
        exact_mod_cast bkText_l0 s hs d (i + 1) (by omega)
theorem bkText_ev (s : ByteArray) : Ev (fun k => spec_bkText.f k s) (textB (bl s)) := by
  unfold spec_bkText.f textB
  by_cases c : s.size ≤ 20
  · refine Ev.neg (by omega) ?_
    rw [decide_eq_true (by rw [← bl_len]; exact c), Bool.true_and]
    exact bkText_l0 s (by omega) s.size 0 (by omega)
  · refine Ev.pos (by omega) (Ev.const ?_)
    rw [decide_eq_false (by rw [← bl_len]; exact c), Bool.false_and]
end Go.Proofs.YtcidlaabbkimdaaDoor

-- printed by xprint.py
namespace Go.Proofs.YtcidlaabbkimdaaDoor.P
open Go.RowKit Go.Proofs.YtcidlaabbkimdaaDoorW.PrintWords Go.Proofs.YtcidlaabbkimdaaDoorW.PrintLast Go.Proofs.YtcidlaabbkimdaaDoorW.PrintMore
attribute [local go_sem] max2_int min2_int max_two min_two max_three min_three max_four min_four   -- for this text's walks alone
set_option linter.unusedVariables false
set_option linter.unusedSimpArgs false

/-! ### spec_bkLettersOf: function 28 -/
def spec_bkLettersOf.l0 : Nat → ByteArray → ByteArray → Int → Option (ByteArray)
 | 0,_,_,_ => none
 | k + 1,x0,x3,x4 => if x4 ≤ 122 then ((spec_bkHas.f k x0 x4).bind fun t101 => (if t101 = true then (if x3.size + (Utf8.encode (wrap32 (x4))).size ≤ 9223372036854775807 then (spec_bkLettersOf.l0 k x0 (x3 ++ (Utf8.encode (wrap32 (x4)))) ((x4 + 1) % 256)) else (none)) else (spec_bkLettersOf.l0 k x0 x3 ((x4 + 1) % 256)))) else (some x3)
def spec_bkLettersOf.f (k : Nat) (a0 : ByteArray) : Option (ByteArray) := spec_bkLettersOf.l0 k a0 (⟨#[]⟩ : ByteArray) 97
theorem spec_bkLettersOf.mono_l : ∀ k,(∀ y0 y1 y2,LeO (spec_bkLettersOf.l0 k y0 y1 y2) (spec_bkLettersOf.l0 (k + 1) y0 y1 y2))
 | 0 => by intros; intro r h; simp [spec_bkLettersOf.l0] at h
 | k + 1 => by
  have ih0 := spec_bkLettersOf.mono_l k
  ·
   intro y0 y1 y2
   unfold spec_bkLettersOf.l0
   repeat' first
   | (with_reducible exact ih0 _ _ _)
   | (with_reducible exact spec_bkHas.mono _ _ _)
   | (with_reducible exact LeO.refl _)
   | (with_reducible exact LeO.none _)
   | (with_reducible refine LeO.ite ?_ ?_)
   | (with_reducible refine LeO.bind ?_ (fun _ => ?_))
   | exact ih0 _ _ _
   | exact spec_bkHas.mono _ _ _
   | exact LeO.none _
   | refine LeO.ite ?_ ?_
   | refine LeO.bind ?_ (fun _ => ?_)
theorem spec_bkLettersOf.mono : ∀ y0 k,LeO (spec_bkLettersOf.f k y0) (spec_bkLettersOf.f (k + 1) y0) := by
 intro y0 k; have ih0 := spec_bkLettersOf.mono_l k
 unfold spec_bkLettersOf.f
 repeat' first
   | (with_reducible exact ih0 _ _ _)
   | (with_reducible exact spec_bkHas.mono _ _ _)
   | (with_reducible exact LeO.refl _)
   | (with_reducible exact LeO.none _)
   | (with_reducible refine LeO.ite ?_ ?_)
   | (with_reducible refine LeO.bind ?_ (fun _ => ?_))
   | exact ih0 _ _ _
   | exact spec_bkHas.mono _ _ _
   | exact LeO.none _
   | refine LeO.ite ?_ ?_
   | refine LeO.bind ?_ (fun _ => ?_)
set_option maxHeartbeats 8000000 in
set_option maxRecDepth 100000 in
theorem spec_bkLettersOf.calls (k : Nat) (a0 : ByteArray) (r : ByteArray) (w : World) (h : spec_bkLettersOf.f k a0 = some r) :
  Calls Tryd.prog 28 #[.string a0] w fun e w' => e = .returned (.string r) ∧ Drawn0 w w' := by
 have H : (spec_bkLettersOf.l0 k a0 (⟨#[]⟩ : ByteArray) 97) = some r := h; clear h; have H' := Aside0.mk H; clear H
 go_enter Tryd.func28,Tryd.ntmps28
 go_wp2
 go_loopg [3,4] k (fun kq v3 v4 w' => ∃ (x3_1 : ByteArray) (x4_1 : Int),v3 = .string x3_1 ∧ v4 = .int .u8 x4_1 ∧ Aside0 (spec_bkLettersOf.l0 kq a0 x3_1 x4_1 = some r) ∧ Aside0 (kq ≤ k) ∧ Drawn0 w w')
 case atStart => exact ⟨((⟨#[]⟩ : ByteArray)),(97),(by first | rfl | (simp; done) | (simp [*]; done)),(by first | rfl | (simp; done) | (simp [*]; done)),H',⟨Nat.le_refl _⟩,by repeat (first | exact Drawn0.refl _ | apply Drawn0.step)⟩
 case round =>
  clear H'; obtain ⟨x3_1,x4_1,rfl,rfl,HA,HK1,⟨m1,rfl⟩⟩ := hrel
  cases gk with
  | zero => exact absurd HA.out (by simp [spec_bkLettersOf.l0])
  | succ k1 =>
   have H := HA.out; clear HA; simp only [spec_bkLettersOf.l0] at H
   by_cases c2 : x4_1 ≤ 122
   ·
    rw [if_pos c2] at H; have c2b0 : decide (x4_1 ≤ 122) = true := decide_eq_true c2; clear c2; replace H := Option.bind_eq_some_iff.mp H; obtain ⟨t101,A30,H⟩ := H; replace H : (if t101 = true then (if x3_1.size + (Utf8.encode (wrap32 (x4_1))).size ≤ 9223372036854775807 then (spec_bkLettersOf.l0 k1 a0 (x3_1 ++ (Utf8.encode (wrap32 (x4_1)))) ((x4_1 + 1) % 256)) else (none)) else (spec_bkLettersOf.l0 k1 a0 x3_1 ((x4_1 + 1) % 256))) = some r := H; have A3 := Aside0.mk A30; clear A30
    by_cases c4 : t101 = true
    ·
     subst c4; have H1 : (if x3_1.size + (Utf8.encode (wrap32 (x4_1))).size ≤ 9223372036854775807 then (spec_bkLettersOf.l0 k1 a0 (x3_1 ++ (Utf8.encode (wrap32 (x4_1)))) ((x4_1 + 1) % 256)) else (none)) = some r := by rw [if_pos rfl] at H; exact H
     clear H; have H := H1; clear H1
     by_cases c5 : x3_1.size + (Utf8.encode (wrap32 (x4_1))).size ≤ 9223372036854775807
     ·
      rw [if_pos c5] at H; have c5b0 := eq_true c5; have c5b1 : decide (x3_1.size + (Utf8.encode (wrap32 (x4_1))).size ≤ 9223372036854775807) = true := decide_eq_true c5; try have c5b2 : (9223372036854775807 < x3_1.size + (Utf8.encode (wrap32 (x4_1))).size) = False := eq_false (Nat.not_lt.2 c5)
      have H' := Aside0.mk H; clear H; go_wp2_with (first | ((with_reducible refine gate_callee (f := 46) rfl ?_); refine goesL_ (some 11) rfl rfl Tryd.func46 (by kernel_rfl) rfl #[.string a0,.int .u8 x4_1] rfl (by (try simp only [List.map_toArray,List.map_cons,List.map_nil]); first | done | rfl | (simp only [List.length_drop,List.length_take]; rfl)) ?_; (with_reducible refine (spec_bkHas.calls k1 a0 x4_1 true _ A3.out).mono ?_); rintro e w' ⟨rfl,⟨nd,rfl⟩⟩; refine ⟨_,rfl,?_⟩; have hcv6 : ∀ W : World,(convert 21 9 (.int .i32 (wrap32 (x4_1)))).run Tryd.prog W = .ok (.string (Utf8.encode (wrap32 (x4_1)))) W := fun W => run_convert_int_string W 21 9 .i32 (wrap32 (x4_1)) (by rw [Tryd.underlying21]; rfl) Tryd.underlying9))
      go_roundg k1
      case measure => have := HK1.out; omega
      case rel => exact ⟨(x3_1 ++ (Utf8.encode (wrap32 (x4_1)))),((x4_1 + 1) % 256),(by first | rfl | (simp; done) | (simp [*]; done)),(by first | rfl | (simp; done) | (simp [*]; done)),H',⟨by have := HK1.out; omega⟩,by repeat (first | exact Drawn0.refl _ | apply Drawn0.step)⟩
     · rw [if_neg c5] at H; exact absurd H (by simp)
    ·
     replace c4 := Bool.eq_false_iff.mpr c4; subst c4; have H1 : (spec_bkLettersOf.l0 k1 a0 x3_1 ((x4_1 + 1) % 256)) = some r := by rw [if_neg (show ¬ (false = true) by decide)] at H; exact H
     clear H; have H := H1; clear H1; have H' := Aside0.mk H; clear H; go_wp2_with (first | ((with_reducible refine gate_callee (f := 46) rfl ?_); refine goesL_ (some 11) rfl rfl Tryd.func46 (by kernel_rfl) rfl #[.string a0,.int .u8 x4_1] rfl (by (try simp only [List.map_toArray,List.map_cons,List.map_nil]); first | done | rfl | (simp only [List.length_drop,List.length_take]; rfl)) ?_; (with_reducible refine (spec_bkHas.calls k1 a0 x4_1 false _ A3.out).mono ?_); rintro e w' ⟨rfl,⟨nd,rfl⟩⟩; refine ⟨_,rfl,?_⟩))
     go_roundg k1
     case measure => have := HK1.out; omega
     case rel => exact ⟨(x3_1),((x4_1 + 1) % 256),(by first | rfl | (simp; done) | (simp [*]; done)),(by first | rfl | (simp; done) | (simp [*]; done)),H',⟨by have := HK1.out; omega⟩,by repeat (first | exact Drawn0.refl _ | apply Drawn0.step)⟩
   ·
    rw [if_neg c2] at H; have c2b0 : decide (x4_1 ≤ 122) = false := decide_eq_false c2; clear c2; obtain rfl := Option.some.inj H; go_wp2
    go_ret
    exact ⟨by first | rfl | (simp; done) | (simp [*]; done),by repeat (first | exact Drawn0.refl _ | apply Drawn0.step)⟩

end Go.Proofs.YtcidlaabbkimdaaDoor.P

namespace Go.Proofs.YtcidlaabbkimdaaDoor
open Go.RowKit Go.Proofs.YtcidlaabbkimdaaDoor.P Go.Proofs.YtcidlaabbkimdaaDoorW.PrintWords
set_option linter.unusedSimpArgs false
set_option linter.unusedVariables false
/-! The letters of a text: its bytes sorted, each once; or those of a to z that are in it. -/
theorem compact_int (t : List Int) (hs : t.Pairwise (· ≤ ·)) : ∀ m : Nat, m ≤ t.length → (Lib.compactUpTo t.toArray m).Pairwise (· < ·) ∧ ∀ z, z ∈ Lib.compactUpTo t.toArray m ↔ z ∈ t.take m
  | 0, _ => by
    unfold Lib.compactUpTo
    exact ⟨List.Pairwise.nil, fun z => by simp⟩
  | m + 1, hm => by
    obtain ⟨i1, i2⟩ := compact_int t hs m (by omega)
    have hlt : m < t.length := by omega
    have eg : t.toArray[m]! = t[m] := by rw [getElem!_pos t.toArray m (by simpa using hlt)]; simp
    have et : t.take (m + 1) = t.take m ++ [t[m]] := by rw [List.take_succ_eq_append_getElem hlt]
    rw [Lib.compactUpTo_succ, eg, et]
    by_cases k : Lib.keeps t.toArray m = true
    · rw [if_pos k]
      refine ⟨?_, fun z => by rw [List.mem_append, List.mem_append, i2]⟩
      rw [List.pairwise_append]
      refine ⟨i1, List.pairwise_singleton _ _, fun a ha b hb => ?_⟩
      rw [List.mem_singleton.1 hb]
      obtain ⟨i, hi, rfl⟩ := List.mem_iff_getElem.1 ((i2 a).1 ha)
      rw [List.length_take] at hi
      rw [List.getElem_take]
      unfold Lib.keeps at k
      rw [decide_eq_true_eq] at k
      have h0 : m ≠ 0 := by omega
      have k' := k.resolve_left h0
      rw [eg, getElem!_pos t.toArray (m - 1) (by simp; omega)] at k'
      have k2 : t[m] ≠ t[m - 1] := by simpa using k'
      have hle : t[m - 1] ≤ t[m] := List.pairwise_iff_getElem.1 hs (m - 1) m (by omega) hlt (by omega)
      rcases Nat.lt_or_ge i (m - 1) with q | q
      · have h3 : t[i] ≤ t[m - 1] := List.pairwise_iff_getElem.1 hs i (m - 1) (by omega) (by omega) q
        omega
      · have e : i = m - 1 := by omega
        subst e
        omega
    · rw [if_neg k, List.append_nil]
      refine ⟨i1, fun z => ?_⟩
      rw [i2, List.mem_append, List.mem_singleton]
      refine ⟨fun h => .inl h, fun h => h.elim id (fun e => ?_)⟩
      unfold Lib.keeps at k
      rw [decide_eq_true_eq, not_or, Decidable.not_not] at k
      obtain ⟨k1, k2⟩ := k
      rw [eg, getElem!_pos t.toArray (m - 1) (by simp; omega)] at k2
      rw [e, k2, List.mem_iff_getElem]
      exact ⟨m - 1, by rw [List.length_take]; omega, by rw [List.getElem_take]; simp⟩
theorem asc_ext : ∀ l m : List Int, l.Pairwise (· < ·) → m.Pairwise (· < ·) → (∀ z, z ∈ l ↔ z ∈ m) → l = m
  | [], [], _, _, _ => rfl
  | [], b :: m, _, _, h => absurd ((h b).2 List.mem_cons_self) List.not_mem_nil
  | a :: l, [], _, _, h => absurd ((h a).1 List.mem_cons_self) List.not_mem_nil
  | a :: l, b :: m, h1, h2, h => by
    have ha := List.pairwise_cons.1 h1
    have hb := List.pairwise_cons.1 h2
    have e : a = b := by
      rcases List.mem_cons.1 ((h a).1 List.mem_cons_self) with e | e
      · exact e
      · rcases List.mem_cons.1 ((h b).2 List.mem_cons_self) with e2 | e2
        · exact e2.symm
        · have := hb.1 a e; have := ha.1 b e2; omega
    subst e
    rw [asc_ext l m ha.2 hb.2 (fun z => ⟨fun q => ?_, fun q => ?_⟩)]
    · rcases List.mem_cons.1 ((h z).1 (List.mem_cons_of_mem _ q)) with e | e
      · have := ha.1 z q; omega
      · exact e
    · rcases List.mem_cons.1 ((h z).2 (List.mem_cons_of_mem _ q)) with e | e
      · have := hb.1 z q; omega
      · exact e
/-- Those of a to z that are in it. -/
def letL (l : List UInt8) : List UInt8 := ((List.range' 97 26).map UInt8.ofNat).filter (l.contains ·)
theorem low_mem (c : UInt8) (h : isLow c = true) : c ∈ (List.range' 97 26).map UInt8.ofNat :=
  u8_all (fun c => isLow c = true → c ∈ (List.range' 97 26).map UInt8.ofNat) (by decide +kernel) c h
theorem letL_mem (l : List UInt8) (hl : l.all isLow = true) (c : UInt8) : c ∈ letL l ↔ c ∈ l := by
  unfold letL
  rw [List.mem_filter, List.contains_iff_mem]
  exact ⟨fun h => h.2, fun h => ⟨low_mem c (List.all_eq_true.1 hl c h), h⟩⟩
theorem letL_asc (l : List UInt8) : ((letL l).map fun b => (b.toNat : Int)).Pairwise (· < ·) := by
  rw [List.pairwise_map]
  have h : ((List.range' 97 26).map UInt8.ofNat).Pairwise (fun a b => (a.toNat : Int) < (b.toNat : Int)) := by decide +kernel
  exact h.sublist List.filter_sublist
theorem back_map (l : List UInt8) : (l.map fun b => (b.toNat : Int)).map (fun x => UInt8.ofNat x.toNat) = l := by
  rw [List.map_map]
  have : ((fun x : Int => UInt8.ofNat x.toNat) ∘ fun b : UInt8 => (b.toNat : Int)) = id := by
    funext b; exact of_toNat b
  rw [this, List.map_id]
/-- The text of its letters. -/
def letS (s : ByteArray) : ByteArray := ⟨(letL (bl s)).toArray⟩
theorem bl_letS (s : ByteArray) : bl (letS s) = letL (bl s) := by unfold letS; rw [bl_mk, List.toList_toArray]
theorem lettersOf_ev (s : ByteArray) (hs : s.size ≤ 20) (hl : (bl s).all isLow = true) : Ev (fun k => impl_lettersOf.f k s) (letS s) := by
  have hlb : (bytesOf s).length = s.size := by unfold bytesOf; rw [List.length_map]; rfl
  have hbo : bytesOf s = (bl s).map fun b => (b.toNat : Int) := rfl
  have t3 := sortB_ev (bytesOf s) (by omega)
  have t1 : ((bytesOf s).mergeSort fun x y => decide (x ≤ y)).Perm (bytesOf s) := List.mergeSort_perm _ _
  have t2 : ((bytesOf s).mergeSort fun x y => decide (x ≤ y)).Pairwise (· ≤ ·) := by
    refine (List.pairwise_mergeSort (le := fun x y : Int => decide (x ≤ y)) (fun a b c h1 h2 => ?_) (fun a b => ?_) (bytesOf s)).imp (fun h => of_decide_eq_true h)
    · have := of_decide_eq_true h1; have := of_decide_eq_true h2; exact decide_eq_true (by omega)
    · rcases Int.le_total a b with q | q
      · rw [decide_eq_true q]; rfl
      · rw [decide_eq_true q, Bool.or_true]
  generalize ((bytesOf s).mergeSort fun x y => decide (x ≤ y)) = t at t1 t2 t3
  have hlen : t.length = s.size := by rw [t1.length_eq, hlb]
  have hall : ∀ x ∈ t, 0 ≤ x ∧ x < 256 := by
    intro x hx
    have := t1.mem_iff.1 hx
    rw [hbo, List.mem_map] at this
    obtain ⟨b, _, rfl⟩ := this
    have := b.toNat_lt
    omega
  obtain ⟨c1, c2⟩ := compact_int t t2 t.length (Nat.le_refl _)
  have e : Lib.compactUpTo t.toArray t.length = (letL (bl s)).map fun b => (b.toNat : Int) := by
    refine asc_ext _ _ c1 (letL_asc _) (fun z => ?_)
    rw [c2, List.take_length, t1.mem_iff, hbo, List.mem_map, List.mem_map]
    constructor
    · rintro ⟨b, hb, rfl⟩; exact ⟨b, (letL_mem _ hl b).2 hb, rfl⟩
    · rintro ⟨b, hb, rfl⟩; exact ⟨b, (letL_mem _ hl b).1 hb, rfl⟩
  unfold impl_lettersOf.f
  refine Ev.bind t3 (Ev.const ?_)
  rw [if_pos ⟨hlen, by omega, by rw [List.all_eq_true]; intro x hx; simpa using hall x hx⟩, e, back_map]
  rfl
/-! ### the reference -/
theorem bkHas_l0 (s : ByteArray) (c : UInt8) (hs : s.size ≤ 1000000) : ∀ d i : Nat, i + d = s.size → Ev (fun k => spec_bkHas.l0 k s (c.toNat : Int) (i : Int)) (((bl s).drop i).contains c)
  | 0, i, hi => by
    apply Ev.succ; simp only [spec_bkHas.l0]
    refine Ev.neg (by omega) (Ev.const ?_)
    rw [List.drop_of_length_le (by rw [← bl_len]; omega)]; rfl
  | d + 1, i, hi => by
    have hlt : i < (bl s).length := by rw [← bl_len]; omega
    apply Ev.succ; simp only [spec_bkHas.l0]
    refine Ev.pos (by omega) (Ev.pos (by omega) ?_)
    rw [wrap_id (by omega) (by omega), bt_nat s i hlt, List.drop_eq_getElem_cons hlt, List.contains_cons]
    by_cases q : (bl s)[i] = c
    · refine Ev.pos (by rw [q]) (Ev.const ?_)
      rw [q]; simp
    · refine Ev.neg (fun h => q ((byte_eq _ _).1 h)) ?_
      rw [show (c == (bl s)[i]) = false by simpa using fun h => q h.symm, Bool.false_or]
      exact_mod_cast bkHas_l0 s c hs d (i + 1) (by omega)
theorem bkHas_ev (s : ByteArray) (c : UInt8) (hs : s.size ≤ 1000000) : Ev (fun k => spec_bkHas.f k s (c.toNat : Int)) ((bl s).contains c) := bkHas_l0 s c hs s.size 0 (by omega)
theorem enc_low : ∀ c : Nat, c < 123 → 97 ≤ c → Utf8.encode (wrap32 (c : Int)) = ⟨#[UInt8.ofNat c]⟩ := by decide +kernel
theorem bkL_l0 (s : ByteArray) (hs : s.size ≤ 1000000) : ∀ (d c : Nat) (x : ByteArray), c + d = 123 → 97 ≤ c → x.size ≤ c → ∃ r, Ev (fun k => spec_bkLettersOf.l0 k s x (c : Int)) r ∧ bl r = bl x ++ ((List.range' c d).map UInt8.ofNat).filter ((bl s).contains ·)
  | 0, c, x, hc, h97, hx => by
    refine ⟨x, ?_, by simp⟩
    apply Ev.succ; simp only [spec_bkLettersOf.l0]
    exact Ev.neg (by omega) (Ev.now _)
  | d + 1, c, x, hc, h97, hx => by
    have hb := bkHas_ev s (UInt8.ofNat c) hs
    rw [show (((UInt8.ofNat c).toNat : Nat) : Int) = (c : Int) by rw [show (UInt8.ofNat c).toNat = c from by simp; omega]] at hb
    have en : ((c : Int) + 1) % 256 = ((c + 1 : Nat) : Int) := by omega
    rw [List.range'_succ, List.map_cons, List.filter_cons]
    cases q : (bl s).contains (UInt8.ofNat c) with
    | true =>
      have hz : (x ++ (⟨#[UInt8.ofNat c]⟩ : ByteArray)).size = x.size + 1 := by rw [ByteArray.size_append]; rfl
      obtain ⟨r, r1, r2⟩ := bkL_l0 s hs d (c + 1) (x ++ ⟨#[UInt8.ofNat c]⟩) (by omega) (by omega) (by omega)
      refine ⟨r, ?_, by rw [r2, bl_append, if_pos rfl, List.append_assoc]; rfl⟩
      apply Ev.succ; simp only [spec_bkLettersOf.l0, en, enc_low c (by omega) h97]
      refine Ev.pos (by omega) (Ev.bind hb ?_)
      rw [q]
      exact Ev.yes (Ev.pos (by show x.size + 1 ≤ _; omega) r1)
    | false =>
      obtain ⟨r, r1, r2⟩ := bkL_l0 s hs d (c + 1) x (by omega) (by omega) (by omega)
      refine ⟨r, ?_, by rw [r2, if_neg (by decide)]⟩
      apply Ev.succ; simp only [spec_bkLettersOf.l0, en]
      refine Ev.pos (by omega) (Ev.bind hb ?_)
      rw [q]
      exact Ev.no r1
theorem bkLettersOf_ev (s : ByteArray) (hs : s.size ≤ 1000000) : Ev (fun k => spec_bkLettersOf.f k s) (letS s) := by
  obtain ⟨r, r1, r2⟩ := bkL_l0 s hs 26 97 ⟨#[]⟩ rfl (Nat.le_refl _) (by show 0 ≤ 97; omega)
  have e : r = letS s := bl_inj (by rw [r2, bl_letS, bl_empty]; rfl)
  rw [← e]
  exact r1
end Go.Proofs.YtcidlaabbkimdaaDoor

namespace Go.Proofs.YtcidlaabbkimdaaDoor
open Go.RowKit Go.Proofs.YtcidlaabbkimdaaDoor.P Go.Proofs.YtcidlaabbkimdaaDoorW.PrintWords
set_option linter.unusedSimpArgs false
set_option linter.unusedVariables false
/-! What keys are broken: by counts of letters. -/
def i8 (c : UInt8) : Int := (c.toNat : Int)
def deadB (b : List UInt8) (c : UInt8) : Bool := b.count c == 0
def stuckB (a b : List UInt8) (c : UInt8) : Bool := !(b.count c == 0) && b.count c == 2 * a.count c
theorem nums_map (l : List UInt8) : bl (strOfNums (l.map i8)) = l := by
  rw [bl_nums, List.map_map]
  have : ((fun n : Int => UInt8.ofNat n.toNat) ∘ i8) = id := by funext b; exact of_toNat b
  rw [this, List.map_id]
theorem count_one (s : ByteArray) (c : UInt8) : strings_Count.f s (strOfNums [i8 c]) = some (((bl s).count c : Nat) : Int) := by
  unfold strings_Count.f
  have e : (strOfNums [i8 c]).data.toList = [c] := nums_map [c]
  have hz : (strOfNums [i8 c]).size = 1 := by rw [bl_len]; unfold bl; rw [e]; rfl
  rw [if_pos hz, e]
  rfl
theorem wN2 (n : Nat) (h : n ≤ 1000000) : wrap64 (2 * (n : Int)) = ((2 * n : Nat) : Int) := by rw [wrap_id (by omega) (by omega)]; omega
theorem w1 (i : Nat) (h : i ≤ 1000000) : wrap64 ((i : Int) + 1) = ((i + 1 : Nat) : Int) := by rw [wrap_id (by omega) (by omega)]; omega
theorem broken_l0 (a b : ByteArray) (ha : a.size ≤ 1000) (hb : b.size ≤ 1000) (L : List UInt8) (hL : L.length ≤ 1000) : ∀ (d i : Nat) (x y : List UInt8), i + d = L.length → x.length ≤ i → y.length ≤ i →
    Ev (fun k => impl_brokenFor.l0 k a b (x.map i8) (y.map i8) (L.map i8) (((L.map i8).length : Nat) : Int) (i : Int)) (strOfNums ((x ++ (L.drop i).filter (deadB (bl b))).map i8), strOfNums ((y ++ (L.drop i).filter (stuckB (bl a) (bl b))).map i8))
  | 0, i, x, y, hi, hx, hy => by
    rw [List.drop_of_length_le (by omega), List.filter_nil, List.filter_nil, List.append_nil, List.append_nil]
    apply Ev.succ; simp only [impl_brokenFor.l0]
    exact Ev.neg (by rw [List.length_map]; omega) (Ev.now _)
  | d + 1, i, x, y, hi, hx, hy => by
    have hlt : i < L.length := by omega
    have hrd : rd (L.map i8) (i : Int) = i8 L[i] := by rw [rd_nat _ _ (by rw [List.length_map]; exact hlt), List.getElem_map]
    have hca : (bl a).count L[i] ≤ 1000000 := by have := List.count_le_length (a := L[i]) (l := bl a); rw [← bl_len] at this; omega
    rw [List.drop_eq_getElem_cons hlt, List.filter_cons, List.filter_cons]
    apply Ev.succ; simp only [impl_brokenFor.l0, hrd]
    refine Ev.pos (by rw [List.length_map]; omega) (Ev.pos (by omega) (Ev.pos (by rw [List.length_map]; omega) (Ev.bindc rfl (Ev.bindc (count_one b L[i]) ?_))))
    rw [w1 i (by omega)]
    by_cases c : (bl b).count L[i] = 0
    · have e1 : deadB (bl b) L[i] = true := by unfold deadB; rw [c]; rfl
      have e2 : stuckB (bl a) (bl b) L[i] = false := by unfold stuckB; rw [c]; rfl
      rw [e1, e2, if_pos rfl, if_neg (by decide)]
      refine Ev.pos (by omega) (Ev.pos (by rw [List.length_map]; omega) ?_)
      have ih := broken_l0 a b ha hb L hL d (i + 1) (x ++ [L[i]]) y (by omega) (by rw [List.length_append, List.length_singleton]; omega) (by omega)
      rw [List.map_append, List.append_assoc] at ih
      exact ih
    · have e1 : deadB (bl b) L[i] = false := by unfold deadB; exact beq_false_of_ne c
      rw [e1, if_neg (by decide)]
      refine Ev.neg (by omega) (Ev.bindc (count_one a L[i]) ?_)
      rw [wN2 _ hca]
      by_cases c2 : (bl b).count L[i] = 2 * (bl a).count L[i]
      · have e2 : stuckB (bl a) (bl b) L[i] = true := by unfold stuckB; rw [beq_false_of_ne c, c2]; simp
        rw [e2, if_pos rfl]
        refine Ev.pos (by omega) (Ev.pos (by rw [List.length_map]; omega) ?_)
        have ih := broken_l0 a b ha hb L hL d (i + 1) x (y ++ [L[i]]) (by omega) (by omega) (by rw [List.length_append, List.length_singleton]; omega)
        rw [List.map_append, List.append_assoc] at ih
        exact ih
      · have e2 : stuckB (bl a) (bl b) L[i] = false := by unfold stuckB; rw [beq_false_of_ne c, beq_false_of_ne c2]; rfl
        rw [e2, if_neg (by decide)]
        exact Ev.neg (by omega) (broken_l0 a b ha hb L hL d (i + 1) x y (by omega) (by omega) (by omega))
/-- The letters of a text with a property. -/
def letF (l : List UInt8) (p : UInt8 → Bool) : ByteArray := ⟨((letL l).filter p).toArray⟩
theorem bl_letF (l : List UInt8) (p : UInt8 → Bool) : bl (letF l p) = (letL l).filter p := by unfold letF; rw [bl_mk, List.toList_toArray]
theorem letL_len (l : List UInt8) : (letL l).length ≤ 26 := by
  unfold letL
  exact Nat.le_trans (List.length_filter_le _ _) (by rw [List.length_map, List.length_range']; exact Nat.le_refl _)
theorem brokenFor_ev (a b : ByteArray) (ha : a.size ≤ 20) (hl : (bl a).all isLow = true) (hb : b.size ≤ 1000) : Ev (fun k => impl_brokenFor.f k a b) (letF (bl a) (deadB (bl b)), letF (bl a) (stuckB (bl a) (bl b))) := by
  unfold impl_brokenFor.f
  have hz : (letS a).size ≤ 26 := by rw [bl_len, bl_letS]; exact letL_len _
  refine Ev.bind (lettersOf_ev a ha hl) (Ev.pos (by omega) (Ev.bindc rfl ?_))
  have e : bytesOf (letS a) = (letL (bl a)).map i8 := by rw [← bl_letS]; rfl
  rw [e]
  have h := broken_l0 a b (by omega) hb (letL (bl a)) (by have := letL_len (bl a); omega) (letL (bl a)).length 0 [] [] (by omega) (Nat.zero_le _) (Nat.zero_le _)
  rw [List.drop_zero, List.nil_append, List.nil_append] at h
  rw [show letF (bl a) (deadB (bl b)) = strOfNums (((letL (bl a)).filter (deadB (bl b))).map i8) from bl_inj (by rw [nums_map, bl_letF]), show letF (bl a) (stuckB (bl a) (bl b)) = strOfNums (((letL (bl a)).filter (stuckB (bl a) (bl b))).map i8) from bl_inj (by rw [nums_map, bl_letF])]
  exact h
/-! ### the reference tells the same -/
theorem tell_l2 (a b x y : ByteArray) (c : UInt8) (n : Nat) (hb : b.size ≤ 1000) (r : ByteArray × ByteArray) : ∀ d i m : Nat, i + d = b.size → m ≤ i →
    Ev (fun k => if ((n : Nat) : Int) > 0 then (spec_bkTell.j3 k a b x y (c.toNat : Int) (n : Int) ((m + ((bl b).drop i).count c : Nat) : Int) (((m + ((bl b).drop i).count c : Nat) : Int) == 0)) else (spec_bkTell.j3 k a b x y (c.toNat : Int) (n : Int) ((m + ((bl b).drop i).count c : Nat) : Int) false)) r →
    Ev (fun k => spec_bkTell.l2 k a b x y (c.toNat : Int) (n : Int) (m : Int) (i : Int)) r
  | 0, i, m, hi, hm, h => by
    rw [List.drop_of_length_le (by rw [← bl_len]; omega), List.count_nil, Nat.add_zero] at h
    apply Ev.succ; simp only [spec_bkTell.l2]
    exact Ev.neg (by omega) h
  | d + 1, i, m, hi, hm, h => by
    have hlt : i < (bl b).length := by rw [← bl_len]; omega
    rw [List.drop_eq_getElem_cons hlt] at h
    apply Ev.succ; simp only [spec_bkTell.l2]
    refine Ev.pos (by omega) (Ev.pos (by omega) ?_)
    rw [bt_nat b i hlt, w1 i (by omega), w1 m (by omega)]
    by_cases q : (bl b)[i] = c
    · refine Ev.pos (by rw [q]) ?_
      rw [q, List.count_cons_self, show m + (((bl b).drop (i + 1)).count c + 1) = (m + 1) + ((bl b).drop (i + 1)).count c by omega] at h
      exact tell_l2 a b x y c n hb r d (i + 1) (m + 1) (by omega) (by omega) h
    · refine Ev.neg (fun h => q ((byte_eq _ _).1 h)) ?_
      rw [List.count_cons_of_ne q] at h
      exact tell_l2 a b x y c n hb r d (i + 1) m (by omega) (by omega) h
theorem tell_l1 (a b x y : ByteArray) (c : UInt8) (ha : a.size ≤ 1000) (r : ByteArray × ByteArray) : ∀ d i n : Nat, i + d = a.size → n ≤ i →
    Ev (fun k => spec_bkTell.l2 k a b x y (c.toNat : Int) ((n + ((bl a).drop i).count c : Nat) : Int) 0 0) r →
    Ev (fun k => spec_bkTell.l1 k a b x y (c.toNat : Int) (n : Int) 0 (i : Int)) r
  | 0, i, n, hi, hn, h => by
    rw [List.drop_of_length_le (by rw [← bl_len]; omega), List.count_nil, Nat.add_zero] at h
    apply Ev.succ; simp only [spec_bkTell.l1]
    exact Ev.neg (by omega) h
  | d + 1, i, n, hi, hn, h => by
    have hlt : i < (bl a).length := by rw [← bl_len]; omega
    rw [List.drop_eq_getElem_cons hlt] at h
    apply Ev.succ; simp only [spec_bkTell.l1]
    refine Ev.pos (by omega) (Ev.pos (by omega) ?_)
    rw [bt_nat a i hlt, w1 i (by omega), w1 n (by omega)]
    by_cases q : (bl a)[i] = c
    · refine Ev.pos (by rw [q]) ?_
      rw [q, List.count_cons_self, show n + (((bl a).drop (i + 1)).count c + 1) = (n + 1) + ((bl a).drop (i + 1)).count c by omega] at h
      exact tell_l1 a b x y c ha r d (i + 1) (n + 1) (by omega) (by omega) h
    · refine Ev.neg (fun h => q ((byte_eq _ _).1 h)) ?_
      rw [List.count_cons_of_ne q] at h
      exact tell_l1 a b x y c ha r d (i + 1) n (by omega) (by omega) h
theorem tell_l0 (a b : ByteArray) (ha : a.size ≤ 1000) (hb : b.size ≤ 1000) : ∀ (d c : Nat) (x y : ByteArray), c + d = 123 → 97 ≤ c → x.size ≤ c → y.size ≤ c → ∃ r : ByteArray × ByteArray, Ev (fun k => spec_bkTell.l0 k a b x y (c : Int)) r ∧
    bl r.1 = bl x ++ (((List.range' c d).map UInt8.ofNat).filter ((bl a).contains ·)).filter (deadB (bl b)) ∧ bl r.2 = bl y ++ (((List.range' c d).map UInt8.ofNat).filter ((bl a).contains ·)).filter (stuckB (bl a) (bl b))
  | 0, c, x, y, hc, h97, hx, hy => by
    refine ⟨(x, y), ?_, by simp, by simp⟩
    apply Ev.succ; simp only [spec_bkTell.l0]
    exact Ev.neg (by omega) (Ev.now _)
  | d + 1, c, x, y, hc, h97, hx, hy => by
    have en : ((c : Int) + 1) % 256 = ((c + 1 : Nat) : Int) := by omega
    have ec : (((UInt8.ofNat c).toNat : Nat) : Int) = (c : Int) := by rw [show (UInt8.ofNat c).toNat = c from by simp; omega]
    have hz : ∀ z : ByteArray, (z ++ (⟨#[UInt8.ofNat c]⟩ : ByteArray)).size = z.size + 1 := fun z => by rw [ByteArray.size_append]; rfl
    have el := enc_low c (by omega) h97
    have hca : (bl a).count (UInt8.ofNat c) ≤ 1000000 := by have := List.count_le_length (a := UInt8.ofNat c) (l := bl a); rw [← bl_len] at this; omega
    -- what the round comes to
    have key : ∀ r, Ev (fun k => if (((bl a).count (UInt8.ofNat c) : Nat) : Int) > 0 then (spec_bkTell.j3 k a b x y (c : Int) (((bl a).count (UInt8.ofNat c) : Nat) : Int) (((bl b).count (UInt8.ofNat c) : Nat) : Int) ((((bl b).count (UInt8.ofNat c) : Nat) : Int) == 0)) else (spec_bkTell.j3 k a b x y (c : Int) (((bl a).count (UInt8.ofNat c) : Nat) : Int) (((bl b).count (UInt8.ofNat c) : Nat) : Int) false)) r → Ev (fun k => spec_bkTell.l0 k a b x y (c : Int)) r := by
      intro r h
      apply Ev.succ; simp only [spec_bkTell.l0]
      refine Ev.pos (by omega) ?_
      rw [← ec] at h ⊢
      refine tell_l1 a b x y (UInt8.ofNat c) ha r a.size 0 0 (by omega) (Nat.le_refl _) ?_
      refine tell_l2 a b x y (UInt8.ofNat c) _ hb r b.size 0 0 (by omega) (Nat.le_refl _) ?_
      rw [List.drop_zero, List.drop_zero, Nat.zero_add, Nat.zero_add]
      exact h
    rw [List.range'_succ, List.map_cons, List.filter_cons]
    generalize hn : (bl a).count (UInt8.ofNat c) = n at key hca
    generalize hm : (bl b).count (UInt8.ofNat c) = m at key
    by_cases q : 0 < n
    · have hcon : (bl a).contains (UInt8.ofNat c) = true := by rw [List.contains_iff_mem]; exact List.count_pos_iff.1 (by rw [hn]; exact q)
      rw [if_pos hcon, List.filter_cons, List.filter_cons]
      by_cases q0 : m = 0
      · have e1 : deadB (bl b) (UInt8.ofNat c) = true := by unfold deadB; rw [hm, q0]; rfl
        have e2 : stuckB (bl a) (bl b) (UInt8.ofNat c) = false := by unfold stuckB; rw [hm, q0]; rfl
        rw [e1, e2, if_pos rfl, if_neg (by decide)]
        obtain ⟨r, r1, r2, r3⟩ := tell_l0 a b ha hb d (c + 1) (x ++ ⟨#[UInt8.ofNat c]⟩) y (by omega) (by omega) (by have := hz x; omega) (by omega)
        refine ⟨r, key r (Ev.pos (by omega) ?_), by rw [r2, bl_append, List.append_assoc]; rfl, r3⟩
        apply Ev.succ; simp only [spec_bkTell.j3, en, el]
        exact Ev.pos (by rw [q0]; rfl) (Ev.pos (by show x.size + 1 ≤ _; omega) r1)
      · have e1 : deadB (bl b) (UInt8.ofNat c) = false := by unfold deadB; rw [hm]; exact beq_false_of_ne q0
        rw [e1, if_neg (by decide)]
        by_cases q1 : m = 2 * n
        · have e2 : stuckB (bl a) (bl b) (UInt8.ofNat c) = true := by unfold stuckB; rw [hm, hn, beq_false_of_ne q0, q1]; simp
          rw [e2, if_pos rfl]
          obtain ⟨r, r1, r2, r3⟩ := tell_l0 a b ha hb d (c + 1) x (y ++ ⟨#[UInt8.ofNat c]⟩) (by omega) (by omega) (by omega) (by have := hz y; omega)
          refine ⟨r, key r (Ev.pos (by omega) ?_), r2, by rw [r3, bl_append, List.append_assoc]; rfl⟩
          apply Ev.succ; simp only [spec_bkTell.j3, en, el]
          rw [wN2 n hca]
          exact Ev.neg (by simp; omega) (Ev.pos (by omega) (Ev.pos (by omega) (Ev.pos (by show y.size + 1 ≤ _; omega) r1)))
        · have e2 : stuckB (bl a) (bl b) (UInt8.ofNat c) = false := by unfold stuckB; rw [hm, hn, beq_false_of_ne q1, Bool.and_false]
          rw [e2, if_neg (by decide)]
          obtain ⟨r, r1, r2, r3⟩ := tell_l0 a b ha hb d (c + 1) x y (by omega) (by omega) (by omega) (by omega)
          refine ⟨r, key r (Ev.pos (by omega) ?_), r2, r3⟩
          apply Ev.succ; simp only [spec_bkTell.j3, en, el]
          rw [wN2 n hca]
          exact Ev.neg (by simp; omega) (Ev.pos (by omega) (Ev.neg (by omega) r1))
    · have hcon : ¬ (bl a).contains (UInt8.ofNat c) = true := by rw [List.contains_iff_mem]; intro h; have := List.count_pos_iff.2 h; omega
      rw [if_neg hcon]
      obtain ⟨r, r1, r2, r3⟩ := tell_l0 a b ha hb d (c + 1) x y (by omega) (by omega) (by omega) (by omega)
      refine ⟨r, key r (Ev.neg (by omega) ?_), r2, r3⟩
      apply Ev.succ; simp only [spec_bkTell.j3, en, el]
      exact Ev.neg (by decide) (Ev.neg (by omega) r1)
theorem bkTell_ev (a b : ByteArray) (ha : a.size ≤ 1000) (hb : b.size ≤ 1000) : Ev (fun k => spec_bkTell.f k a b) (letF (bl a) (deadB (bl b)), letF (bl a) (stuckB (bl a) (bl b))) := by
  obtain ⟨r, r1, r2, r3⟩ := tell_l0 a b ha hb 26 97 ⟨#[]⟩ ⟨#[]⟩ rfl (Nat.le_refl _) (by show 0 ≤ 97; omega) (by show 0 ≤ 97; omega)
  have e : r = (letF (bl a) (deadB (bl b)), letF (bl a) (stuckB (bl a) (bl b))) := Prod.ext (bl_inj (by rw [r2, bl_letF, bl_empty]; rfl)) (bl_inj (by rw [r3, bl_letF, bl_empty]; rfl))
  rw [← e]
  exact r1
/-! ### what is shown -/
def shw (d s : List UInt8) (c : UInt8) : List UInt8 := if d.contains c then [] else if s.contains c then [c, c] else [c]
theorem shw_len (d s : List UInt8) (l : List UInt8) : (l.flatMap (shw d s)).length ≤ 2 * l.length := by
  induction l with
  | nil => simp
  | cons c l ih =>
    rw [List.flatMap_cons, List.length_append, List.length_cons]
    have : (shw d s c).length ≤ 2 := by
      unfold shw
      cases d.contains c <;> cases s.contains c <;> simp
    omega
theorem ib_neg (s : ByteArray) (t : Int) (c : UInt8) (h : strings_IndexByte.f s (i8 c) = some t) : (t < 0 ↔ (bl s).contains c = false) := by
  unfold strings_IndexByte.f at h
  have ec : (i8 c).toNat.toUInt8 = c := of_toNat c
  rw [ec] at h
  obtain rfl := Option.some.inj h
  rw [show s.data.toList = bl s from rfl, indexByte_neg]
  simp
theorem shown_l0 (a dd ss : ByteArray) (ha : a.size ≤ 1000) (hdis : ∀ c, (bl dd).contains c = true → (bl ss).contains c = false) : ∀ (d i : Nat) (x : List UInt8), i + d = a.size → x.length ≤ 2 * i →
    Ev (fun k => impl_shownText.l0 k a dd ss (x.map i8) (a.size : Int) (i : Int)) (strOfNums ((x ++ ((bl a).drop i).flatMap (shw (bl dd) (bl ss))).map i8))
  | 0, i, x, hi, hx => by
    rw [List.drop_of_length_le (by rw [← bl_len]; omega), List.flatMap_nil, List.append_nil]
    apply Ev.succ; simp only [impl_shownText.l0]
    exact Ev.neg (by omega) (Ev.now _)
  | d + 1, i, x, hi, hx => by
    have hlt : i < (bl a).length := by rw [← bl_len]; omega
    have hb : bt a (i : Int) = i8 (bl a)[i] := bt_nat a i hlt
    rw [List.drop_eq_getElem_cons hlt, List.flatMap_cons]
    generalize hc : (bl a)[i] = c at hb
    apply Ev.succ; simp only [impl_shownText.l0, hb, w1 i (by omega)]
    obtain ⟨t1, h1⟩ : ∃ t, strings_IndexByte.f dd (i8 c) = some t := ⟨_, rfl⟩
    obtain ⟨t2, h2⟩ : ∃ t, strings_IndexByte.f ss (i8 c) = some t := ⟨_, rfl⟩
    have n1 := ib_neg dd t1 c h1
    have n2 := ib_neg ss t2 c h2
    refine Ev.pos (by omega) (Ev.pos (by omega) (Ev.pos (by omega) (Ev.bindc h1 ?_)))
    unfold shw
    by_cases q1 : t1 < 0
    · rw [n1.1 q1, if_neg (by decide)]
      refine Ev.pos q1 (Ev.pos (by rw [List.length_map]; omega) (Ev.bindc rfl (Ev.bindc h2 ?_)))
      by_cases q2 : t2 < 0
      · rw [n2.1 q2, if_neg (by decide)]
        refine Ev.neg (by omega) ?_
        have ih := shown_l0 a dd ss ha hdis d (i + 1) (x ++ [c]) (by omega) (by rw [List.length_append, List.length_singleton]; omega)
        rw [List.map_append, List.append_assoc] at ih
        exact ih
      · have q3 : (bl ss).contains c = true := by
          cases z : (bl ss).contains c with
          | true => rfl
          | false => exact absurd (n2.2 z) q2
        rw [q3, if_pos rfl]
        refine Ev.pos (by omega) (Ev.pos (by rw [List.length_append, List.length_map, List.length_singleton]; omega) ?_)
        have ih := shown_l0 a dd ss ha hdis d (i + 1) (x ++ [c] ++ [c]) (by omega) (by rw [List.length_append, List.length_append, List.length_singleton]; omega)
        rw [show x ++ [c] ++ [c] ++ ((bl a).drop (i + 1)).flatMap (shw (bl dd) (bl ss)) = x ++ ([c, c] ++ ((bl a).drop (i + 1)).flatMap (shw (bl dd) (bl ss))) by simp, List.map_append, List.map_append] at ih
        exact ih
    · have q3 : (bl dd).contains c = true := by
        cases z : (bl dd).contains c with
        | true => rfl
        | false => exact absurd (n1.2 z) q1
      have q4 := n2.2 (hdis c q3)
      rw [q3, if_pos rfl, List.nil_append]
      exact Ev.neg q1 (Ev.bindc h2 (Ev.neg (by omega) (shown_l0 a dd ss ha hdis d (i + 1) x (by omega) (by omega))))
/-- What is shown. -/
def shwS (a dd ss : ByteArray) : ByteArray := ⟨((bl a).flatMap (shw (bl dd) (bl ss))).toArray⟩
theorem bl_shwS (a dd ss : ByteArray) : bl (shwS a dd ss) = (bl a).flatMap (shw (bl dd) (bl ss)) := by unfold shwS; rw [bl_mk, List.toList_toArray]
theorem shown_ev (a dd ss : ByteArray) (ha : a.size ≤ 1000) (hdis : ∀ c, (bl dd).contains c = true → (bl ss).contains c = false) : Ev (fun k => impl_shownText.f k a dd ss) (shwS a dd ss) := by
  have h := shown_l0 a dd ss ha hdis a.size 0 [] (by omega) (Nat.zero_le _)
  rw [List.drop_zero, List.nil_append] at h
  rw [show shwS a dd ss = strOfNums (((bl a).flatMap (shw (bl dd) (bl ss))).map i8) from bl_inj (by rw [nums_map, bl_shwS])]
  exact h
theorem bkShow_l0 (a dd ss : ByteArray) (ha : a.size ≤ 1000) (hd : dd.size ≤ 1000000) (hs : ss.size ≤ 1000000) : ∀ (d i : Nat) (x : ByteArray), i + d = a.size → x.size ≤ 2 * i → ∃ r, Ev (fun k => spec_bkShow.l0 k a dd ss x (i : Int)) r ∧ bl r = bl x ++ ((bl a).drop i).flatMap (shw (bl dd) (bl ss))
  | 0, i, x, hi, hx => by
    refine ⟨x, ?_, by rw [List.drop_of_length_le (by rw [← bl_len]; omega), List.flatMap_nil, List.append_nil]⟩
    apply Ev.succ; simp only [spec_bkShow.l0]
    exact Ev.neg (by omega) (Ev.now _)
  | d + 1, i, x, hi, hx => by
    have hlt : i < (bl a).length := by rw [← bl_len]; omega
    have hb : bt a (i : Int) = (((bl a)[i].toNat : Nat) : Int) := bt_nat a i hlt
    have hex : bl (a.extract i (i + 1)) = [(bl a)[i]] := by
      rw [bl_extract, List.drop_eq_getElem_cons hlt, show i + 1 - i = 1 by omega]; rfl
    have hxs : (a.extract i (i + 1)).size = 1 := by rw [bl_len, hex]; rfl
    rw [List.drop_eq_getElem_cons hlt, List.flatMap_cons]
    have h1 := bkHas_ev dd (bl a)[i] hd
    have h2 := bkHas_ev ss (bl a)[i] hs
    have hstep : ∀ (x' : ByteArray) (q : List UInt8), bl x' = bl x ++ q → q.length ≤ 2 → ∃ r, Ev (fun k => spec_bkShow.l0 k a dd ss x' ((i + 1 : Nat) : Int)) r ∧ bl r = bl x ++ (q ++ ((bl a).drop (i + 1)).flatMap (shw (bl dd) (bl ss))) := by
      intro x' q hq hl
      obtain ⟨r, r1, r2⟩ := bkShow_l0 a dd ss ha hd hs d (i + 1) x' (by omega) (by rw [bl_len, hq, List.length_append, ← bl_len]; omega)
      exact ⟨r, r1, by rw [r2, hq, List.append_assoc]⟩
    unfold shw
    cases q1 : (bl dd).contains (bl a)[i] with
    | true =>
      rw [if_pos rfl]
      obtain ⟨r, r1, r2⟩ := hstep x [] (by rw [List.append_nil]) (by simp)
      refine ⟨r, ?_, r2⟩
      apply Ev.succ; simp only [spec_bkShow.l0, hb, w1 i (by omega)]
      refine Ev.pos (by omega) (Ev.pos (by omega) (Ev.pos (by omega) (Ev.pos (by omega) (Ev.bind h1 ?_))))
      rw [q1]
      exact Ev.yes r1
    | false =>
      rw [if_neg (by decide)]
      cases q2 : (bl ss).contains (bl a)[i] with
      | true =>
        rw [if_pos rfl]
        obtain ⟨r, r1, r2⟩ := hstep (x ++ (a.extract i (i + 1) ++ a.extract i (i + 1))) [(bl a)[i], (bl a)[i]] (by rw [bl_append, bl_append, hex]; rfl) (by simp)
        refine ⟨r, ?_, r2⟩
        apply Ev.succ; simp only [spec_bkShow.l0, hb, w1 i (by omega), Int.toNat_natCast]
        refine Ev.pos (by omega) (Ev.pos (by omega) (Ev.pos (by omega) (Ev.pos (by omega) (Ev.bind h1 ?_))))
        rw [q1]
        refine Ev.no (Ev.bind h2 ?_)
        rw [q2]
        exact Ev.yes (Ev.pos (by rw [hxs]; omega) (Ev.pos (by rw [ByteArray.size_append, hxs]; omega) r1))
      | false =>
        rw [if_neg (by decide)]
        obtain ⟨r, r1, r2⟩ := hstep (x ++ a.extract i (i + 1)) [(bl a)[i]] (by rw [bl_append, hex]) (by simp)
        refine ⟨r, ?_, r2⟩
        apply Ev.succ; simp only [spec_bkShow.l0, hb, w1 i (by omega), Int.toNat_natCast]
        refine Ev.pos (by omega) (Ev.pos (by omega) (Ev.pos (by omega) (Ev.pos (by omega) (Ev.bind h1 ?_))))
        rw [q1]
        refine Ev.no (Ev.bind h2 ?_)
        rw [q2]
        exact Ev.no (Ev.pos (by rw [hxs]; omega) r1)
theorem bkShow_ev (a dd ss : ByteArray) (ha : a.size ≤ 1000) (hd : dd.size ≤ 1000000) (hs : ss.size ≤ 1000000) : Ev (fun k => spec_bkShow.f k a dd ss) (shwS a dd ss) := by
  obtain ⟨r, r1, r2⟩ := bkShow_l0 a dd ss ha hd hs a.size 0 ⟨#[]⟩ (by omega) (Nat.zero_le _)
  have e : r = shwS a dd ss := bl_inj (by rw [r2, bl_shwS, bl_empty]; rfl)
  rw [← e]
  exact r1
/-! ### are they texts? -/
def twoB (a b : ByteArray) : Bool := textB (bl a) && (decide (b.size ≤ 40) && (bl b).all isLow)
theorem isShown_eq (s : ByteArray) (h1 : s.size ≤ 9223372036854775807) : impl_isShown.f s = some (decide (s.size ≤ 40) && (bl s).all isLow) := by
  unfold impl_isShown.f
  by_cases c : s.size ≤ 40
  · rw [if_pos (by omega), overLow_eq s h1, decide_eq_true c]; rfl
  · rw [if_neg (by omega), decide_eq_false c, Bool.false_and]
theorem bkTwo_ev (a b : ByteArray) (h1 : b.size ≤ 9223372036854775807) : Ev (fun k => spec_bkTwo.f k a b) (twoB a b) := by
  unfold spec_bkTwo.f twoB
  refine Ev.bind (bkText_ev a) ?_
  cases ha : textB (bl a) with
  | false => exact Ev.no (Ev.now _)
  | true =>
    refine Ev.yes ?_
    by_cases c : b.size ≤ 40
    · have hw : wrap64 ((b.size : Int) / 2) = ((b.size / 2 : Nat) : Int) := by rw [wrap_id (by omega) (by omega)]; omega
      have e0 : spec_bkHalf.f b 0 = some (b.extract 0 (b.size / 2)) := by
        unfold spec_bkHalf.f
        rw [hw, if_pos rfl, if_pos (by omega), if_pos (by omega), Int.toNat_natCast]
      have e1 : spec_bkHalf.f b 1 = some (b.extract (b.size / 2) b.size) := by
        unfold spec_bkHalf.f
        rw [hw, if_neg (by decide), if_pos (by omega), if_pos (by omega), Int.toNat_natCast]
      have b0 : bl (b.extract 0 (b.size / 2)) = (bl b).take (b.size / 2) := by rw [bl_extract, List.drop_zero, Nat.sub_zero]
      have b1 : bl (b.extract (b.size / 2) b.size) = (bl b).drop (b.size / 2) := by
        rw [bl_extract, List.take_of_length_le (by rw [List.length_drop, ← bl_len]; omega)]
      have t0 : textB (bl (b.extract 0 (b.size / 2))) = ((bl b).take (b.size / 2)).all isLow := by
        unfold textB; rw [b0, decide_eq_true (by rw [List.length_take, ← bl_len]; omega), Bool.true_and]
      have t1 : textB (bl (b.extract (b.size / 2) b.size)) = ((bl b).drop (b.size / 2)).all isLow := by
        unfold textB; rw [b1, decide_eq_true (by rw [List.length_drop, ← bl_len]; omega), Bool.true_and]
      have hall : (bl b).all isLow = (((bl b).take (b.size / 2)).all isLow && ((bl b).drop (b.size / 2)).all isLow) := by
        rw [← List.all_append, List.take_append_drop]
      have m0 := bkText_ev (b.extract 0 (b.size / 2))
      have m1 := bkText_ev (b.extract (b.size / 2) b.size)
      rw [t0] at m0
      rw [t1] at m1
      rw [decide_eq_true c, Bool.true_and, Bool.true_and, hall]
      refine Ev.pos (by omega) (Ev.bindc e0 (Ev.bind m0 ?_))
      cases ((bl b).take (b.size / 2)).all isLow with
      | false => exact Ev.no (Ev.now _)
      | true => rw [Bool.true_and]; exact Ev.yes (Ev.bindc e1 (Ev.bind m1 (Ev.now _)))
    · rw [decide_eq_false c, Bool.false_and, Bool.and_false]
      exact Ev.neg (by omega) (Ev.now _)
/-- Dead keys are no stuck ones. -/
theorem apart (a b : ByteArray) (c : UInt8) : (bl (letF (bl a) (deadB (bl b)))).contains c = true → (bl (letF (bl a) (stuckB (bl a) (bl b)))).contains c = false := by
  rw [bl_letF, bl_letF, List.contains_iff_mem, List.mem_filter]
  rintro ⟨_, h⟩
  rw [← Bool.not_eq_true, List.contains_iff_mem, List.mem_filter]
  rintro ⟨_, h2⟩
  unfold deadB at h
  unfold stuckB at h2
  rw [h] at h2
  simp at h2
theorem letF_size (l : List UInt8) (p : UInt8 → Bool) : (letF l p).size ≤ 26 := by
  rw [bl_len, bl_letF]
  exact Nat.le_trans (List.length_filter_le _ _) (letL_len l)
end Go.Proofs.YtcidlaabbkimdaaDoor

/- FnExactStuckFor: both sides tell the keys that are broken by the same counts, and show the same text: over the functions that the walk computes. -/
namespace Go.Proofs.YtcidlaabbkimdaaDoor
open Go.RowKit Go.Proofs.YtcidlaabbkimdaaDoor.P Go.Proofs.YtcidlaabbkimdaaDoorW.PrintWords
set_option linter.unusedSimpArgs false
set_option linter.unusedVariables false
theorem stuckFor_both (a b : ByteArray) (ha : a.size ≤ 9223372036854775807) (hb : b.size ≤ 9223372036854775807) : ∃ r : ByteArray × Bool, Ev (fun k => spec_StuckFor.f k a b) r ∧ Ev (fun k => impl_StuckFor.f k a b) r := by
  unfold spec_StuckFor.f impl_StuckFor.f
  have h2 := bkTwo_ev a b hb
  have hi := isText_eq a ha
  have hj := isShown_eq b hb
  unfold twoB at h2
  cases ht : textB (bl a) with
  | false =>
    rw [ht, Bool.false_and] at h2
    refine ⟨((⟨#[]⟩ : ByteArray), false), Ev.bind h2 (Ev.no (Ev.now _)), Ev.bindc hi ?_⟩
    rw [ht]
    refine Ev.no (Ev.succ ?_)
    simp only [impl_StuckFor.j0]
    exact Ev.yes (Ev.now _)
  | true =>
    rw [ht, Bool.true_and] at h2
    cases hs : (decide (b.size ≤ 40) && (bl b).all isLow) with
    | false =>
      rw [hs] at h2 hj
      refine ⟨((⟨#[]⟩ : ByteArray), false), Ev.bind h2 (Ev.no (Ev.now _)), Ev.bindc hi ?_⟩
      rw [ht]
      refine Ev.yes (Ev.bindc hj (Ev.succ ?_))
      simp only [impl_StuckFor.j0]
      exact Ev.yes (Ev.now _)
    | true =>
      rw [hs] at h2 hj
      have ht' := ht
      unfold textB at ht'
      rw [Bool.and_eq_true, decide_eq_true_eq] at ht'
      rw [Bool.and_eq_true, decide_eq_true_eq] at hs
      have hz : a.size ≤ 20 := ht'.1
      have hzb : b.size ≤ 40 := hs.1
      have e1 := brokenFor_ev a b hz ht'.2 (by omega)
      have e2 := bkTell_ev a b (by omega) (by omega)
      have z1 := letF_size (bl a) (deadB (bl b))
      have z2 := letF_size (bl a) (stuckB (bl a) (bl b))
      have hdis := apart a b
      generalize letF (bl a) (deadB (bl b)) = D at e1 e2 z1 hdis
      generalize letF (bl a) (stuckB (bl a) (bl b)) = S at e1 e2 z2 hdis
      have s1 := shown_ev a (⟨#[]⟩ : ByteArray) S (by omega) (fun c h => by cases h)
      have s2 := bkShow_ev a (⟨#[]⟩ : ByteArray) S (by omega) (by decide) (by omega)
      by_cases q : (shwS a (⟨#[]⟩ : ByteArray) S).toList = b.toList
      · refine ⟨(S, true), Ev.bind h2 (Ev.yes (Ev.bind e2 (Ev.bind s2 (Ev.pos q (Ev.now _))))), Ev.bindc hi ?_⟩
        rw [ht]
        refine Ev.yes (Ev.bindc hj (Ev.succ ?_))
        simp only [impl_StuckFor.j0]
        exact Ev.no (Ev.bind e1 (Ev.bind s1 (Ev.pos q (Ev.now _))))
      · refine ⟨((⟨#[]⟩ : ByteArray), false), Ev.bind h2 (Ev.yes (Ev.bind e2 (Ev.bind s2 (Ev.neg q (Ev.now _))))), Ev.bindc hi ?_⟩
        rw [ht]
        refine Ev.yes (Ev.bindc hj (Ev.succ ?_))
        simp only [impl_StuckFor.j0]
        exact Ev.no (Ev.bind e1 (Ev.bind s1 (Ev.neg q (Ev.now _))))
theorem pure_FnExactStuckFor : PureFnExactStuckFor := by
  intro a b ha hb
  suffices h : Ev (fun k => laws_FnExactStuckFor.f k a b) true by obtain ⟨k, hk⟩ := h; exact ⟨k, hk k (Nat.le_refl _)⟩
  unfold laws_FnExactStuckFor.f
  by_cases c : (a.size : Int) > 1048576
  · exact Ev.pos c (Ev.now _)
  · by_cases c2 : (b.size : Int) > 1048576
    · exact Ev.neg c (Ev.pos c2 (Ev.now _))
    · obtain ⟨r, r1, r2⟩ := stuckFor_both a b ha hb
      refine Ev.neg c (Ev.neg c2 (Ev.bind r1 (Ev.bind r2 ?_)))
      exact Ev.pos rfl (Ev.neg (by simp) (Ev.now _))
end Go.Proofs.YtcidlaabbkimdaaDoor

namespace Go.Proofs.YtcidlaabbkimdaaDoor
open Go.RowKit Go.Proofs.YtcidlaabbkimdaaDoorW.PrintWords Go.ChangeShapes Go.WideShapes

theorem C_scalar {α : Type} {enc : α → Value} {h1 : ∀ x, (enc x).oneCell' = true} {w : World} {A : Option Addr} {l : List α} (hn : l.length ≤ 9223372036854775807)
    (hcell : 0 < l.length → ∃ ad, A = some ad ∧ ∀ j x, l[j]? = some x → w.cell? (ad.add j) = some (enc x)) : (Kd.scalar enc h1).C w A l.length l := by
  refine ⟨rfl, hn, fun hp => ?_⟩
  obtain ⟨ad, hA, hc⟩ := hcell hp
  refine ⟨ad, hA, fun j x hx => ⟨[enc x], rfl, rfl, fun i u hu => ?_⟩⟩
  match i, hu with
  | 0, hu =>
    have : enc x = u := by simpa using hu
    subst this
    show w.cell? (ad.add (j * 1 + 0)) = _
    rw [Nat.mul_one, Nat.add_zero]
    exact hc j x hx
  | i + 1, hu => simp at hu

section
variable {H : Type} {enc : TypeId × Value → H} {P : Program} {w : World} {base : Nat} {spare : Nat → Bool} {held : Bool}

/-- A cell that reads at a slice of whole numbers. -/
theorem read_ints {t e : TypeId} {k : IntKind} {fuel : Nat} {v : Value} {y : DataW H × List MemPlace} (ht : P.underlying t = some (.slice e)) (he : P.underlying e = some (.int k)) (hc : P.cellsOf e = 1)
    (hf : DataW.trod enc P w base spare held fuel t [v] = some y) :
    ∃ (A : Option Addr) (c : Nat) (l : List Int), v = .slice A l.length c ∧ l.length ≤ c ∧ (∀ x ∈ l, (Lit.int k x).wf = true) ∧ (Kd.int k).C w A l.length l := by
  rcases open_ints ht he hc hf with ⟨hcs, _⟩ | ⟨a, len, cap, zs, hcs, _, hl, hm, hz, _, hcell, hwf⟩
  · obtain rfl : v = .slice none 0 0 := by simpa using hcs
    exact ⟨none, 0, [], rfl, Nat.le_refl _, fun x hx => by simp at hx, rfl, by simp, fun h => absurd h (by simp)⟩
  · obtain rfl : v = .slice (some a) len cap := by simpa using hcs
    have hlz : len ≤ zs.length := by rw [hz]; split <;> omega
    have hlen : (zs.take len).length = len := by rw [List.length_take]; omega
    refine ⟨some a, cap, zs.take len, by rw [hlen], by rw [hlen]; exact hl, fun x hx => hwf x (List.mem_of_mem_take hx), ?_⟩
    refine C_scalar (by rw [hlen]; unfold maxLen at hm; omega) (fun hp => ⟨a, rfl, fun j x hj => ?_⟩)
    have hj' : j < len := by have := (List.getElem?_eq_some_iff.1 hj).1; rw [hlen] at this; exact this
    rw [hcell j (by omega)]
    rw [List.getElem?_take_of_lt hj'] at hj
    rw [List.getD_eq_getElem?_getD, hj]; rfl

/-- A cell that reads at a slice of strings. -/
theorem read_strs {t e : TypeId} {fuel : Nat} {v : Value} {y : DataW H × List MemPlace} (ht : P.underlying t = some (.slice e)) (he : P.underlying e = some .string) (hc : P.cellsOf e = 1)
    (hf : DataW.trod enc P w base spare held fuel t [v] = some y) :
    ∃ (A : Option Addr) (c : Nat) (l : List ByteArray), v = .slice A l.length c ∧ l.length ≤ c ∧ (∀ s ∈ l, s.size ≤ 9223372036854775807) ∧ Kd.string.C w A l.length l := by
  rcases open_strings ht he hc hf with ⟨hcs, _⟩ | ⟨a, len, cap, zs, hcs, _, hl, hm, hz, _, hcell, hwf⟩
  · obtain rfl : v = .slice none 0 0 := by simpa using hcs
    exact ⟨none, 0, [], rfl, Nat.le_refl _, fun x hx => by simp at hx, rfl, by simp, fun h => absurd h (by simp)⟩
  · obtain rfl : v = .slice (some a) len cap := by simpa using hcs
    have hlz : len ≤ zs.length := by rw [hz]; split <;> omega
    have hlen : (zs.take len).length = len := by rw [List.length_take]; omega
    refine ⟨some a, cap, zs.take len, by rw [hlen], by rw [hlen]; exact hl, fun x hx => by have := hwf x (List.mem_of_mem_take hx); unfold maxLen at this; omega, ?_⟩
    refine C_scalar (by rw [hlen]; unfold maxLen at hm; omega) (fun hp => ⟨a, rfl, fun j x hj => ?_⟩)
    have hj' : j < len := by have := (List.getElem?_eq_some_iff.1 hj).1; rw [hlen] at this; exact this
    rw [hcell j (by omega)]
    rw [List.getElem?_take_of_lt hj'] at hj
    rw [List.getD_eq_getElem?_getD, hj]; rfl

theorem read_int {t : TypeId} {k : IntKind} {fuel : Nat} {v : Value} {y : DataW H × List MemPlace} (ht : P.underlying t = some (.int k))
    (hf : DataW.trod enc P w base spare held fuel t [v] = some y) : ∃ n : Int, v = .int k n ∧ (Lit.int k n).wf = true := by
  obtain ⟨n, e1, _, h⟩ := DataW.trod_int ht hf
  exact ⟨n, by simpa using e1, h⟩
end

/-- The cells of a datum that holds numbers alone, an array's elements being numbers or structs of numbers. -/
def litsOf : DataW Unit → List Value
  | .lit (.int k n) => [.int k n]
  | .agg l => l.flatMap fun
    | .lit (.int k n) => [.int k n]
    | .agg l2 => l2.flatMap fun
      | .lit (.int k n) => [.int k n]
      | _ => []
    | _ => []
  | _ => []
end Go.Proofs.YtcidlaabbkimdaaDoor

/- FnExactStuckForCardSaid: the law 'FnExactStuckFor' answers true for every input, and leaves its arguments as they were. The row and its tied card, over the walk of its calls and the pure statement. -/
namespace Go.Proofs.YtcidlaabbkimdaaDoor.fnExactStuckFor
open Go.ChangeShapes Go.WideShapes Go.ChangeAt Go.RowKit Go.Proofs.YtcidlaabbkimdaaDoor.P Go.Proofs.YtcidlaabbkimdaaDoorW.PrintWords
open Go.ChangeMaps (open_string shut_string)
set_option linter.unusedVariables false
theorem own : ownKnob Tryd.prog.godebug = none := by kernel_rfl
/-- What the row lists of package-level variables. -/
noncomputable def laidList : List (String × DataW Unit) := [("unicode/utf8.acceptRanges", Rows.laid_unicode_utf8_acceptRanges), ("unicode/utf8.first", Rows.laid_unicode_utf8_first)]
/-- A world that meets it: the settled one, the listed variables laid. -/
noncomputable def laidWorld (os : Os) : World :=
  let w0 := World.holding Tryd.prog os ⟨#[], #[], []⟩
  { w0 with heap := ((w0.heap.modify 2 fun o => match o with | .cells _ t frozen => .cells (litsOf Rows.laid_unicode_utf8_acceptRanges).toArray t frozen | o => o).modify 1 fun o => match o with | .cells _ t frozen => .cells (litsOf Rows.laid_unicode_utf8_first).toArray t frozen | o => o) }
theorem laidWorld_met (os : Os) (args : Array Value) : laidMetH Tryd.prog laidList ((laidWorld os).forCall (fun _ _ => 0) ⟨#[], args, []⟩).memory :=
  laidMetH_of_parts3 (fuel := 8) (laidMet_of_run' 8 (by kernel_rfl) (by kernel_rfl)) (by kernel_rfl) (by kernel_rfl)
set_option maxRecDepth 100000 in
theorem lifted (os : Os) (started : os.Started) (H : Type) (enc : TypeId × Value → H) :
    ReturnsInHanded {} Tryd.checked os 7 .any (fun w args => (Rows.fnExactStuckForSpec.pre enc Tryd.prog Tryd.f7 [] false w args ∧ laidMetH Tryd.prog laidList w) ∧ sizedMet enc Tryd.prog Tryd.f7 (OpenSpec.ofChange Rows.fnExactStuckForSpec) false w args)
      (Rows.fnExactStuckForSpec.post enc Tryd.prog Tryd.f7 false true false false) := by
  refine returnsInHanded_of_change_and (C := Tryd.checked) (X := fun w _ => laidMetH Tryd.prog laidList w) (fun _ _ _ hh h => h.of_heap hh) own started (by kernel_rfl) Tryd.func7
    (ChangeSpec.witness_at (enc := enc) (C := Tryd.checked) (os := os) (X := fun w _ => laidMetH Tryd.prog laidList w) false (laidWorld os) #[.string ByteArray.empty, .string ByteArray.empty] 8 rfl (by kernel_rfl) (by kernel_rfl) (by kernel_rfl) (by kernel_rfl) (by kernel_rfl) (laidWorld_met os _)) ?_
  intro W base args ds gs before hval0 hW _ _ hL _
  have hval : ∀ (j : Nat) t v, Tryd.f7.params[j]? = some t → args[j]? = some v → Value.okWide Tryd.prog W .any base t v := hval0
  have hW' := hW
  obtain ⟨p, q, hA0, hV, rfl, hfz, hnd⟩ := hW
  have hA : DataW.TrodAll enc Tryd.prog W 0 (fun _ => true) true Tryd.f7.params.toList args.toList ds p := hA0
  rw [Tryd.params7] at hA hval
  obtain ⟨v0, vs0, d0, ds0, p0, q0, hargs, rfl, rfl, h0, r0⟩ := trodAll_cons hA
  obtain ⟨v1, vs1, d1, ds1, p1, q1, rfl, rfl, rfl, h1, r1⟩ := trodAll_cons r0
  obtain ⟨rfl, rfl, rfl⟩ := trodAll_nil r1
  obtain rfl : args = #[v0, v1] := by cases args; simp_all
  obtain ⟨rfl, rfl⟩ := trodVars_none hV
  obtain ⟨a0, rfl, rfl, rfl, y0⟩ := open_string Tryd.underlying9 (hval 0 9 v0 rfl rfl) h0
  have z0 : a0.size ≤ 9223372036854775807 := by unfold maxLen at y0; omega
  obtain ⟨a1, rfl, rfl, rfl, y1⟩ := open_string Tryd.underlying9 (hval 1 9 v1 rfl rfl) h1
  have z1 : a1.size ≤ 9223372036854775807 := by unfold maxLen at y1; omega
  clear hA0 hval0
  simp only [List.append_nil] at hW'
  obtain ⟨k, hk⟩ := pure_FnExactStuckFor a0 a1 z0 z1
  refine (laws_FnExactStuckFor.calls k a0 a1 true W  hk).mono fun e W' ⟨he, bel0⟩ => ?_
  have bel : Below W.heap.size W W' := bel0
  subst he
  exact ⟨_, rfl, _, _, _, [], _, [], hW', trodAll_mk1 (shut_bool Tryd.underlying4 _), (trodAll_cons_mk (shut_string Tryd.underlying9 y0) (trodAll_cons_mk (shut_string Tryd.underlying9 y1) trodAll_mk0)), rfl, bel.frame _, fun h => by cases h⟩
theorem over : Rows.fnExactStuckForRow.holds Tryd.pinned (OpenSpec.ofChange Rows.fnExactStuckForSpec) :=
  OpenClaim.holds_of_wide 7 Tryd.f7 rfl rfl rfl rfl rfl rfl rfl ⟨rfl, rfl, rfl, rfl, rfl⟩ rfl rfl rfl rfl rfl (by kernel_rfl) Tryd.func7 (by kernel_rfl)
    (of_decide_eq_true (by kernel_rfl)) (by unfold Func.isWrapper; first | (rw [if_pos (by decide +kernel)]; kernel_rfl) | (rw [if_neg (by decide +kernel)]; exact ⟨rfl, rfl⟩))
    (fun os started H enc _ => lifted os started H enc)
theorem proved : Rows.FnExactStuckForSaid := over
theorem card : Rows.FnExactStuckForCardSaid :=
  Claim7.holds_tied_plain_at .later [] [.data, .pinned] true (true, "d140f6f1362a90cb9246e5652668875681c3f42ba2c2d01b802424be74bead35") false
    proved (fun _ h => by cases h) (by kernel_rfl) (fun _ h => by cases h) fnExactStuckFor_row_tie rfl ⟨rfl, rfl⟩ (by kernel_rfl) rfl
    (fun f fn hf hfn => by
      obtain rfl : f = 7 := Option.some.inj ((show Tryd.prog.funcNamed "loop.example/g01350/laws.FnExactStuckFor" = some 7 by kernel_rfl).symm.trans hf) |>.symm
      obtain rfl : fn = Tryd.f7 := (Option.some.inj (Tryd.func7.symm.trans hfn)).symm
      exact ⟨by kernel_rfl, fun j t ht => by
        rw [Tryd.params7] at ht
        have hm : t ∈ #[9, 9] := Array.mem_of_getElem? ht
        have hm : t ∈ [9, 9] := by simpa using hm
        have hall : ([9, 9].all fun u => !Tryd.prog.wantsStandIn u) = true := by kernel_rfl
        exact (show Tryd.prog.wantsStandIn t = false by simpa using List.all_eq_true.1 hall t hm)⟩)
    (by kernel_rfl)
#print axioms card
end Go.Proofs.YtcidlaabbkimdaaDoor.fnExactStuckFor
namespace Go.Proofs.YtcidlaabbkimdaaDoor
theorem fnExactStuckFor_holds : Rows.FnExactStuckForCardSaid := fnExactStuckFor.card
end Go.Proofs.YtcidlaabbkimdaaDoor

