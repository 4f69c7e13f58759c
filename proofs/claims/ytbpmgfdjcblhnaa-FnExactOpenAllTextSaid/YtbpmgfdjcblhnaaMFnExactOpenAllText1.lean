/- Part 1 of 1 of the proof of: FnExactOpenAllTextSaid: the law 'FnExactOpenAllText' answers true for every input, and leaves its arguments as they were. The row, over the walk of its calls and the pure statement. -/
import Derived.Test.YtbpmgfdjcblhnaaProg
import Derived.Below
import Derived.Deep.Draws
import Derived.Deep.AppendLies
import Derived.Maps.AppendAt
import Derived.OwnWalk
import Derived.Laws.BytesArg
import Derived.Laws.MakeOwn
import Derived.Laws.OwnMore
import Derived.Deep.OwnRows
import Derived.Tactics
import Derived.Lib.ConvBytes
import Derived.Laws.Slices
import Derived.WalkKit
import Derived.KernelRfl
import Derived.RowKit3
import Derived.Deep.LoopGhost
import Derived.Deep.QuietTactic
import Derived.BigQuiet
import Derived.WideLaws
import Derived.Deep.DeepCutAuto
import Derived.Deep.CutBlock
import Derived.Deep.RegionHeld3
import Derived.Laws.Rows
import Derived.Lib.AppendStr
import Derived.ArgAppend
import Derived.Laws.IdiomCopy
import Derived.OrdersHeld
import Derived.Laws.BitsLemmas
import Derived.RowKit
import Derived.Laws.Runes
import Derived.Test.YtbpmgfdjcblhnaaWWords
import Derived.Test.YtbpmgfdjcblhnaaWLast
import Derived.Test.YtbpmgfdjcblhnaaWTab
import Derived.Test.YtbpmgfdjcblhnaaWFour
import Derived.Test.YtbpmgfdjcblhnaaWQPut
import Derived.Test.YtbpmgfdjcblhnaaWApart
import Derived.Test.YtbpmgfdjcblhnaaWArr
import Derived.Test.YtbpmgfdjcblhnaaWZeros
import Derived.Test.YtbpmgfdjcblhnaaWFoot
import Derived.Test.YtbpmgfdjcblhnaaWKept
import Derived.Test.YtbpmgfdjcblhnaaWShare
import Derived.Test.YtbpmgfdjcblhnaaWN
import Derived.Test.YtbpmgfdjcblhnaaWFootNe
import Derived.Test.YtbpmgfdjcblhnaaWAt
import Derived.Test.YtbpmgfdjcblhnaaWEqStruct
import Derived.Test.YtbpmgfdjcblhnaaWRepsOne
import Derived.Test.YtbpmgfdjcblhnaaWInv
import Derived.Test.YtbpmgfdjcblhnaaWInvWords
import Derived.Test.YtbpmgfdjcblhnaaWGuard
import Derived.Test.YtbpmgfdjcblhnaaWNEv
import Derived.Test.YtbpmgfdjcblhnaaWMore
import Derived.Laws.Strings
import Derived.Lib.SlTrimSet
import Derived.Lib.Bytealg
import Derived.ProofKit
import Derived.OpenShut
import Derived.ShutString
import Derived.ChangeOld
import Derived.SizedLaws
import Derived.ChangeSlices
import Derived.SliceStrings
import Derived.Lib.SmallJoins
import Derived.LaidLaws
import Derived.LaidHandle
import Derived.LaidMore
import Derived.Test.YtbpmgfdjcblhnaaRows
-- printed by xprint.py
namespace Go.Proofs.Ytbpmgfdjcblhnaa.P
open Go.RowKit Go.Proofs.YtbpmgfdjcblhnaaW.PrintWords Go.Proofs.YtbpmgfdjcblhnaaW.PrintLast Go.Proofs.YtbpmgfdjcblhnaaW.PrintMore
attribute [local go_sem] max2_int min2_int max_two min_two max_three min_three max_four min_four   -- for this text's walks alone
set_option linter.unusedVariables false
set_option linter.unusedSimpArgs false



def errW : Option Int → Value
 | none => .nilIface
 | some c => .iface 0 (.int .i64 c)
theorem errW_none : errW none = .nilIface := rfl
theorem errW_some (c : Int) : errW (some c) = .iface 0 (.int .i64 c) := rfl

theorem info5 : (Try.prog.info? 5).map (fun i => (i.zero, i.size, i.bytes)) = some (some (.int .u8 0), 1, 1) := by kernel_rfl
-- the values' own types

end Go.Proofs.Ytbpmgfdjcblhnaa.P

-- printed by xprint.py
namespace Go.Proofs.Ytbpmgfdjcblhnaa.P
open Go.RowKit Go.Proofs.YtbpmgfdjcblhnaaW.PrintWords Go.Proofs.YtbpmgfdjcblhnaaW.PrintLast Go.Proofs.YtbpmgfdjcblhnaaW.PrintMore
attribute [local go_sem] max2_int min2_int max_two min_two max_three min_three max_four min_four   -- for this text's walks alone
set_option linter.unusedVariables false
set_option linter.unusedSimpArgs false

/-! ### impl_digitText: function 11 -/
def impl_digitText.l0 : Nat → List Int → List Int → Int → Int → Option (ByteArray)
 | 0, _, _, _, _ => none
 | k + 1, x3, x7, x8, x9 => if x9 < x8 then (if 0 ≤ x9 then (if x9 < (x7.length : Int) then (if 0 ≤ (rd x7 x9) then (if (rd x7 x9) < 10 then (if x3.length < 140737488355328 then (impl_digitText.l0 k (x3 ++ [bt (⟨#[48, 49, 50, 51, 52, 53, 54, 55, 56, 57]⟩ : ByteArray) (rd x7 x9)]) x7 x8 (wrap64 (x9 + 1))) else (none)) else (none)) else (none)) else (none)) else (none)) else (some (strOfNums x3))
def impl_digitText.f (k : Nat) (l0 : List Int) : Option (ByteArray) := impl_digitText.l0 k (([] : List Int)) l0 (l0.length : Int) 0
theorem impl_digitText.mono_l : ∀ k, (∀ y0 y1 y2 y3, LeO (impl_digitText.l0 k y0 y1 y2 y3) (impl_digitText.l0 (k + 1) y0 y1 y2 y3))
 | 0 => by intros; intro r h; simp [impl_digitText.l0] at h
 | k + 1 => by
  have ih0 := impl_digitText.mono_l k
  ·
   intro y0 y1 y2 y3
   unfold impl_digitText.l0
   repeat' first
   | (with_reducible exact ih0 _ _ _ _)
   | (with_reducible exact LeO.refl _)
   | (with_reducible exact LeO.none _)
   | (with_reducible refine LeO.ite ?_ ?_)
   | (with_reducible refine LeO.bind ?_ (fun _ => ?_))
   | exact ih0 _ _ _ _
   | exact LeO.none _
   | refine LeO.ite ?_ ?_
   | refine LeO.bind ?_ (fun _ => ?_)
theorem impl_digitText.mono : ∀ y0 k, LeO (impl_digitText.f k y0) (impl_digitText.f (k + 1) y0) := by
 intro y0 k
 have ih0 := impl_digitText.mono_l k
 unfold impl_digitText.f
 repeat' first
   | (with_reducible exact ih0 _ _ _ _)
   | (with_reducible exact LeO.refl _)
   | (with_reducible exact LeO.none _)
   | (with_reducible refine LeO.ite ?_ ?_)
   | (with_reducible refine LeO.bind ?_ (fun _ => ?_))
   | exact ih0 _ _ _ _
   | exact LeO.none _
   | refine LeO.ite ?_ ?_
   | refine LeO.bind ?_ (fun _ => ?_)
set_option maxHeartbeats 8000000 in
set_option maxRecDepth 100000 in
theorem impl_digitText.calls (k : Nat) (A0 : Option Addr) (c0 : Nat) (l0 : List Int) (r : ByteArray) (w : World) (hr0 : Kd.C (Kd.int .i64) w A0 l0.length l0) (hc0 : l0.length ≤ c0) (h : impl_digitText.f k l0 = some r) :
  Calls Try.prog 11 #[.slice A0 l0.length c0] w fun e w' => e = .returned (.string r) ∧ Below w.heap.size w w' := by
 have HR0 := Aside0.mk hr0
 have HC0 := Aside0.mk hc0
 clear hr0 hc0
 have HB := Aside0.mk (Below.refl w.heap.size w)
 have H : (impl_digitText.l0 k (([] : List Int)) l0 (l0.length : Int) 0) = some r := h
 clear h
 obtain ⟨y101, hy101⟩ : ∃ y_ : List Int, y_ = (([] : List Int)) := ⟨_, rfl⟩
 replace H : (impl_digitText.l0 k y101 l0 (l0.length : Int) 0) = some r := by first | (rw [hy101]; with_reducible exact H) | (have H2_ := (Option.bind_some _ _).symm.trans H; rw [hy101]; with_reducible exact H2_) | (have H2_ := (Option.bind_some _ _).symm.trans H; with_reducible exact H2_) | with_reducible exact H | (rw [hy101]; exact H) | exact H
 have Ny101 := Aside0.mk hy101
 clear hy101
 have H' := Aside0.mk H
 clear H
 go_enter Try.func11, Try.ntmps11
 go_wp2_with (first | ((with_reducible refine gate_dst (N := 6) rfl ?_); refine Kd.R_lit (Kd.int .u8) _ 5 ?hg (N := 6) ?hd (xs := ([] : List Int)) (inner := []) (ok := fun _ => True) (okp := fun _ => True) ?hr ?hp (fun _ hk => hk) trivial (Below.refl _ _) (Nat.le_refl _) (by simp) ?_; (case hd => rfl); (case hg => rfl); (case hr => first | (go_simp; done) | (go_simp; rfl)); (case hp => exact (Reps.none _ _)); intro v102 w2 ho3 hb hg_ hnew_; clear hg_ hnew_; (first | rw [← Ny101.out] at ho3 | (simp only [Int.reduceToNat] at ho3; rw [← Ny101.out] at ho3)); have n0_ := Aside0.mk (Kd.R_lower ho3 (below_size (by repeat (first | (with_reducible first | exact HB.out | apply below_alloc | apply pw_below_drewN | apply below_drew1) | exact HB.out)))); have n1_ := Aside0.mk (below_step (by repeat (first | (with_reducible first | exact HB.out | apply below_alloc | apply pw_below_drewN | apply below_drew1) | exact HB.out)) hb); clear HB; have HO103 := n0_; have HB := n1_; clear n0_ n1_; clear hb ho3))
 go_loopg [3, 9] k (fun kq v3 v9 w' => ∃ (x3_1 : List Int) (x9_1 : Int), v9 = .int .i64 x9_1 ∧ Aside0 (impl_digitText.l0 kq x3_1 l0 (l0.length : Int) x9_1 = some r) ∧ Aside0 (kq ≤ k) ∧ Aside0 (Kd.R (Kd.int .u8) 5 w' w.heap.size (fun _ => True) v3 x3_1) ∧ Aside0 (Below w.heap.size w w'))
 case atStart => exact ⟨(y101), (0), (by first | rfl | (simp; done) | (simp [*]; done)), H', ⟨Nat.le_refl _⟩, ⟨by (with_reducible repeat (first | apply Kd.R_alloc | apply Kd.R_drewN | apply Kd.R_drew)); exact HO103.out⟩, ⟨by repeat (first | (with_reducible first | exact HB.out | apply below_alloc | apply pw_below_drewN | apply below_drew1) | exact HB.out)⟩⟩
 case round =>
  clear H'
  try clear c1
  try clear p2
  obtain ⟨x3_1, x9_1, rfl, HA, HK1, HO_3, HB⟩ := hrel
  cases gk with
  | zero => exact absurd HA.out (by simp [impl_digitText.l0])
  | succ k1 =>
   have H := HA.out
   clear HA
   simp only [impl_digitText.l0] at H
   by_cases c4 : x9_1 < (l0.length : Int)
   ·
    rw [if_pos c4] at H
    have c4b0 : decide (x9_1 < (l0.length : Int)) = true := decide_eq_true c4
    clear c4
    by_cases c5 : 0 ≤ x9_1
    ·
     rw [if_pos c5] at H
     have c5b0 : decide (0 ≤ x9_1) = true := decide_eq_true c5
     clear c5
     by_cases c6 : x9_1 < (l0.length : Int)
     ·
      rw [if_pos c6] at H
      have c6b0 : decide (x9_1 < (l0.length : Int)) = true := decide_eq_true c6
      clear c6
      by_cases c7 : 0 ≤ (rd l0 x9_1)
      ·
       rw [if_pos c7] at H
       have c7b0 : decide (0 ≤ (rd l0 x9_1)) = true := decide_eq_true c7
       clear c7
       by_cases c8 : (rd l0 x9_1) < 10
       ·
        rw [if_pos c8] at H
        have c8b0 : decide ((rd l0 x9_1) < 10) = true := decide_eq_true c8
        clear c8
        by_cases c10 : x3_1.length < 140737488355328
        ·
         rw [if_pos c10] at H
         have LMc10 := Aside0.mk c10
         clear c10
         obtain ⟨y105, hy105⟩ : ∃ y_ : List Int, y_ = (x3_1 ++ [bt (⟨#[48, 49, 50, 51, 52, 53, 54, 55, 56, 57]⟩ : ByteArray) (rd l0 x9_1)]) := ⟨_, rfl⟩
         replace H : (impl_digitText.l0 k1 y105 l0 (l0.length : Int) (wrap64 (x9_1 + 1))) = some r := by first | (rw [hy105]; with_reducible exact H) | (have H2_ := (Option.bind_some _ _).symm.trans H; rw [hy105]; with_reducible exact H2_) | (have H2_ := (Option.bind_some _ _).symm.trans H; with_reducible exact H2_) | with_reducible exact H | (rw [hy105]; exact H) | exact H
         have Ny105 := Aside0.mk hy105
         clear hy105
         have H' := Aside0.mk H
         clear H
         have p104 : 0 ≤ (x9_1 : Int) := of_decide_eq_true (by first | (with_reducible assumption) | assumption)
         have q104 : x9_1 < (l0.length : Int) := of_decide_eq_true (by first | (with_reducible assumption) | assumption)
         obtain ⟨ad104, e104, hx104_0⟩ := Kd.at_int HR0.out x9_1 p104 q104
         cases e104
         (try replace hx104_0 := (HB.out.cell (World.block_lt_of_cell? w _ hx104_0)).trans hx104_0)
         replace p104 := eq_true p104
         replace q104 := eq_true q104
         have p9 : 0 ≤ ((rd l0 x9_1) : Int) := of_decide_eq_true (by first | (with_reducible assumption) | assumption)
         have q9 : (rd l0 x9_1) < (10 : Int) := of_decide_eq_true (by first | (with_reducible assumption) | assumption)
         have hx9 := bt_at (⟨#[48, 49, 50, 51, 52, 53, 54, 55, 56, 57]⟩ : ByteArray) (rd l0 x9_1)
         replace p9 := eq_true p9
         replace q9 := eq_true q9
         go_wp2_with (first | ((with_reducible refine gate_builtin (b := .append) (xs := #[.tmp 13, .tmp 16]) rfl ?_); at_builtin; refine Kd.R_append (Kd.int .u8) (w0 := w) w.heap.size rfl (.tmp 13) (.tmp 16) 37 5 (.int .u8 0) 1 rfl Try.underlying37 info5 rfl (by decide) (by omega) u3 x3_1 (bt (⟨#[48, 49, 50, 51, 52, 53, 54, 55, 56, 57]⟩ : ByteArray) (rd l0 x9_1)) [.int .u8 (bt (⟨#[48, 49, 50, 51, 52, 53, 54, 55, 56, 57]⟩ : ByteArray) (rd l0 x9_1))] (fun _ => True) (fun _ => False) rfl rfl ?aP (fun _ hk => hk.elim) ?aF ?aO ?aB ?aS ?aL ?_; (case aP => exact rfl); (case aB => exact (by repeat (first | (with_reducible first | exact HB.out | apply below_alloc | apply pw_below_drewN | apply below_drew1) | exact HB.out))); (case aF => exact (fun _ _ => trivial)); (case aO => exact (by (with_reducible repeat (first | apply Kd.R_alloc | apply Kd.R_drewN | apply Kd.R_drew)); exact HO_3.out)); (case aS => exact (below_size (by repeat (first | (with_reducible first | exact HB.out | apply below_alloc | apply pw_below_drewN | apply below_drew1) | exact HB.out)))); (case aL => have := LMc10.out; omega); intro v106 w11 ho hb hg hat; rw [← Ny105.out] at ho; have n0_ := Aside0.mk (hb); have n1_ := Aside0.mk (ho); clear HB; clear HO_3; have HB := n0_; have HO107 := n1_; clear n0_ n1_; clear ho hb hg hat))
         go_roundg k1
         case measure => have := HK1.out; omega
         case rel => exact ⟨(y105), (wrap64 (x9_1 + 1)), (by first | rfl | (simp; done) | (simp [*]; done)), H', ⟨by have := HK1.out; omega⟩, ⟨by (with_reducible repeat (first | apply Kd.R_alloc | apply Kd.R_drewN | apply Kd.R_drew)); exact HO107.out⟩, ⟨by repeat (first | (with_reducible first | exact HB.out | apply below_alloc | apply pw_below_drewN | apply below_drew1) | exact HB.out)⟩⟩
        ·
         rw [if_neg c10] at H
         exact absurd H (by simp)
       ·
        rw [if_neg c8] at H
        exact absurd H (by simp)
      ·
       rw [if_neg c7] at H
       exact absurd H (by simp)
     ·
      rw [if_neg c6] at H
      exact absurd H (by simp)
    ·
     rw [if_neg c5] at H
     exact absurd H (by simp)
   ·
    rw [if_neg c4] at H
    have c4b0 : decide (x9_1 < (l0.length : Int)) = false := decide_eq_false c4
    clear c4
    obtain rfl := Option.some.inj H
    have hcv12 := own_string (P := Try.prog) Try.underlying37 Try.underlying5 Try.underlying9 (Kd.own_of_R HO_3.out)
    go_wp2
    go_ret
    exact ⟨by first | rfl | (simp [errW_none, errW_some] <;> rfl) | (simp [*, errW_none, errW_some] <;> rfl), by repeat (first | (with_reducible first | exact HB.out | apply below_alloc | apply pw_below_drewN | apply below_drew1) | exact HB.out)⟩

end Go.Proofs.Ytbpmgfdjcblhnaa.P

-- printed by xprint.py
namespace Go.Proofs.Ytbpmgfdjcblhnaa.P
open Go.RowKit Go.Proofs.YtbpmgfdjcblhnaaW.PrintWords Go.Proofs.YtbpmgfdjcblhnaaW.PrintLast Go.Proofs.YtbpmgfdjcblhnaaW.PrintMore
attribute [local go_sem] max2_int min2_int max_two min_two max_three min_three max_four min_four   -- for this text's walks alone
set_option linter.unusedVariables false
set_option linter.unusedSimpArgs false

/-! ### impl_in: function 14 -/
def impl_in.f (a0 : Int) (a1 : Int) (a2 : Int) : Option (Bool) := if a0 ≥ a1 then (some (decide (a0 ≤ a2))) else (some false)
set_option maxHeartbeats 8000000 in
set_option maxRecDepth 100000 in
theorem impl_in.calls (a0 : Int) (a1 : Int) (a2 : Int) (r : Bool) (w : World) (h : impl_in.f a0 a1 a2 = some r) :
  Calls Try.prog 14 #[.int .i64 a0, .int .i64 a1, .int .i64 a2] w fun e w' => e = .returned (.bool r) ∧ Drawn0 w w' := by
 have H : (if a0 ≥ a1 then (some (decide (a0 ≤ a2))) else (some false)) = some r := h
 clear h
 by_cases c4 : a0 ≥ a1
 ·
  rw [if_pos c4] at H
  have c4b0 : decide (a1 ≤ a0) = true := decide_eq_true c4
  clear c4
  obtain rfl := Option.some.inj H
  go_enter Try.func14, Try.ntmps14
  go_wp2
  go_ret
  exact ⟨by first | rfl | (simp; done) | (simp [*]; done), by repeat (first | exact Drawn0.refl _ | apply Drawn0.step)⟩
 ·
  rw [if_neg c4] at H
  have c4b0 : decide (a1 ≤ a0) = false := decide_eq_false c4
  clear c4
  obtain rfl := Option.some.inj H
  go_enter Try.func14, Try.ntmps14
  go_wp2
  go_ret
  exact ⟨by first | rfl | (simp; done) | (simp [*]; done), by repeat (first | exact Drawn0.refl _ | apply Drawn0.step)⟩

end Go.Proofs.Ytbpmgfdjcblhnaa.P

-- printed by xprint.py
namespace Go.Proofs.Ytbpmgfdjcblhnaa.P
open Go.RowKit Go.Proofs.YtbpmgfdjcblhnaaW.PrintWords Go.Proofs.YtbpmgfdjcblhnaaW.PrintLast Go.Proofs.YtbpmgfdjcblhnaaW.PrintMore
attribute [local go_sem] max2_int min2_int max_two min_two max_three min_three max_four min_four   -- for this text's walks alone
set_option linter.unusedVariables false
set_option linter.unusedSimpArgs false

/-! ### impl_pinLong: function 15 -/
def impl_pinLong.f (a0 : Int) : Option (Bool) := (impl_in.f a0 2 4).bind fun t101 => (some t101)
set_option maxHeartbeats 8000000 in
set_option maxRecDepth 100000 in
theorem impl_pinLong.calls (a0 : Int) (r : Bool) (w : World) (h : impl_pinLong.f a0 = some r) :
  Calls Try.prog 15 #[.int .i64 a0] w fun e w' => e = .returned (.bool r) ∧ Drawn0 w w' := by
 have H : ((impl_in.f a0 2 4).bind fun t101 => (some t101)) = some r := h
 clear h
 replace H := Option.bind_eq_some_iff.mp H
 obtain ⟨t101, A20, H⟩ := H
 replace H : (some t101) = some r := H
 have A2 := Aside0.mk A20
 clear A20
 obtain rfl := Option.some.inj H
 go_enter Try.func15, Try.ntmps15
 go_wp2_with (first | ((with_reducible refine gate_callee (f := 14) rfl ?_); refine goesL_ (some 4) rfl rfl Try.func14 (by kernel_rfl) rfl #[.int .i64 a0, .int .i64 2, .int .i64 4] rfl (by (try simp only [List.map_toArray, List.map_cons, List.map_nil]); first | done | rfl | (simp only [List.length_drop, List.length_take]; rfl)) ?_; (with_reducible refine (impl_in.calls a0 2 4 t101 _ A2.out).mono ?_); rintro e w' ⟨rfl, ⟨nd, rfl⟩⟩; refine ⟨_, rfl, ?_⟩))
 go_ret
 exact ⟨by first | rfl | (simp; done) | (simp [*]; done), by repeat (first | exact Drawn0.refl _ | apply Drawn0.step)⟩

end Go.Proofs.Ytbpmgfdjcblhnaa.P

-- printed by xprint.py
namespace Go.Proofs.Ytbpmgfdjcblhnaa.P
open Go.RowKit Go.Proofs.YtbpmgfdjcblhnaaW.PrintWords Go.Proofs.YtbpmgfdjcblhnaaW.PrintLast Go.Proofs.YtbpmgfdjcblhnaaW.PrintMore
attribute [local go_sem] max2_int min2_int max_two min_two max_three min_three max_four min_four   -- for this text's walks alone
set_option linter.unusedVariables false
set_option linter.unusedSimpArgs false

/-! ### impl_locksOk: function 9 -/
mutual
def impl_locksOk.j0 : Nat → Int → Int → Bool → Option (Bool)
 | 0, _, _, _ => none
 | k + 1, x0, x1, x13 => if x13 = true then (some false) else (impl_locksOk.l0 k x0 1 x1 0)
def impl_locksOk.l0 : Nat → Int → Int → Int → Int → Option (Bool)
 | 0, _, _, _, _ => none
 | k + 1, x0, x5, x14, x15 => if x15 < x14 then (impl_locksOk.l0 k x0 (wrap64 (x5 * x0)) x14 (wrap64 (x15 + 1))) else (some (decide (x5 ≤ 300)))
end
def impl_locksOk.f (k : Nat) (a0 : Int) (a1 : Int) : Option (Bool) := (impl_in.f a0 1 10).bind fun t101 => (if t101 = true then ((impl_pinLong.f a1).bind fun t102 => (impl_locksOk.j0 k a0 a1 (!t102))) else (impl_locksOk.j0 k a0 a1 true))
theorem impl_locksOk.mono_l : ∀ k, (∀ y0 y1 y2, LeO (impl_locksOk.j0 k y0 y1 y2) (impl_locksOk.j0 (k + 1) y0 y1 y2)) ∧ (∀ y0 y1 y2 y3, LeO (impl_locksOk.l0 k y0 y1 y2 y3) (impl_locksOk.l0 (k + 1) y0 y1 y2 y3))
 | 0 => ⟨by intros; intro r h; simp [impl_locksOk.j0] at h, by intros; intro r h; simp [impl_locksOk.l0] at h⟩
 | k + 1 => by
  obtain ⟨ih0, ih1⟩ := impl_locksOk.mono_l k
  refine ⟨?_, ?_⟩
  ·
   intro y0 y1 y2
   unfold impl_locksOk.j0
   repeat' first
   | (with_reducible exact ih0 _ _ _)
   | (with_reducible exact ih1 _ _ _ _)
   | (with_reducible exact LeO.refl _)
   | (with_reducible exact LeO.none _)
   | (with_reducible refine LeO.ite ?_ ?_)
   | (with_reducible refine LeO.bind ?_ (fun _ => ?_))
   | exact ih0 _ _ _
   | exact ih1 _ _ _ _
   | exact LeO.none _
   | refine LeO.ite ?_ ?_
   | refine LeO.bind ?_ (fun _ => ?_)
  ·
   intro y0 y1 y2 y3
   unfold impl_locksOk.l0
   repeat' first
   | (with_reducible exact ih0 _ _ _)
   | (with_reducible exact ih1 _ _ _ _)
   | (with_reducible exact LeO.refl _)
   | (with_reducible exact LeO.none _)
   | (with_reducible refine LeO.ite ?_ ?_)
   | (with_reducible refine LeO.bind ?_ (fun _ => ?_))
   | exact ih0 _ _ _
   | exact ih1 _ _ _ _
   | exact LeO.none _
   | refine LeO.ite ?_ ?_
   | refine LeO.bind ?_ (fun _ => ?_)
theorem impl_locksOk.mono : ∀ y0 y1 k, LeO (impl_locksOk.f k y0 y1) (impl_locksOk.f (k + 1) y0 y1) := by
 intro y0 y1 k
 obtain ⟨ih0, ih1⟩ := impl_locksOk.mono_l k
 unfold impl_locksOk.f
 repeat' first
   | (with_reducible exact ih0 _ _ _)
   | (with_reducible exact ih1 _ _ _ _)
   | (with_reducible exact LeO.refl _)
   | (with_reducible exact LeO.none _)
   | (with_reducible refine LeO.ite ?_ ?_)
   | (with_reducible refine LeO.bind ?_ (fun _ => ?_))
   | exact ih0 _ _ _
   | exact ih1 _ _ _ _
   | exact LeO.none _
   | refine LeO.ite ?_ ?_
   | refine LeO.bind ?_ (fun _ => ?_)
set_option maxHeartbeats 8000000 in
set_option maxRecDepth 100000 in
theorem impl_locksOk.calls (k : Nat) (a0 : Int) (a1 : Int) (r : Bool) (w : World) (h : impl_locksOk.f k a0 a1 = some r) :
  Calls Try.prog 9 #[.int .i64 a0, .int .i64 a1] w fun e w' => e = .returned (.bool r) ∧ Drawn0 w w' := by
 have H : ((impl_in.f a0 1 10).bind fun t101 => (if t101 = true then ((impl_pinLong.f a1).bind fun t102 => (impl_locksOk.j0 k a0 a1 (!t102))) else (impl_locksOk.j0 k a0 a1 true))) = some r := h
 clear h
 have HC3 := Aside0.mk H
 clear H
 go_enter Try.func9, Try.ntmps9
 go_upto_region 1 with (fail)
 go_cut [13] (fun v13 wc => ∃ (kq : Nat) (x13_2 : Bool), v13 = .bool x13_2 ∧ Aside0 (impl_locksOk.j0 kq a0 a1 x13_2 = some r) ∧ Aside0 (kq ≤ k) ∧ Drawn0 w wc)
 case first =>
  have H := HC3.out
  clear HC3
  replace H := Option.bind_eq_some_iff.mp H
  obtain ⟨t101, A40, H⟩ := H
  replace H : (if t101 = true then ((impl_pinLong.f a1).bind fun t102 => (impl_locksOk.j0 k a0 a1 (!t102))) else (impl_locksOk.j0 k a0 a1 true)) = some r := H
  have A4 := Aside0.mk A40
  clear A40
  by_cases c5 : t101 = true
  ·
   subst c5
   have H1 : ((impl_pinLong.f a1).bind fun t102 => (impl_locksOk.j0 k a0 a1 (!t102))) = some r := by rw [if_pos rfl] at H; exact H
   clear H
   have H := H1
   clear H1
   replace H := Option.bind_eq_some_iff.mp H
   obtain ⟨t102, A60, H⟩ := H
   replace H : (impl_locksOk.j0 k a0 a1 (!t102)) = some r := H
   have A6 := Aside0.mk A60
   clear A60
   have H' := Aside0.mk H
   clear H
   go_wp2_with (first | ((with_reducible refine gate_callee (f := 14) rfl ?_); refine goesL_ (some 7) rfl rfl Try.func14 (by kernel_rfl) rfl #[.int .i64 a0, .int .i64 1, .int .i64 10] rfl (by (try simp only [List.map_toArray, List.map_cons, List.map_nil]); first | done | rfl | (simp only [List.length_drop, List.length_take]; rfl)) ?_; (with_reducible refine (impl_in.calls a0 1 10 true _ A4.out).mono ?_); rintro e w' ⟨rfl, ⟨nd, rfl⟩⟩; refine ⟨_, rfl, ?_⟩) | (go_at_call 15; (with_reducible refine (impl_pinLong.calls a1 t102 _ A6.out).mono ?_); rintro e w' ⟨rfl, ⟨nd, rfl⟩⟩))
   go_meet
   case rel => exact ⟨_, (!t102), (by first | rfl | (simp; done) | (simp [*]; done)), H', ⟨by first | omega | exact Nat.le_refl _⟩, by repeat (first | exact Drawn0.refl _ | apply Drawn0.step)⟩
  ·
   replace c5 := Bool.eq_false_iff.mpr c5
   subst c5
   have H1 : (impl_locksOk.j0 k a0 a1 true) = some r := by rw [if_neg (show ¬ (false = true) by decide)] at H; exact H
   clear H
   have H := H1
   clear H1
   have H' := Aside0.mk H
   clear H
   go_wp2_with (first | ((with_reducible refine gate_callee (f := 14) rfl ?_); refine goesL_ (some 7) rfl rfl Try.func14 (by kernel_rfl) rfl #[.int .i64 a0, .int .i64 1, .int .i64 10] rfl (by (try simp only [List.map_toArray, List.map_cons, List.map_nil]); first | done | rfl | (simp only [List.length_drop, List.length_take]; rfl)) ?_; (with_reducible refine (impl_in.calls a0 1 10 false _ A4.out).mono ?_); rintro e w' ⟨rfl, ⟨nd, rfl⟩⟩; refine ⟨_, rfl, ?_⟩))
   go_meet
   case rel => exact ⟨_, (true), (by first | rfl | (simp; done) | (simp [*]; done)), H', ⟨by first | omega | exact Nat.le_refl _⟩, by repeat (first | exact Drawn0.refl _ | apply Drawn0.step)⟩
 case rest =>
  clear HC3
  try clear c1
  try clear p2
  try clear c5
  obtain ⟨kq, x13_2, rfl, HA, HJ2, ⟨mc2, rfl⟩⟩ := hcut
  cases kq with
  | zero => exact absurd HA.out (by simp [impl_locksOk.j0])
  | succ kj2 =>
   have H := HA.out
   clear HA
   simp only [impl_locksOk.j0] at H
   by_cases c7 : x13_2 = true
   ·
    subst c7
    have H1 : (some false) = some r := by rw [if_pos rfl] at H; exact H
    clear H
    have H := H1
    clear H1
    obtain rfl := Option.some.inj H
    go_wp2
    go_ret
    exact ⟨by first | rfl | (simp; done) | (simp [*]; done), by repeat (first | exact Drawn0.refl _ | apply Drawn0.step)⟩
   ·
    replace c7 := Bool.eq_false_iff.mpr c7
    subst c7
    have H1 : (impl_locksOk.l0 kj2 a0 1 a1 0) = some r := by rw [if_neg (show ¬ (false = true) by decide)] at H; exact H
    clear H
    have H := H1
    clear H1
    have H' := Aside0.mk H
    clear H
    go_wp2
    go_loopg [5, 15] kj2 (fun kq v5 v15 w' => ∃ (x5_2 : Int) (x15_2 : Int), v5 = .int .i64 x5_2 ∧ v15 = .int .i64 x15_2 ∧ Aside0 (impl_locksOk.l0 kq a0 x5_2 a1 x15_2 = some r) ∧ Aside0 (kq ≤ kj2) ∧ Drawn0 w w')
    case atStart => exact ⟨(1), (0), (by first | rfl | (simp; done) | (simp [*]; done)), (by first | rfl | (simp; done) | (simp [*]; done)), H', ⟨Nat.le_refl _⟩, by repeat (first | exact Drawn0.refl _ | apply Drawn0.step)⟩
    case round =>
     clear H'
     try clear c1
     try clear c2
     try clear p2
     try clear c5
     try clear c7
     try clear p2
     obtain ⟨x5_2, x15_2, rfl, rfl, HA, HK2, ⟨m2, rfl⟩⟩ := hrel
     cases gk with
     | zero => exact absurd HA.out (by simp [impl_locksOk.l0])
     | succ k2 =>
      have H := HA.out
      clear HA
      simp only [impl_locksOk.l0] at H
      by_cases c8 : x15_2 < a1
      ·
       rw [if_pos c8] at H
       have c8b0 : decide (x15_2 < a1) = true := decide_eq_true c8
       clear c8
       have H' := Aside0.mk H
       clear H
       go_wp2
       go_roundg k2
       case measure => have := HJ2.out; have := HK2.out; omega
       case rel => exact ⟨(wrap64 (x5_2 * a0)), (wrap64 (x15_2 + 1)), (by first | rfl | (simp; done) | (simp [*]; done)), (by first | rfl | (simp; done) | (simp [*]; done)), H', ⟨by have := HJ2.out; have := HK2.out; omega⟩, by repeat (first | exact Drawn0.refl _ | apply Drawn0.step)⟩
      ·
       rw [if_neg c8] at H
       have c8b0 : decide (x15_2 < a1) = false := decide_eq_false c8
       clear c8
       obtain rfl := Option.some.inj H
       go_wp2
       go_ret
       exact ⟨by first | rfl | (simp; done) | (simp [*]; done), by repeat (first | exact Drawn0.refl _ | apply Drawn0.step)⟩

end Go.Proofs.Ytbpmgfdjcblhnaa.P

-- printed by xprint.py
namespace Go.Proofs.Ytbpmgfdjcblhnaa.P
open Go.RowKit Go.Proofs.YtbpmgfdjcblhnaaW.PrintWords Go.Proofs.YtbpmgfdjcblhnaaW.PrintLast Go.Proofs.YtbpmgfdjcblhnaaW.PrintMore
attribute [local go_sem] max2_int min2_int max_two min_two max_three min_three max_four min_four   -- for this text's walks alone
set_option linter.unusedVariables false
set_option linter.unusedSimpArgs false

/-! ### impl_OpenAllText: function 5 -/
/-! The pieces of the first text that opens all locks: rows of the call's own, put behind one another through a pointer. -/
def loopR {α : Type} (rec : Int → α → Option α) : Nat → Int → α → Option α
 | 0, _, s => some s
 | n + 1, d, s => (rec d s).bind fun s' => loopR rec n (d + 1) s'
def lastR (now : List Int) (p : Int) : Int := rd now (wrap64 ((now.length : Int) - p))
def roundsF : Nat → Int → Int → List Int → Int → List Int → Option (List Int)
 | 0, _, _, _, _, _ => none
 | k + 1, dg, lg, now, p, out =>
  if 0 ≤ lg ∧ lg ≤ 1000 ∧ dg ≤ 1000 ∧ 1 ≤ p ∧ p ≤ (now.length : Int) ∧ now.length ≤ 1000 ∧ out.length ≤ 100000 then
   (if (now.length : Int) = lg + 1 then (if Int.tmod lg p = 0 then (if p + 1 ≤ (now.length : Int) then some (out ++ (now.take (wrap64 (p + 1)).toNat).drop 1) else none) else some out)
    else (if -1000 ≤ lastR now p ∧ lastR now p ≤ 1000 then (roundsF k dg lg (now ++ [lastR now p]) p out).bind fun s => loopR (fun d s => roundsF k dg lg (now ++ [d]) (now.length : Int) s) (dg - (lastR now p + 1)).toNat (lastR now p + 1) s else none))
  else none
theorem loopR_mono {α : Type} (r1 r2 : Int → α → Option α) (h : ∀ d s, LeO (r1 d s) (r2 d s)) : ∀ (n : Nat) (d : Int) (s : α), LeO (loopR r1 n d s) (loopR r2 n d s)
 | 0, _, _ => LeO.refl _
 | n + 1, d, s => by
  unfold loopR
  exact LeO.bind (h d s) (fun s' => loopR_mono r1 r2 h n (d + 1) s')
theorem roundsF_mono : ∀ (k : Nat) (dg lg : Int) (now : List Int) (p : Int) (out : List Int), LeO (roundsF k dg lg now p out) (roundsF (k + 1) dg lg now p out)
 | 0, _, _, _, _, _ => LeO.none _
 | k + 1, dg, lg, now, p, out => by
  unfold roundsF
  refine LeO.ite (LeO.ite (LeO.refl _) (LeO.ite (LeO.bind (roundsF_mono k _ _ _ _ _) (fun s => ?_)) (LeO.refl _))) (LeO.refl _)
  exact loopR_mono _ _ (fun d s => roundsF_mono k _ _ _ _ _) _ _ _
theorem keptO_trans {w W W2 : World} {S : Nat → Prop} (h : Kept w W S) (k : Kept W W2 S) : Kept w W2 S := Kept.then_ h k (fun _ hs => .inl hs)
theorem keptO_refl (W : World) (S : Nat → Prop) : Kept W W S := ⟨Nat.le_refl _, fun _ _ _ => rfl⟩
theorem keptO_none {W W' : World} {S : Nat → Prop} (h : Kept W W' (fun _ => False)) : Kept W W' S := ⟨h.1, fun i hi _ => h.2 i hi (fun e => e)⟩
/-- The row can be read whatever becomes of these blocks. -/
def RowP (Q : Nat → Prop) (W : World) (A : Option Addr) (xs : List Int) : Prop := ∀ W', Kept W W' Q → Kd.C (Kd.int .i64) W' A xs.length xs
/-- The variable's row, in blocks of P. -/
def OutC (P : Nat → Prop) (B b : Nat) (W : World) (xs : List Int) : Prop := ∃ (A : Option Addr) (c : Nat), W.heap[b]? = some (.cells #[.slice A xs.length c] 29 (0, 0)) ∧ Kd.R (Kd.int .i64) 3 W B P (.slice A xs.length c) xs
section
variable {P Q : Nat → Prop} {B b : Nat} {W W1 : World} {A : Option Addr} {xs : List Int} {e base n c : Nat}
theorem RowP.go {Q' : Nat → Prop} (h : RowP Q W A xs) (hk : Kept W W1 Q) (hq : ∀ k, Q' k → Q k ∨ W.heap.size ≤ k) : RowP Q' W1 A xs := fun W' h' => h W' (Kept.then_ hk h' hq)
theorem OutC.go (h : OutC P B b W xs) (hk : Kept W W1 (fun _ => False)) : OutC P B b W1 xs := by
 obtain ⟨A, c, h1, h2⟩ := h
 exact ⟨A, c, (hk.2 b (blk_lt h1) (fun e_ => e_)).trans h1, Kd.R_kept h2 hk (fun _ _ e_ => e_)⟩
theorem OutC.mono (h : OutC P B b W xs) (hq : ∀ k, P k → Q k) : OutC Q B b W xs := by
 obtain ⟨A, c, h1, h2⟩ := h
 exact ⟨A, c, h1, Kd.R_mono h2 hq⟩
theorem OutC.bound (h : OutC P B b W xs) : OutC (fun k => P k ∧ k < W.heap.size) B b W xs := by
 obtain ⟨A, c, h1, h2⟩ := h
 exact ⟨A, c, h1, Kd.R_mono (Kd.R_bound h2) (fun k hk => ⟨hk.1, hk.2.2.1⟩)⟩
theorem OutC.lt (h : OutC P B b W xs) : b < W.heap.size := by
 obtain ⟨A, c, h1, h2⟩ := h
 exact blk_lt h1
theorem rowP_of (h : Kd.R (Kd.int .i64) e W base P (.slice A n c) xs) (hok : ∀ k, P k → ¬ Q k) : n = xs.length ∧ n ≤ c ∧ RowP Q W A xs :=
 ⟨(Kd.R_reads' h).1, (Kd.R_reads' h).2.1, fun W' hk => (Kd.R_reads' (Kd.R_step h (fun k hk1 hl => hk.2 k hl (hok k hk1)))).2.2⟩
end
theorem olds_of {W : World} {ad : Addr} {xs : List Int} (h : Kd.C (Kd.int .i64) W (some ad) xs.length xs) : ∀ j u, (encs (Value.int .i64) xs)[j]? = some u → W.cell? (ad.add j) = some u := by
 intro j u hu
 have hj : j < xs.length := by
  have := (List.getElem?_eq_some_iff.1 hu).1
  rwa [encs_length] at this
 obtain ⟨ad', e, hc⟩ := Kd.at_int h (j : Int) (by omega) (by omega)
 cases e
 rw [Int.toNat_natCast] at hc
 rw [hc, ← hu, encs_get (d := (0 : Int)) xs j hj]
 unfold rd
 rw [Int.toNat_natCast]
set_option maxHeartbeats 8000000 in
set_option maxRecDepth 100000 in
theorem clip_calls (A : Option Addr) (n c : Nat) (hc : n ≤ c) (hn : n ≤ 9223372036854775807) (w : World) :
  Calls Try.prog 16 #[.slice A n c] w fun e w' => e = .returned (.slice A n n) ∧ w' = w := by
 have hs : (Instr.slice 29 (.slice A n c) none (some (.int .i64 (n : Int))) (some (.int .i64 (n : Int)))).run Try.prog w = .ok (.slice A n n) w := by
  have e1 := fun code => run_sliceBound (P := Try.prog) (w := w) .i64 (n : Int) c code (by omega) (by omega)
  have e2 := fun code => run_sliceBound (P := Try.prog) (w := w) .i64 (n : Int) n code (by omega) (by omega)
  simp [Instr.slice, Instr.sliceBounds, Sem.run, Result.andThen, e1, e2]
  intro _
  cases A with
  | none => rfl
  | some ad => cases ad; simp [Addr.add]
 go_enter Try.func16, Try.ntmps16
 go_wp2
 go_ret
 exact ⟨rfl, rfl⟩
section
variable (b B : Nat) (w0 : World)
set_option maxHeartbeats 8000000 in
set_option maxRecDepth 100000 in
theorem rounds_calls (hBs : B ≤ w0.heap.size) (hBb : B ≤ b) : ∀ (k : Nat) (P : Nat → Prop) (dg lg : Int) (now : List Int) (p : Int) (out r : List Int) (A : Option Addr) (c : Nat) (W : World), Below B w0 W → ¬ P b → OutC P B b W out → RowP (fun k => P k ∨ k = b) W A now → now.length ≤ c → roundsF k dg lg now p out = some r →
  Calls Try.prog 10 #[.int .i64 dg, .int .i64 lg, .slice A now.length c, .int .i64 p, .pointer (some ⟨b, 0, none⟩)] W fun e W' => e = .returned (.tuple #[]) ∧ Below B w0 W' ∧ OutC (fun k => P k ∨ W.heap.size ≤ k) B b W' r ∧ Kept W W' (fun k => P k ∨ k = b) := by
 intro k
 induction k with
 | zero => intro P dg lg now p out r A c W _ _ _ _ _ h; cases h
 | succ k ih =>
  intro P dg lg now p out r A c W hB hPb hO hN hc h
  unfold roundsF at h
  split at h
  ·
   rename_i hg
   obtain ⟨g1, g2, g3, g4, g5, g6, g7⟩ := hg
   have hlg : wrap64 (lg + 1) = lg + 1 := IntWalk.wrap64_in _ ⟨by omega, by omega⟩
   have hpp : wrap64 (p + 1) = p + 1 := IntWalk.wrap64_in _ ⟨by omega, by omega⟩
   have hp0 : (p == 0) = false := by simpa using (by omega : ¬ p = 0)
   have hp1 : (p = 0) = False := eq_false (by omega)
   have IH := Aside0.mk ih
   have HB := Aside0.mk hB
   have HP := Aside0.mk hPb
   have HO := Aside0.mk hO
   have HN := Aside0.mk hN
   have HC := Aside0.mk hc
   have GG := Aside0.mk (And.intro g1 (And.intro g2 (And.intro g3 (And.intro g4 (And.intro g5 (And.intro g6 g7))))))
   have LL := Aside0.mk (And.intro hlg hpp)
   split at h
   ·
    rename_i e1
    have c0 : ((now.length : Int) == wrap64 (lg + 1)) = true := by rw [hlg]; exact beq_iff_eq.mpr e1
    split at h
    ·
     rename_i e2
     split at h
     ·
      rename_i e3
      have c1 : (Int.tmod lg p == 0) = true := beq_iff_eq.mpr e2
      obtain ⟨mid, hmid⟩ : ∃ m_ : List Int, m_ = (now.take (wrap64 (p + 1)).toNat).drop 1 := ⟨_, rfl⟩
      have hml : mid.length ≤ 1000 := by rw [hmid, List.length_drop, List.length_take]; omega
      rw [← hmid] at h
      have HMD := Aside0.mk (And.intro hmid hml)
      obtain rfl := Option.some.inj h
      clear ih hB hPb hO hN hc g1 g2 g3 g4 g5 g6 g7 hlg hpp h e1 e2 hml hmid
      go_enter Try.func10, Try.ntmps10
      go_wp2
      obtain ⟨Ao, co, hh, hR⟩ := id HO.out
      have hinf : (Try.prog.info? 3).map (fun i => (i.zero, i.size, i.bytes)) = some (some (.int .i64 0), 1, 8) := by kernel_rfl
      obtain ⟨i0, hi0, hz0, hsz0, hby0⟩ := info_parts hinf
      obtain ⟨A1, hcut, hA1, hC1⟩ := print_mid_of (P := Try.prog) (Value.int .i64) (0 : Int) 29 3 .i64 .i64 Try.underlying29 hi0 hsz0 A c now 1 (wrap64 (p + 1)) (by omega) (by have := GG.out; have := LL.out; omega) (by have := LL.out; omega) HC.out
      simp only [show Int.toNat 1 = 1 from rfl, ← HMD.out.1] at hcut hA1 hC1
      have hcell : W.cell? ⟨b, 0, none⟩ = some (.slice Ao out.length co) := (blk_cell hh 0).trans rfl
      have HD := Aside0.mk (show Kd.R (Kd.int .i64) 3 W.drew B (fun k_ => P k_ ∨ W.heap.size ≤ k_) (.slice Ao out.length co) out ∧ Kd.C (Kd.int .i64) W.drew A1 mid.length mid ∧ Below B w0 W.drew ∧ B ≤ W.drew.heap.size ∧ (out.length + mid.length) * 8 ≤ 140737488355328 ∧ W.drew.cell? ⟨b, 0, none⟩ = some (.slice Ao out.length co) ∧ W.drew.heap[b]? = some (.cells #[.slice Ao out.length co] 29 (0, 0)) ∧ some b ≠ (Value.slice Ao out.length co).ownBlock from ⟨Kd.R_drew (Kd.R_mono hR (fun k_ h_ => .inl h_)), Kd.C_drew (Kd.C_of_reads (h1 := fun _ => rfl) (hA1 _ (Kd.reads_of_C (HN.out W (keptO_refl _ _))))), below_drew1 HB.out, Nat.le_trans hBb (Nat.le_of_lt (blk_lt hh)), by have h1_ := GG.out; have h2_ := HMD.out.2; omega, hcell, hh, fun e_ => HP.out (hR.1 b e_.symm)⟩)
      have HZ := Aside0.mk (And.intro hR hh)
      clear hR hh hA1 hC1 hi0 hsz0 hcell hz0 hby0 hinf
      refine start_ (n := 11) (S := fun w' => w'.cell? ⟨b, 0, none⟩ = some (.slice Ao out.length co)) (ds := [10]) #[false, false, false, false, false, false, false, false, false, false, false] (by kernel_rfl) rfl rfl (HD.out.2.2.2.2.2.1) (fun hHeld => ?_)
      refine pure_ (i := 0) (N := some 21) (v := ?_) (a' := ?_) #[true, false, false, false, false, false, false, false, false, false, false] rfl rfl (by kernel_rfl) (fun _ _ _ h => h) (Or.inl ⟨by rfl, ?_⟩) ?_ ?_
      rotate_left
      ·
       intro w'
       go_simp
       with_reducible rfl
      rotate_left
      ·
       simp only [Act.put, List.setIfInBounds_toArray, List.set_cons_zero, List.set_cons_succ, i64_w, i32_w]
       rfl
      refine pure_ (i := 1) (N := some 22) (v := ?_) (a' := ?_) #[true, true, false, false, false, false, false, false, false, false, false] rfl rfl (by kernel_rfl) (fun _ _ _ h => h) (Or.inl ⟨by rfl, ?_⟩) ?_ ?_
      rotate_left
      ·
       intro w'
       go_simp
       with_reducible rfl
      rotate_left
      ·
       simp only [Act.put, List.setIfInBounds_toArray, List.set_cons_zero, List.set_cons_succ, i64_w, i32_w]
       rfl
      refine pure_ (i := 2) (N := some 23) (v := ?_) (a' := ?_) #[true, true, true, false, false, false, false, false, false, false, false] rfl rfl (by kernel_rfl) (fun _ _ _ h => h) (Or.inl ⟨by rfl, ?_⟩) ?_ ?_
      rotate_left
      ·
       intro w'
       go_simp
       with_reducible rfl
      rotate_left
      ·
       simp only [Act.put, List.setIfInBounds_toArray, List.set_cons_zero, List.set_cons_succ, i64_w, i32_w]
       rfl
      refine pure_ (i := 4) (N := some 25) (v := ?_) (a' := ?_) #[true, true, true, false, true, false, false, false, false, false, false] rfl rfl (by kernel_rfl) (fun _ _ _ h => h) (Or.inl ⟨by rfl, ?_⟩) ?_ ?_
      rotate_left
      ·
       intro w'
       go_simp
       with_reducible rfl
      rotate_left
      ·
       simp only [Act.put, List.setIfInBounds_toArray, List.set_cons_zero, List.set_cons_succ, i64_w, i32_w]
       rfl
      refine pure_ (i := 5) (N := some 26) (v := ?_) (a' := ?_) #[true, true, true, false, true, true, false, false, false, false, false] rfl rfl (by kernel_rfl) (fun _ _ _ h => h) (Or.inl ⟨by rfl, ?_⟩) ?_ ?_
      rotate_left
      ·
       intro w'
       go_simp
       with_reducible rfl
      rotate_left
      ·
       simp only [Act.put, List.setIfInBounds_toArray, List.set_cons_zero, List.set_cons_succ, i64_w, i32_w]
       rfl
      refine pure_ (i := 6) (N := some 27) (v := ?_) (a' := ?_) #[true, true, true, false, true, true, true, false, false, false, false] rfl rfl (by kernel_rfl) (fun _ _ _ h => h) (Or.inl ⟨by rfl, ?_⟩) ?_ ?_
      rotate_left
      ·
       intro w'
       go_simp
       with_reducible rfl
      rotate_left
      ·
       simp only [Act.put, List.setIfInBounds_toArray, List.set_cons_zero, List.set_cons_succ, i64_w, i32_w]
       rfl
      refine pure_ (i := 7) (N := some 28) (v := ?_) (a' := ?_) #[true, true, true, false, true, true, true, true, false, false, false] rfl rfl (by kernel_rfl) (fun _ _ _ h => h) (Or.inl ⟨by rfl, ?_⟩) ?_ ?_
      rotate_left
      ·
       intro w'
       go_simp
       with_reducible rfl
      rotate_left
      ·
       simp only [Act.put, List.setIfInBounds_toArray, List.set_cons_zero, List.set_cons_succ, i64_w, i32_w]
       rfl
      refine take_ (i := 3) (N := some 24) (v := ?_) (a' := ?_) #[true, true, true, true, true, true, true, true, false, false, false] rfl rfl (by kernel_rfl) (fun _ _ _ h => h) (Or.inl ⟨by rfl, ?_⟩) hHeld ?_ ?_
      rotate_left
      ·
       intro w' s0
       go_simp
       with_reducible rfl
      rotate_left
      ·
       simp only [Act.put, List.setIfInBounds_toArray, List.set_cons_zero, List.set_cons_succ, i64_w, i32_w]
       rfl
      refine one_ (i := 8) (N := some 29) #[true, true, true, true, true, true, true, true, true, false, false] rfl rfl (by kernel_rfl) (by decide) (fun K hK => ?_)
      refine Kd.R_append_rows_step (P := Try.prog) (w0 := w0) (Kd.int .i64) B (by rfl) (.tmp 24) (.tmp 28) 29 3 (.int .i64 0) 8 rfl Try.underlying29 (by kernel_rfl) rfl (by decide) (by decide) (.slice Ao out.length co) out mid A1 mid.length (c - 1) (fun k_ => P k_ ∨ W.heap.size ≤ k_) (fun _ => False) rfl rfl HD.out.1 HD.out.2.1 (fun _ _ h_ => h_) (fun _ h_ => h_.elim) (fun _ h_ => .inr h_) HD.out.2.2.1 HD.out.2.2.2.1 HD.out.2.2.2.2.1 ?_
      intro v9 w9 ho9 hb9 hg9 hat9
      obtain ⟨A9, c9, he9⟩ := Kd.R_slice ho9
      subst he9
      have hx9 := cell_grown hg9 HD.out.2.2.2.2.2.1 HD.out.2.2.2.2.2.2.2
      have hbb := (hg9.block b (blk_lt HD.out.2.2.2.2.2.2.1) HD.out.2.2.2.2.2.2.2).trans HD.out.2.2.2.2.2.2.1
      have hf9 : w9.frozen? ⟨b, 0, none⟩ = false := by unfold World.frozen?; simp only [hbb]; rfl
      have H9 := Aside0.mk (And.intro ho9 (And.intro hb9 (And.intro hg9 hbb)))
      clear ho9 hb9 hg9 hat9 hbb
      refine hK.out _ _ (hx9) (fun hHeld => ?_)
      clear hK K
      refine norm_ (a' := ?_) ?_ ?_
      rotate_left
      ·
       show Act.put _ (some 29) _ = _
       simp only [Act.put, List.setIfInBounds_toArray, List.set_cons_zero, List.set_cons_succ, i64_w, i32_w]
       rfl
      refine pure_ (i := 9) (N := some 30) (v := ?_) (a' := ?_) #[true, true, true, true, true, true, true, true, true, true, false] rfl rfl (by kernel_rfl) (fun _ _ _ h => h) (Or.inl ⟨by rfl, ?_⟩) ?_ ?_
      rotate_left
      ·
       intro w'
       go_simp
       with_reducible rfl
      rotate_left
      ·
       simp only [Act.put, List.setIfInBounds_toArray, List.set_cons_zero, List.set_cons_succ, i64_w, i32_w]
       rfl
      refine last_ (i := 10) (N := none) #[true, true, true, true, true, true, true, true, true, true, true] rfl rfl (by kernel_rfl) (by decide) (fun K hK => ?_)
      refine skip_ (w1 := ?_) (by rfl) rfl ?_ ?_
      rotate_left
      ·
       go_simp
       rfl
      refine hK.out _ _ ?_
      clear hK K
      refine done_ (by kernel_rfl) ?_
      go_wp2
      first | go_end0 | ((try simp only [Exit.inBlock, Exit.then]); refine bodyPost_ret (results_none rfl _ _ _) rfl ?_)
      have hlt := blk_lt HZ.out.2
      have hk9 : Kept W w9 (fun k_ => P k_ ∨ k_ = b) := Kept.of_grown H9.out.2.2.1 (keptO_refl W _) (fun k_ e_ => .inl (.inl (HZ.out.1.1 k_ e_)))
      refine ⟨rfl, H9.out.2.1.setCell (p := ⟨b, 0, none⟩) hBb _, ⟨A9, c9, blk_put (cs := #[.slice Ao out.length co]) H9.out.2.2.2 0 _ (by rw [List.length_append]; rfl), Kd.R_kept H9.out.1 ((keptO_refl w9 (fun k_ => k_ = b)).setCell (p := ⟨b, 0, none⟩) (.inl rfl) _) (fun k_ h_ e_ => by subst e_; exact h_.elim HP.out (fun h2_ => absurd hlt (Nat.not_lt.mpr h2_)))⟩, hk9.setCell (p := ⟨b, 0, none⟩) (.inl (.inr rfl)) _⟩
     ·
      cases h
    ·
     rename_i e2
     have c1 : (Int.tmod lg p == 0) = false := beq_eq_false_iff_ne.mpr e2
     obtain rfl := Option.some.inj h
     clear ih hB hPb hO hN hc g1 g2 g3 g4 g5 g6 g7 hlg hpp h e1 e2
     go_enter Try.func10, Try.ntmps10
     go_wp2
     first | go_end0 | ((try simp only [Exit.inBlock, Exit.then]); refine bodyPost_ret (results_none rfl _ _ _) rfl ?_)
     exact ⟨rfl, HB.out, HO.out.mono (fun k hk => .inl hk), keptO_refl _ _⟩
   ·
    rename_i e1
    split at h
    ·
     rename_i e2
     have c0 : ((now.length : Int) == wrap64 (lg + 1)) = false := by rw [hlg]; exact beq_eq_false_iff_ne.mpr e1
     obtain ⟨s, hs, h⟩ := Option.bind_eq_some_iff.mp h
     have hwi : wrap64 ((now.length : Int) - p) = (now.length : Int) - p := IntWalk.wrap64_in _ ⟨by omega, by omega⟩
     obtain ⟨adn, hAn, hxn⟩ := Kd.at_int (HN.out W (keptO_refl _ _)) (wrap64 ((now.length : Int) - p)) (by omega) (by omega)
     subst hAn
     change W.cell? _ = some (.int .i64 (lastR now p)) at hxn
     have p1 : (0 ≤ wrap64 ((now.length : Int) - p)) = True := eq_true (by omega)
     have q1 : (wrap64 ((now.length : Int) - p) < (now.length : Int)) = True := eq_true (by omega)
     obtain ⟨y, hy⟩ : ∃ y, lastR now p = y := ⟨_, rfl⟩
     rw [hy] at hs h hxn e2
     obtain ⟨nw, hnw⟩ : ∃ nw : List Int, nw = now ++ [y] := ⟨_, rfl⟩
     rw [← hnw] at hs
     have hw5 : wrap64 (y + 1) = y + 1 := IntWalk.wrap64_in _ ⟨by omega, by omega⟩
     have NW := Aside0.mk hnw
     have HS := Aside0.mk hs
     have HH := Aside0.mk h
     have EE := Aside0.mk (And.intro e2 hw5)
     have HINF := Aside0.mk (show (Try.prog.info? 3).map (fun i => (i.zero, i.size, i.bytes)) = some (some (.int .i64 0), 1, 8) by kernel_rfl)
     have hPb2 : ¬ (P b ∧ b < W.heap.size) := fun q_ => HP.out q_.1
     have HP2 := Aside0.mk hPb2
     clear ih hB hPb hO hN hc g1 g2 g3 g4 g5 g6 g7 hlg hpp h e1 e2 hs hnw hy hwi hw5 hPb2
     go_enter Try.func10, Try.ntmps10
     go_wp2_with (first | (go_at_call 16; refine (clip_calls (some adn) now.length c HC.out (by have := GG.out; omega) _).mono ?_; rintro e w3 ⟨rfl, hw3⟩; have hw4 := hw3.symm; subst hw4) | ((with_reducible refine gate_builtin (b := .append) (xs := #[.tmp 41, .tmp 43]) rfl ?_); at_builtin; obtain ⟨i3, hi3, hz3⟩ := Option.map_eq_some_iff.1 HINF.out; obtain ⟨hz0, hz1, hz2⟩ : i3.zero = some (.int .i64 0) ∧ i3.size = 1 ∧ i3.bytes = 8 := (by simpa using hz3); refine wpList_append_grows _ rfl (.tmp 41) (.tmp 43) 29 rfl 3 i3 (.int .i64 0) 1 8 Try.underlying29 hi3 hz0 hz1 hz2 rfl (by decide) (some adn) now.length now.length (encs (Value.int .i64) now) rfl (fun e_ => by cases e_) (by rw [encs_length]; omega) ?olds ⟨W.heap.size, 0, none⟩ 1 1 [.int .i64 y] rfl rfl ?cell ?one (by omega) ?m1 ?m2 ?_; (case olds => (rintro bb eb; cases eb; exact olds_of (HN.out _ (Kept.alloc (keptO_refl W _) _)))); (case cell => (intro j u hu; cases j with | zero => (cases hu; rw [Addr.add_lit]; exact (blk_cell (blk_new _ _) 0).trans rfl) | succ j => cases hu)); (case one => (intro u hu; rw [List.mem_singleton.1 hu]; rfl)); (case m1 => (have := GG.out; simp only [maxLen]; omega)); (case m2 => (have := GG.out; omega)); intro v4 w4 ho4 hg4; have hk4 : Kept W w4 (fun _ => False) := keptO_trans (Kept.alloc (keptO_refl W _) _) ⟨hg4.size, fun i hi _ => hg4.block i hi (by simp)⟩; have hb4 := (HB.out.alloc (Nat.le_trans hBs HB.out.size) (.cells #[.int .i64 y] 3)).grown hg4 (Nat.le_trans hBs (HB.out.alloc (Nat.le_trans hBs HB.out.size) (.cells #[.int .i64 y] 3)).size) (fun k_ hk_ => by cases hk_); have hR4 : Kd.R (Kd.int .i64) 3 w4 0 (fun k_ => W.heap.size ≤ k_) v4 nw := (by rw [NW.out]; exact Kd.R_of_own (by rw [List.length_append, encs_append]; exact own_weaken ho4 (Nat.zero_le _)) (fun k_ hk_ => by obtain ⟨g_, c_, he_, hl_, _⟩ := ho4.form (by omega); rw [he_] at hk_; have : g_ = k_ := (by simpa [Value.ownBlock] using hk_); subst this; have hsz_ : W.heap.size ≤ (W.alloc (.cells #[.int .i64 y] 3)).heap.size := (by simp); omega)); obtain ⟨A4, c4, he4⟩ := Kd.R_slice hR4; subst he4; have hr4 := rowP_of (Q := fun k_ => (P k_ ∧ k_ < W.heap.size) ∨ k_ = b) hR4 (fun k_ h1_ h2_ => h2_.elim (fun q_ => absurd q_.2 (Nat.not_lt.mpr h1_)) (fun q_ => absurd (HO.out.lt) (by rw [q_] at h1_; exact Nat.not_lt.mpr h1_))); have K4 := Aside0.mk (And.intro hb4 (And.intro hk4 (And.intro hr4.2.1 hr4.2.2))); clear hk4 hb4 hR4 hr4 ho4 hg4 hi3 hz3 hz0 hz1 hz2) | (go_at_call 10; refine (IH.out (fun k_ => P k_ ∧ k_ < W.heap.size) dg lg nw p out s A4 c4 w4 K4.out.1 HP2.out ((HO.out.bound).go K4.out.2.1) K4.out.2.2.2 K4.out.2.2.1 HS.out).mono ?_; rintro e w5 ⟨rfl, h51, h52, h53⟩; have K5 := Aside0.mk (And.intro h51 (And.intro (h52.mono (Q := fun k_ => P k_ ∨ W.heap.size ≤ k_) (fun k_ h_ => h_.elim (fun q_ => .inl q_.1) (fun q_ => .inr (Nat.le_trans K4.out.2.1.1 q_)))) (Kept.then_ (S := fun k_ => P k_ ∨ k_ = b) (keptO_none K4.out.2.1) h53 (fun k_ h_ => h_.elim (fun q_ => .inl (.inl q_.1)) (fun q_ => .inl (.inr q_)))))); clear h51 h52 h53))
     clear hxn p1 q1
     go_loopg [11] (dg - (y + 1)).toNat (fun gg v11 w' => ∃ (x : Int), v11 = .int .i64 x ∧ Aside0 (∃ (σ : List Int), -1000 ≤ x ∧ x ≤ 1001 ∧ (dg - x).toNat ≤ gg ∧ Below B w0 w' ∧ OutC (fun k_ => P k_ ∨ W.heap.size ≤ k_) B b w' σ ∧ Kept W w' (fun k_ => P k_ ∨ k_ = b) ∧ loopR (fun d s => roundsF k dg lg (now ++ [d]) (now.length : Int) s) (dg - x).toNat x σ = some r))
     case atStart => exact ⟨_, rfl, ⟨s, by have := EE.out; omega, by have := EE.out; omega, by have := EE.out; omega, K5.out.1, K5.out.2.1, K5.out.2.2, by have := HH.out; rw [EE.out.2]; exact this⟩⟩
     case round =>
      obtain ⟨x, rfl, ⟨σ, k1, k2, k3, k4, k5, k6, k7⟩⟩ := hrel
      by_cases hlt : x < dg
      ·
       have c5 : decide (x < dg) = true := decide_eq_true hlt
       have e5 : (dg - x).toNat = (dg - (x + 1)).toNat + 1 := by omega
       rw [e5] at k7
       unfold loopR at k7
       obtain ⟨s2, hs2, k7⟩ := Option.bind_eq_some_iff.mp k7
       obtain ⟨nw, hnw⟩ : ∃ nw : List Int, nw = now ++ [x] := ⟨_, rfl⟩
       have hs3 : roundsF k dg lg nw (now.length : Int) σ = some s2 := by rw [hnw]; exact hs2
       have ew : wrap64 (x + 1) = x + 1 := IntWalk.wrap64_in _ ⟨by omega, by omega⟩
       have hPb3 : ¬ ((P b ∨ W.heap.size ≤ b) ∧ b < wr.heap.size) := fun q_ => q_.1.elim HP.out (fun h_ => absurd HO.out.lt (Nat.not_lt.mpr h_))
       have HP3 := Aside0.mk hPb3
       have NW := Aside0.mk hnw
       have HS3 := Aside0.mk hs3
       have EW := Aside0.mk ew
       have KX := Aside0.mk (And.intro k1 (And.intro k3 hlt))
       have KB := Aside0.mk (And.intro k4 (And.intro k5 k6))
       have K7 := Aside0.mk k7
       clear k1 k2 k3 k4 k5 k6 k7 hs2 hs3 hnw ew hlt e5 hPb3
       go_wp2_with (first | (go_at_call 16; refine (clip_calls (some adn) now.length c HC.out (by have := GG.out; omega) _).mono ?_; rintro e w3 ⟨rfl, hw3⟩; have hw4 := hw3.symm; subst hw4) | ((with_reducible refine gate_builtin (b := .append) (xs := #[.tmp 58, .tmp 60]) rfl ?_); at_builtin; obtain ⟨i3, hi3, hz3⟩ := Option.map_eq_some_iff.1 HINF.out; obtain ⟨hz0, hz1, hz2⟩ : i3.zero = some (.int .i64 0) ∧ i3.size = 1 ∧ i3.bytes = 8 := (by simpa using hz3); refine wpList_append_grows _ rfl (.tmp 58) (.tmp 60) 29 rfl 3 i3 (.int .i64 0) 1 8 Try.underlying29 hi3 hz0 hz1 hz2 rfl (by decide) (some adn) now.length now.length (encs (Value.int .i64) now) rfl (fun e_ => by cases e_) (by rw [encs_length]; omega) ?olds ⟨wr.heap.size, 0, none⟩ 1 1 [.int .i64 x] rfl rfl ?cell ?one (by omega) ?m1 ?m2 ?_; (case olds => (rintro bb eb; cases eb; exact olds_of (HN.out _ (Kept.alloc KB.out.2.2 _)))); (case cell => (intro j u hu; cases j with | zero => (cases hu; rw [Addr.add_lit]; exact (blk_cell (blk_new _ _) 0).trans rfl) | succ j => cases hu)); (case one => (intro u hu; rw [List.mem_singleton.1 hu]; rfl)); (case m1 => (have := GG.out; simp only [maxLen]; omega)); (case m2 => (have := GG.out; omega)); intro v4 w4 ho4 hg4; have hk4 : Kept wr w4 (fun _ => False) := keptO_trans (Kept.alloc (keptO_refl wr _) _) ⟨hg4.size, fun i hi _ => hg4.block i hi (by simp)⟩; have hb4 := (KB.out.1.alloc (Nat.le_trans hBs KB.out.1.size) (.cells #[.int .i64 x] 3)).grown hg4 (Nat.le_trans hBs (KB.out.1.alloc (Nat.le_trans hBs KB.out.1.size) (.cells #[.int .i64 x] 3)).size) (fun k_ hk_ => by cases hk_); have hR4 : Kd.R (Kd.int .i64) 3 w4 0 (fun k_ => wr.heap.size ≤ k_) v4 nw := (by rw [NW.out]; exact Kd.R_of_own (by rw [List.length_append, encs_append]; exact own_weaken ho4 (Nat.zero_le _)) (fun k_ hk_ => by obtain ⟨g_, c_, he_, hl_, _⟩ := ho4.form (by omega); rw [he_] at hk_; have : g_ = k_ := (by simpa [Value.ownBlock] using hk_); subst this; have hsz_ : wr.heap.size ≤ (wr.alloc (.cells #[.int .i64 x] 3)).heap.size := (by simp); omega)); obtain ⟨A4, c4, he4⟩ := Kd.R_slice hR4; subst he4; have hr4 := rowP_of (Q := fun k_ => ((P k_ ∨ W.heap.size ≤ k_) ∧ k_ < wr.heap.size) ∨ k_ = b) hR4 (fun k_ h1_ h2_ => h2_.elim (fun q_ => absurd q_.2 (Nat.not_lt.mpr h1_)) (fun q_ => absurd (KB.out.2.1.lt) (by rw [q_] at h1_; exact Nat.not_lt.mpr h1_))); have K4 := Aside0.mk (And.intro hb4 (And.intro hk4 (And.intro hr4.2.1 hr4.2.2))); clear hk4 hb4 hR4 hr4 ho4 hg4 hi3 hz3 hz0 hz1 hz2) | (go_at_call 10; refine (IH.out (fun k_ => (P k_ ∨ W.heap.size ≤ k_) ∧ k_ < wr.heap.size) dg lg nw (now.length : Int) σ s2 A4 c4 w4 K4.out.1 HP3.out ((KB.out.2.1.bound).go K4.out.2.1) K4.out.2.2.2 K4.out.2.2.1 HS3.out).mono ?_; rintro e w5 ⟨rfl, h51, h52, h53⟩; have K6 := Aside0.mk (And.intro h51 (And.intro (h52.mono (Q := fun k_ => P k_ ∨ W.heap.size ≤ k_) (fun k_ h_ => h_.elim (fun q_ => q_.1) (fun q_ => .inr (Nat.le_trans KB.out.2.2.1 (Nat.le_trans K4.out.2.1.1 q_))))) (Kept.then_ (S := fun k_ => P k_ ∨ k_ = b) KB.out.2.2 (Kept.then_ (S := fun k_ => ((P k_ ∨ W.heap.size ≤ k_) ∧ k_ < wr.heap.size) ∨ k_ = b) (keptO_none K4.out.2.1) h53 (fun k_ h_ => .inl h_)) (fun k_ h_ => h_.elim (fun q_ => q_.1.elim (fun z_ => .inl (.inl z_)) (fun z_ => .inr z_)) (fun q_ => .inl (.inr q_)))))); clear h51 h52 h53))
       go_roundg (dg - (x + 1)).toNat
       case measure => have := KX.out; omega
       case rel => exact ⟨_, rfl, ⟨s2, by have := EW.out; have := KX.out; omega, by have := EW.out; have := KX.out; have := GG.out; omega, by rw [EW.out]; exact Nat.le_refl _, K6.out.1, K6.out.2.1, K6.out.2.2, by rw [EW.out]; exact K7.out⟩⟩
      ·
       have c5 : decide (x < dg) = false := decide_eq_false hlt
       rw [show (dg - x).toNat = 0 by omega] at k7
       obtain rfl := Option.some.inj k7
       have KB := Aside0.mk (And.intro k4 (And.intro k5 k6))
       clear k1 k2 k3 k4 k5 k6 k7 hlt
       go_wp2
       first | go_end0 | ((try simp only [Exit.inBlock, Exit.then]); refine bodyPost_ret (results_none rfl _ _ _) rfl ?_)
       exact ⟨rfl, KB.out⟩
    ·
     cases h
  ·
   cases h
end
def appN : Nat → Nat → List Int → Option (List Int)
 | 0, _, l => some l
 | n + 1, i, l => if i < l.length ∧ l.length ≤ 100000 then appN n (i + 1) (l ++ [rd l (i : Int)]) else none
def impl_OpenAllText.f (k : Nat) (a0 : Int) (a1 : Int) : Option (ByteArray × Bool) := (impl_locksOk.f k a0 a1).bind fun t => if t = true then (if -1000 ≤ a1 ∧ a1 ≤ 1000 then (roundsF k a0 a1 [0] 1 []).bind fun q => (appN (a1 - 1).toNat 0 q).bind fun z => (impl_digitText.f k z).map fun r => (r, true) else none) else some ((⟨#[]⟩ : ByteArray), false)
theorem impl_OpenAllText.mono : ∀ y0 y1 k, LeO (impl_OpenAllText.f k y0 y1) (impl_OpenAllText.f (k + 1) y0 y1) := by
 intro y0 y1 k
 unfold impl_OpenAllText.f
 refine LeO.bind (impl_locksOk.mono _ _ _) (fun t => LeO.ite (LeO.ite (LeO.bind (roundsF_mono _ _ _ _ _ _) (fun q => LeO.bind (LeO.refl _) (fun z => ?_))) (LeO.refl _)) (LeO.refl _))
 intro r h
 obtain ⟨x, hx, rfl⟩ := Option.map_eq_some_iff.1 h
 rw [impl_digitText.mono _ _ x hx]; rfl
set_option maxHeartbeats 8000000 in
set_option maxRecDepth 100000 in
theorem impl_OpenAllText.calls (k : Nat) (a0 : Int) (a1 : Int) (r1 : ByteArray) (r2 : Bool) (w : World) (h : impl_OpenAllText.f k a0 a1 = some (r1, r2)) :
  Calls Try.prog 5 #[.int .i64 a0, .int .i64 a1] w fun e w' => e = .returned (.tuple #[.string r1, .bool r2]) ∧ Below w.heap.size w w' := by
 unfold impl_OpenAllText.f at h
 obtain ⟨t, ht, h⟩ := Option.bind_eq_some_iff.mp h
 have HL := Aside0.mk (fun W => impl_locksOk.calls k a0 a1 t W ht)
 clear ht
 cases t with
 | false =>
  rw [if_neg (by decide)] at h
  obtain ⟨rfl, rfl⟩ := Prod.mk.inj (Option.some.inj h)
  clear h
  go_enter Try.func5, Try.ntmps5
  go_wp2_with (go_at_call 9; refine (HL.out _).mono ?_; rintro e w2 ⟨rfl, ⟨nd, rfl⟩⟩; have B2 := Aside0.mk (pw_below_drewN (Below.refl w.heap.size w) nd); generalize w.drewN nd = w2 at B2 ⊢)
  go_ret2
  exact ⟨rfl, B2.out⟩
 | true =>
  rw [if_pos rfl] at h
  split at h
  ·
   rename_i hb
   obtain ⟨q, hq, h⟩ := Option.bind_eq_some_iff.mp h
   obtain ⟨z, hz, h⟩ := Option.bind_eq_some_iff.mp h
   obtain ⟨s, hs, hr⟩ := Option.map_eq_some_iff.1 h
   obtain ⟨rfl, rfl⟩ := Prod.mk.inj hr
   have hw1 : wrap64 (a1 - 1) = a1 - 1 := IntWalk.wrap64_in _ ⟨by omega, by omega⟩
   have HQ := Aside0.mk hq
   have HZ := Aside0.mk hz
   have HS := Aside0.mk hs
   have HB1 := Aside0.mk (And.intro hb hw1)
   clear hq hz hs hr h hb hw1
   go_enter Try.func5, Try.ntmps5
   go_wp2_with (first | (go_at_call 9; refine (HL.out _).mono ?_; rintro e w2 ⟨rfl, ⟨nd, rfl⟩⟩; have B3 := Aside0.mk (pw_below_drewN (Below.refl w.heap.size w) nd); generalize w.drewN nd = w2 at B3 ⊢) | ((with_reducible refine gate_dst (N := 12) rfl ?_); refine Kd.R_lit (Kd.int .i64) _ 3 ?hg (N := 12) ?hd (xs := ([] : List Int)) (inner := []) (ok := fun _ => True) (okp := fun _ => False) ?hr ?hp (fun _ hk => hk.elim) trivial (Below.refl _ _) (Nat.le_refl _) (by simp) ?_; (case hd => rfl); (case hg => rfl); (case hr => first | (go_simp; done) | (go_simp; rfl)); (case hp => exact (Reps.none _ _)); intro v15 w4 ho4 hb_ hg_ hnew_; clear hg_ hnew_; obtain ⟨A15, c15, he_⟩ := Kd.R_slice ho4; have he2_ : v15 = .slice A15 0 c15 := he_; subst he2_; have S4 := Aside0.mk (And.intro (B3.out.trans (hb_.mono B3.out.size)) (Kd.R_lower (base' := w.heap.size) ho4 B3.out.size)); clear hb_ ho4 he_) | ((with_reducible refine gate_dst (N := 6) rfl ?_); refine box_event ?hg (N := 6) ?hd (cs := #[.slice none 0 0]) (t := 29) ?hr ?_; (case hd => rfl); (case hg => rfl); (case hr => first | (go_simp; done) | (go_simp; rfl)); intro b hg6 w5 hbox hb_; have hc5 : w5.cell? ⟨b, 0, none⟩ = some (.slice none 0 0) := (blk_cell hbox 0).trans rfl; have hf5 : w5.frozen? ⟨b, 0, none⟩ = false := (by unfold World.frozen?; simp only [hbox]; rfl); have R5 := Aside0.mk (Kd.R_below (Kd.R_mono (Kd.R_bound S4.out.2) (ok' := fun k_ => k_ ≠ b) (fun k_ hk_ => (by have := hk_.2.2.1; omega))) hb_); have S5 := Aside0.mk (show Below w.heap.size w w5 ∧ w5.heap[b]? = some (.cells #[.slice none 0 0] 29 (0, 0)) ∧ b < w5.heap.size ∧ w.heap.size ≤ b ∧ True from ⟨S4.out.1.trans (hb_.mono S4.out.1.size), hbox, blk_lt hbox, (by have := S4.out.1.size; omega), trivial⟩); clear hg6 hbox hb_) | ((with_reducible refine gate_dst (N := 15) rfl ?_); refine Kd.R_lit (Kd.int .i64) _ 3 ?hg (N := 15) ?hd (xs := [0]) (inner := [.int .i64 0]) (ok := fun k_ => True) (okp := fun _ => False) ?hr ?hp (fun _ hk => hk.elim) trivial (Below.refl _ _) (Nat.le_refl _) (by simp) ?_; (case hd => rfl); (case hg => rfl); (case hr => first | (go_simp; done) | (go_simp; rfl)); (case hp => exact (Reps.one (show Kd.M (Kd.int .i64) _ _ _ (0 : Int) [.int .i64 0] from rfl) (Reps.none _ _))); intro vn w8 ho8 hb_ hg_ hnew_; clear hg_ hnew_; obtain ⟨An, cn, he_⟩ := Kd.R_slice ho8; subst he_; have S8 := Aside0.mk (And.intro ho8 hb_); clear ho8 hb_) | (go_at_call 10; have hk5 : Kept w5 (w5.setCell ⟨b, 0, none⟩ (.slice A15 0 c15)) (fun k_ => k_ = b) := (keptO_refl w5 (fun k_ => k_ = b)).setCell (p := ⟨b, 0, none⟩) (.inl rfl) _; have hR5 := Kd.R_kept R5.out hk5 (fun _ h_ e_ => h_ e_); have hb5 : Below w.heap.size w (w5.setCell ⟨b, 0, none⟩ (.slice A15 0 c15)) := S5.out.1.setCell (p := ⟨b, 0, none⟩) S5.out.2.2.2.1 _; have hh5 : (w5.setCell ⟨b, 0, none⟩ (.slice A15 0 c15)).heap[b]? = some (.cells #[.slice A15 0 c15] 29 (0, 0)) := blk_put (cs := #[.slice none 0 0]) S5.out.2.1 0 _ rfl; have hO5 : OutC (fun k_ => k_ ≠ b) w.heap.size b (w5.setCell ⟨b, 0, none⟩ (.slice A15 0 c15)) [] := ⟨A15, c15, hh5, hR5⟩; have hk8 : Kept (w5.setCell ⟨b, 0, none⟩ (.slice A15 0 c15)) w8 (fun _ => False) := Kept.of_below S8.out.2 _; have hO8 := (hO5.bound).go hk8; have hlt8 : b < w8.heap.size := Nat.lt_of_lt_of_le hO5.lt S8.out.2.size; have hN8 := rowP_of (Q := fun k_ => (k_ ≠ b ∧ k_ < (w5.setCell ⟨b, 0, none⟩ (.slice A15 0 c15)).heap.size) ∨ k_ = b) (Kd.R_bound S8.out.1) (fun k_ h1_ h2_ => h2_.elim (fun q_ => absurd q_.2 (Nat.not_lt.mpr h1_.2.1)) (fun q_ => absurd hO5.lt (Nat.not_lt.mpr (Nat.le_trans h1_.2.1 (Nat.le_of_eq q_))))); refine (rounds_calls b w.heap.size w (Nat.le_refl _) S5.out.2.2.2.1 k _ a0 a1 [0] 1 [] q An cn w8 (hb5.trans (S8.out.2.mono hb5.size)) (fun h_ => h_.1 rfl) hO8 hN8.2.2 hN8.2.1 HQ.out).mono ?_; rintro e w9 ⟨rfl, h91, h92, h93⟩; have S9 := Aside0.mk (And.intro h91 (h92.mono (Q := fun k_ => k_ ≠ b) (fun k_ h_ => h_.elim (fun z_ => z_.1) (fun z_ e_ => by subst e_; exact absurd hlt8 (Nat.not_lt.mpr z_))))); clear h91 h92 h93 hk5 hR5 hb5 hh5 hO5 hk8 hO8 hlt8 hN8))
   go_loopg [19] (a1 - 1).toNat (fun gg v19 w' => ∃ (x19 : Int), v19 = .int .i64 x19 ∧ Aside0 (∃ (i : Nat) (xs : List Int), x19 = i ∧ (a1 - 1).toNat - i ≤ gg ∧ i ≤ (a1 - 1).toNat ∧ Below w.heap.size w w' ∧ OutC (fun k_ => k_ ≠ b) w.heap.size b w' xs ∧ appN ((a1 - 1).toNat - i) i xs = some z))
   case atStart => exact ⟨0, rfl, ⟨0, q, rfl, by omega, by omega, S9.out.1, S9.out.2, HZ.out⟩⟩
   case round =>
    obtain ⟨x19, rfl, ⟨i, xs, hx, k1, k2, k3, k4, k5⟩⟩ := hrel
    by_cases hlt : i < (a1 - 1).toNat
    ·
     have c5 : decide (x19 < wrap64 (a1 - 1)) = true := decide_eq_true (by have := HB1.out; omega)
     have e5 : (a1 - 1).toNat - i = ((a1 - 1).toNat - (i + 1)) + 1 := by omega
     rw [e5] at k5
     unfold appN at k5
     split at k5
     ·
      rename_i hin
      obtain ⟨Ao, co, hh, hR⟩ := k4
      have hrd := Kd.R_reads' hR
      obtain ⟨ado, hA, hxc⟩ := Kd.at_int hrd.2.2 x19 (by omega) (by omega)
      subst hA
      obtain ⟨y, hy⟩ : ∃ y, rd xs (i : Int) = y := ⟨_, rfl⟩
      rw [hx, hy] at hxc
      rw [← hx] at hxc
      rw [hy] at k5
      have p5 : (0 ≤ x19) = True := eq_true (by omega)
      have q5 : (x19 < (xs.length : Int)) = True := eq_true (by omega)
      have ew : wrap64 (x19 + 1) = ((i + 1 : Nat) : Int) := by rw [IntWalk.wrap64_in _ ⟨by omega, by have := HB1.out; omega⟩]; omega
      have hcell : wr.cell? ⟨b, 0, none⟩ = some (.slice (some ado) xs.length co) := (blk_cell hh 0).trans rfl
      have HD := Aside0.mk (show Kd.R (Kd.int .i64) 3 wr.drew w.heap.size (fun k_ => k_ ≠ b) (.slice (some ado) xs.length co) xs ∧ Below w.heap.size w wr.drew ∧ w.heap.size ≤ wr.drew.heap.size ∧ (xs.length + 1) * 8 ≤ 140737488355328 ∧ wr.drew.cell? ⟨b, 0, none⟩ = some (.slice (some ado) xs.length co) ∧ wr.drew.cell? (ado.add x19.toNat) = some (.int .i64 y) ∧ b < wr.drew.heap.size from ⟨Kd.R_drew hR, below_drew1 k3, k3.size, by omega, hcell, hxc, blk_lt hh⟩)
      have HX := Aside0.mk (show wr.drew.heap[b]? = some (.cells #[.slice (some ado) xs.length co] 29 (0, 0)) from hh)
      have KX := Aside0.mk (And.intro k1 (And.intro k2 hlt))
      have EW := Aside0.mk ew
      have K5 := Aside0.mk k5
      have HBb := S5.out.2.2.2.1
      clear hx k1 k2 k3 k5 hlt e5 hin hh hR hrd hcell hxc hy ew
      go_wp2
      refine start_ (n := 8) (S := fun w' => w'.cell? ⟨b, 0, none⟩ = some (.slice (some ado) xs.length co) ∧ w'.cell? (ado.add x19.toNat) = some (.int .i64 y)) (ds := [6, 7]) #[false, false, false, false, false, false, false, false] (by kernel_rfl) rfl rfl ⟨HD.out.2.2.2.2.1, HD.out.2.2.2.2.2.1⟩ (fun hHeld => ?_)
      refine pure_ (i := 2) (N := some 24) (v := ?_) (a' := ?_) #[false, false, true, false, false, false, false, false] rfl rfl (by kernel_rfl) (fun _ _ _ h => h) (Or.inl ⟨by rfl, ?_⟩) ?_ ?_
      rotate_left
      ·
       intro w'
       go_simp
       with_reducible rfl
      rotate_left
      ·
       simp only [Act.put, List.setIfInBounds_toArray, List.set_cons_zero, List.set_cons_succ, i64_w, i32_w]
       rfl
      refine take_ (i := 0) (N := some 22) (v := ?_) (a' := ?_) #[true, false, true, false, false, false, false, false] rfl rfl (by kernel_rfl) (fun _ _ _ h => h) (Or.inl ⟨by rfl, ?_⟩) hHeld ?_ ?_
      rotate_left
      ·
       rintro w' ⟨s0, s1⟩
       go_simp
       with_reducible rfl
      rotate_left
      ·
       simp only [Act.put, List.setIfInBounds_toArray, List.set_cons_zero, List.set_cons_succ, i64_w, i32_w]
       rfl
      refine take_ (i := 1) (N := some 23) (v := ?_) (a' := ?_) #[true, true, true, false, false, false, false, false] rfl rfl (by kernel_rfl) (fun _ _ _ h => h) (Or.inl ⟨by rfl, ?_⟩) hHeld ?_ ?_
      rotate_left
      ·
       rintro w' ⟨s0, s1⟩
       go_simp
       with_reducible rfl
      rotate_left
      ·
       simp only [Act.put, List.setIfInBounds_toArray, List.set_cons_zero, List.set_cons_succ, i64_w, i32_w]
       rfl
      refine pure_ (i := 3) (N := some 25) (v := ?_) (a' := ?_) #[true, true, true, true, false, false, false, false] rfl rfl (by kernel_rfl) (fun _ _ _ h => h) (Or.inl ⟨by rfl, ?_⟩) ?_ ?_
      rotate_left
      ·
       intro w'
       go_simp
       with_reducible rfl
      rotate_left
      ·
       simp only [Act.put, List.setIfInBounds_toArray, List.set_cons_zero, List.set_cons_succ, i64_w, i32_w]
       rfl
      refine take_ (i := 4) (N := some 26) (v := ?_) (a' := ?_) #[true, true, true, true, true, false, false, false] rfl rfl (by kernel_rfl) (fun _ _ _ h => h) (Or.inl ⟨by rfl, ?_⟩) hHeld ?_ ?_
      rotate_left
      ·
       rintro w' ⟨s0, s1⟩
       go_simp
       with_reducible rfl
      rotate_left
      ·
       simp only [Act.put, List.setIfInBounds_toArray, List.set_cons_zero, List.set_cons_succ, i64_w, i32_w]
       rfl
      refine one_ (i := 5) (N := some 27) #[true, true, true, true, true, true, false, false] rfl rfl (by kernel_rfl) (by decide) (fun K hK => ?_)
      refine value_ (w1 := ?_) (v := ?_) (by rfl) rfl ?_ ?_
      rotate_left 2
      ·
       go_simp
       constructor
       ·
        rfl
       ·
        rfl
      have hx5 := (World.cell?_alloc_lt wr.drew (.cells #[.int .i64 y] 3) ⟨b, 0, none⟩ (by exact HD.out.2.2.2.2.2.2)).trans HD.out.2.2.2.2.1
      have hy5 := (World.cell?_alloc_lt wr.drew (.cells #[.int .i64 y] 3) (ado.add x19.toNat) (World.block_lt_of_cell? wr.drew _ HD.out.2.2.2.2.2.1)).trans HD.out.2.2.2.2.2.1
      refine hK.out _ _ ⟨hx5, hy5⟩ (fun hHeld => ?_)
      clear hK K
      refine norm_ (a' := ?_) ?_ ?_
      rotate_left
      ·
       show Act.put _ (some 27) _ = _
       simp only [Act.put, List.setIfInBounds_toArray, List.set_cons_zero, List.set_cons_succ, i64_w, i32_w]
       rfl
      refine last_ (i := 6) (N := some 28) #[true, true, true, true, true, true, true, false] rfl rfl (by kernel_rfl) (by decide) (fun K hK => ?_)
      refine Kd.R_append_step (P := Try.prog) (w0 := w) (Kd.int .i64) w.heap.size (by rfl) (.tmp 22) (.tmp 27) 29 3 (.int .i64 0) 8 rfl Try.underlying29 (by kernel_rfl) rfl (by decide) (by decide) (.slice (some ado) xs.length co) xs y [.int .i64 y] (fun k_ => k_ ≠ b) (fun _ => False) rfl rfl rfl (fun _ h_ => h_.elim) (fun k_ h_ e_ => by subst e_; exact absurd HD.out.2.2.2.2.2.2 (Nat.not_lt.mpr h_)) HD.out.1 HD.out.2.1 HD.out.2.2.1 HD.out.2.2.2.1 ?_
      intro v9 w9 ho9 hb9 hg9 hat9
      obtain ⟨A9, c9, he9⟩ := Kd.R_slice ho9
      subst he9
      have hbb := (hg9.block b HD.out.2.2.2.2.2.2 (fun e_ => HD.out.1.1 b e_.symm rfl)).trans HX.out
      have hx9 : w9.cell? ⟨b, 0, none⟩ = some (.slice (some ado) xs.length co) := (blk_cell hbb 0).trans rfl
      have hf9 : w9.frozen? ⟨b, 0, none⟩ = false := by unfold World.frozen?; simp only [hbb]; rfl
      have H9 := Aside0.mk (And.intro ho9 (And.intro hb9 hbb))
      clear ho9 hb9 hg9 hat9 hbb
      refine hK.out _ _ ?_
      clear hK K
      refine norm_ (a' := ?_) ?_ ?_
      rotate_left
      ·
       show Act.put _ (some 28) _ = _
       simp only [Act.put, List.setIfInBounds_toArray, List.set_cons_zero, List.set_cons_succ, i64_w, i32_w]
       rfl
      refine last_ (i := 7) (N := none) #[true, true, true, true, true, true, true, true] rfl rfl (by kernel_rfl) (by decide) (fun K hK => ?_)
      refine skip_ (w1 := ?_) (by rfl) rfl ?_ ?_
      rotate_left
      ·
       go_simp
       rfl
      refine hK.out _ _ ?_
      clear hK K
      refine done_ (by kernel_rfl) ?_
      go_wp2
      go_roundg ((a1 - 1).toNat - (i + 1))
      case measure => have := KX.out; omega
      case rel => exact ⟨_, rfl, ⟨i + 1, _, EW.out, by have := KX.out; omega, by have := KX.out; omega, H9.out.2.1.setCell (p := ⟨b, 0, none⟩) HBb _, ⟨A9, c9, blk_put (cs := #[.slice (some ado) xs.length co]) H9.out.2.2 0 _ (by rw [List.length_append]; rfl), Kd.R_kept H9.out.1 ((keptO_refl w9 (fun k_ => k_ = b)).setCell (p := ⟨b, 0, none⟩) (.inl rfl) _) (fun k_ h_ e_ => h_ e_)⟩, K5.out⟩⟩
     ·
      cases k5
    ·
     have c5 : decide (x19 < wrap64 (a1 - 1)) = false := decide_eq_false (by have := HB1.out; omega)
     rw [show (a1 - 1).toNat - i = 0 by omega] at k5
     obtain rfl := Option.some.inj k5
     obtain ⟨Ao, co, hh, hR⟩ := k4
     have hcell : wr.cell? ⟨b, 0, none⟩ = some (.slice Ao xs.length co) := (blk_cell hh 0).trans rfl
     have hrd := Kd.R_reads' hR
     have KB := Aside0.mk (And.intro k3 (And.intro hrd.2.1 hrd.2.2))
     clear hx k1 k2 k3 k5 hlt hh hR hrd
     go_wp2_with (go_at_call 11; refine (impl_digitText.calls k Ao co xs s _ KB.out.2.2 KB.out.2.1 HS.out).mono ?_; rintro e w10 ⟨rfl, hb_⟩; have B10 := Aside0.mk (KB.out.1.trans (hb_.mono KB.out.1.size)); clear hb_)
     go_ret2
     exact ⟨rfl, B10.out⟩
  ·
   cases h

end Go.Proofs.Ytbpmgfdjcblhnaa.P

-- printed by xprint.py
namespace Go.Proofs.Ytbpmgfdjcblhnaa.P
open Go.RowKit Go.Proofs.YtbpmgfdjcblhnaaW.PrintWords Go.Proofs.YtbpmgfdjcblhnaaW.PrintLast Go.Proofs.YtbpmgfdjcblhnaaW.PrintMore
attribute [local go_sem] max2_int min2_int max_two min_two max_three min_three max_four min_four   -- for this text's walks alone
set_option linter.unusedVariables false
set_option linter.unusedSimpArgs false

/-! ### spec_l1Num: function 13 -/
def spec_l1Num.f : Nat → Int → Option (ByteArray)
 | 0, _ => none
 | k + 1, a0 => if a0 < 10 then (some (strOfNums (([(wrap64 (48 + a0)) % 256] : List Int)))) else ((spec_l1Num.f k (wrap64 (Int.tdiv a0 10))).bind fun t104 => ((some (([(wrap64 (48 + (Int.tmod a0 10))) % 256] : List Int) : List Int)).bind fun y105 => (if t104.size + (strOfNums y105).size ≤ 9223372036854775807 then (some (t104 ++ (strOfNums y105))) else (none))))
theorem spec_l1Num.mono_l : ∀ k, (∀ y0, LeO (spec_l1Num.f k y0) (spec_l1Num.f (k + 1) y0))
 | 0 => by intros; intro r h; simp [spec_l1Num.f] at h
 | k + 1 => by
  have ih0 := spec_l1Num.mono_l k
  ·
   intro y0
   unfold spec_l1Num.f
   repeat' first
   | (with_reducible exact ih0 _)
   | (with_reducible exact LeO.refl _)
   | (with_reducible exact LeO.none _)
   | (with_reducible refine LeO.ite ?_ ?_)
   | (with_reducible refine LeO.bind ?_ (fun _ => ?_))
   | exact ih0 _
   | exact LeO.none _
   | refine LeO.ite ?_ ?_
   | refine LeO.bind ?_ (fun _ => ?_)
theorem spec_l1Num.mono : ∀ y0 k, LeO (spec_l1Num.f k y0) (spec_l1Num.f (k + 1) y0) := by
 intro y0 k
 have ih0 := spec_l1Num.mono_l k
 exact ih0 y0
def spec_l1Num.T3 : Bool × List (List Nat × List Nat) := (true, [([], []), ([0], [0]), ([1], [1]), ([], []), ([3], [3]), ([4], [4]), ([5], [5]), ([6], [6]), ([7], [7]), ([2, 8], [2, 8]), ([9, 2, 0, 1, 2, 3, 4, 5, 6, 7, 8, 9], [9])])
def spec_l1Num.B3 : List Nat := [0, 1, 3, 0, 8, 24, 56, 120, 248, 511, 1023]
theorem spec_l1Num.tab3 : rtab .any (opsOf Try.f13 3) = spec_l1Num.T3 := by kernel_rfl
theorem spec_l1Num.bits3 : waitsOk spec_l1Num.T3.2 spec_l1Num.B3 = true := by kernel_rfl
set_option maxHeartbeats 8000000 in
set_option maxRecDepth 100000 in
theorem spec_l1Num.calls (k : Nat) : ∀ (a0 : Int) (r : ByteArray) (w : World) (h : spec_l1Num.f k a0 = some r),
  Calls Try.prog 13 #[.int .i64 a0] w fun e w' => e = .returned (.string r) ∧ Below w.heap.size w w' := by
 induction k using Nat.strongRecOn with
 | _ k ih =>
 intro a0 r w h
 cases k with
 | zero => exact absurd h (by simp [spec_l1Num.f])
 | succ k =>
 simp only [spec_l1Num.f] at h
 have HB := Aside0.mk (Below.refl w.heap.size w)
 have H : (if a0 < 10 then (some (strOfNums (([(wrap64 (48 + a0)) % 256] : List Int)))) else ((spec_l1Num.f k (wrap64 (Int.tdiv a0 10))).bind fun t104 => ((some (([(wrap64 (48 + (Int.tmod a0 10))) % 256] : List Int) : List Int)).bind fun y105 => (if t104.size + (strOfNums y105).size ≤ 9223372036854775807 then (some (t104 ++ (strOfNums y105))) else (none))))) = some r := h
 clear h
 by_cases c2 : a0 < 10
 ·
  rw [if_pos c2] at H
  have c2b0 : decide (a0 < 10) = true := decide_eq_true c2
  clear c2
  obtain ⟨y101, hy101⟩ : ∃ y_ : List Int, y_ = (([(wrap64 (48 + a0)) % 256] : List Int)) := ⟨_, rfl⟩
  replace H : (some (strOfNums y101)) = some r := by first | (rw [hy101]; with_reducible exact H) | (have H2_ := (Option.bind_some _ _).symm.trans H; rw [hy101]; with_reducible exact H2_) | (have H2_ := (Option.bind_some _ _).symm.trans H; with_reducible exact H2_) | with_reducible exact H | (rw [hy101]; exact H) | exact H
  have Ny101 := Aside0.mk hy101
  clear hy101
  obtain rfl := Option.some.inj H
  go_enter Try.func13, Try.ntmps13
  go_wp2_with (first | ((with_reducible refine gate_dst (N := 8) rfl ?_); refine Kd.R_lit (Kd.int .u8) _ 5 ?hg (N := 8) ?hd (xs := ([(wrap64 (48 + a0)) % 256] : List Int)) (inner := [.int .u8 ((wrap64 (48 + a0)) % 256)]) (ok := fun _ => True) (okp := fun _ => True) ?hr ?hp (fun _ hk => hk) trivial (Below.refl _ _) (Nat.le_refl _) (by simp) ?_; (case hd => rfl); (case hg => rfl); (case hr => first | (go_simp; done) | (go_simp; rfl)); (case hp => exact (Reps.one (show Kd.M (Kd.int .u8) _ _ _ ((wrap64 (48 + a0)) % 256) [.int .u8 ((wrap64 (48 + a0)) % 256)] from rfl) (Reps.none _ _))); intro v102 w3 ho4 hb hg_ hnew_; clear hg_ hnew_; (first | rw [← Ny101.out] at ho4 | (simp only [Int.reduceToNat] at ho4; rw [← Ny101.out] at ho4)); have n0_ := Aside0.mk (Kd.R_lower ho4 (below_size (by repeat (first | (with_reducible first | exact HB.out | apply below_alloc | apply pw_below_drewN | apply below_drew1) | exact HB.out)))); have n1_ := Aside0.mk (below_step (by repeat (first | (with_reducible first | exact HB.out | apply below_alloc | apply pw_below_drewN | apply below_drew1) | exact HB.out)) hb); clear HB; have HO103 := n0_; have HB := n1_; clear n0_ n1_; clear hb ho4; have hcv5 := own_string (P := Try.prog) Try.underlying37 Try.underlying5 Try.underlying9 (Kd.own_of_R HO103.out)))
  go_ret
  exact ⟨by first | rfl | (simp [errW_none, errW_some] <;> rfl) | (simp [*, errW_none, errW_some] <;> rfl), by repeat (first | (with_reducible first | exact HB.out | apply below_alloc | apply pw_below_drewN | apply below_drew1) | exact HB.out)⟩
 ·
  rw [if_neg c2] at H
  have c2b0 : decide (a0 < 10) = false := decide_eq_false c2
  clear c2
  replace H := Option.bind_eq_some_iff.mp H
  obtain ⟨t104, A60, H⟩ := H
  replace H : ((some (([(wrap64 (48 + (Int.tmod a0 10))) % 256] : List Int) : List Int)).bind fun y105 => (if t104.size + (strOfNums y105).size ≤ 9223372036854775807 then (some (t104 ++ (strOfNums y105))) else (none))) = some r := H
  have A6 := Aside0.mk A60
  clear A60
  obtain ⟨y105, hy105⟩ : ∃ y_ : List Int, y_ = (([(wrap64 (48 + (Int.tmod a0 10))) % 256] : List Int)) := ⟨_, rfl⟩
  replace H : (if t104.size + (strOfNums y105).size ≤ 9223372036854775807 then (some (t104 ++ (strOfNums y105))) else (none)) = some r := by first | (rw [hy105]; with_reducible exact H) | (have H2_ := (Option.bind_some _ _).symm.trans H; rw [hy105]; with_reducible exact H2_) | (have H2_ := (Option.bind_some _ _).symm.trans H; with_reducible exact H2_) | with_reducible exact H | (rw [hy105]; exact H) | exact H
  have Ny105 := Aside0.mk hy105
  clear hy105
  by_cases c7 : t104.size + (strOfNums y105).size ≤ 9223372036854775807
  ·
   rw [if_pos c7] at H
   have c7b0 := eq_true c7
   have c7b1 : decide (t104.size + (strOfNums y105).size ≤ 9223372036854775807) = true := decide_eq_true c7
   try have c7b2 : (9223372036854775807 < t104.size + (strOfNums y105).size) = False := eq_false (Nat.not_lt.2 c7)
   obtain rfl := Option.some.inj H
   go_enter Try.func13, Try.ntmps13
   try go_wp2
   have n0_ := Aside0.mk (below_drew1 HB.out)
   clear HB
   have HB := n0_
   clear n0_
   refine start_ (n := 11) (S := fun w' => True) (ds := []) #[false, false, false, false, false, false, false, false, false, false, false] (by kernel_rfl) rfl rfl trivial (fun hHeld => ?_); refine with_tabW spec_l1Num.tab3 spec_l1Num.bits3 (fun HT_ HW_ => ?_)
   (first | (rw [drewN_self w]; generalize hq_ : (World.drewN w _).drew = w8 at hHeld ⊢; clear HB; have HB : Aside0 (Below w.heap.size w w8) := ⟨by rw [← hq_]; exact below_drew1 (pw_below_drewN (Below.refl w.heap.size w) _)⟩; clear hq_) | (generalize w.drew = w8 at HB hHeld ⊢))
   refine pure_ (i := 0) (N := some 10) (v := ?_) (a' := ?_) #[true, false, false, false, false, false, false, false, false, false, false] rfl rfl (any_of HT_.out (by kernel_rfl)) (fun _ _ _ h => h) (Or.inl ⟨by rfl, ?_⟩) ?_ ?_
   rotate_left
   ·
    intro w'
    go_simp
    with_reducible rfl
   rotate_left
   ·
    simp only [Act.put, List.setIfInBounds_toArray, List.set_cons_zero, List.set_cons_succ, i64_w, i32_w]
    rfl
   refine pure_ (i := 1) (N := some 11) (v := ?_) (a' := ?_) #[true, true, false, false, false, false, false, false, false, false, false] rfl rfl (any_of HT_.out (by kernel_rfl)) (fun _ _ _ h => h) (Or.inl ⟨by rfl, ?_⟩) ?_ ?_
   rotate_left
   ·
    intro w'
    go_simp
    with_reducible rfl
   rotate_left
   ·
    simp only [Act.put, List.setIfInBounds_toArray, List.set_cons_zero, List.set_cons_succ, i64_w, i32_w]
    rfl
   refine pure_ (i := 3) (N := some 13) (v := ?_) (a' := ?_) #[true, true, false, true, false, false, false, false, false, false, false] rfl rfl (any_of HT_.out (by kernel_rfl)) (fun _ _ _ h => h) (Or.inl ⟨by rfl, ?_⟩) ?_ ?_
   rotate_left
   ·
    intro w'
    go_simp
    with_reducible rfl
   rotate_left
   ·
    simp only [Act.put, List.setIfInBounds_toArray, List.set_cons_zero, List.set_cons_succ, i64_w, i32_w]
    rfl
   refine pure_ (i := 4) (N := some 14) (v := ?_) (a' := ?_) #[true, true, false, true, true, false, false, false, false, false, false] rfl rfl (any_of HT_.out (by kernel_rfl)) (fun _ _ _ h => h) (Or.inl ⟨by rfl, ?_⟩) ?_ ?_
   rotate_left
   ·
    intro w'
    go_simp
    with_reducible rfl
   rotate_left
   ·
    simp only [Act.put, List.setIfInBounds_toArray, List.set_cons_zero, List.set_cons_succ, i64_w, i32_w]
    rfl
   refine pure_ (i := 5) (N := some 15) (v := ?_) (a' := ?_) #[true, true, false, true, true, true, false, false, false, false, false] rfl rfl (any_of HT_.out (by kernel_rfl)) (fun _ _ _ h => h) (Or.inl ⟨by rfl, ?_⟩) ?_ ?_
   rotate_left
   ·
    intro w'
    go_simp
    with_reducible rfl
   rotate_left
   ·
    simp only [Act.put, List.setIfInBounds_toArray, List.set_cons_zero, List.set_cons_succ, i64_w, i32_w]
    rfl
   refine pure_ (i := 6) (N := some 16) (v := ?_) (a' := ?_) #[true, true, false, true, true, true, true, false, false, false, false] rfl rfl (any_of HT_.out (by kernel_rfl)) (fun _ _ _ h => h) (Or.inl ⟨by rfl, ?_⟩) ?_ ?_
   rotate_left
   ·
    intro w'
    go_simp
    with_reducible rfl
   rotate_left
   ·
    simp only [Act.put, List.setIfInBounds_toArray, List.set_cons_zero, List.set_cons_succ, i64_w, i32_w]
    rfl
   refine join_ (σ := Value) 2 #[true, true, true, true, true, true, true, true, true, false, false] (fun s_ => [(12, .string t104), (17, s_), (18, .string (strOfNums y105))]) (fun s_ w' => (Kd.R (Kd.int .u8) 5 w' w.heap.size (fun _ => True) s_ y105) ∧ (Below w.heap.size w w')) ?_ ?_
   rotate_left
   ·
    intro hCont
    refine two_ (i := 2) (j := 7) (Ni := some 12) (Nj := some 17) #[true, true, true, true, true, true, true, false, false, false, false] #[true, true, false, true, true, true, true, true, false, false, false] rfl rfl rfl rfl (two_of HT_.out (by kernel_rfl)) (by decide) (by decide) (fun K hK => ?_) (fun K hK => ?_)
    ·
     skip
     refine goes_ Try.func13 (by kernel_rfl) rfl #[.int .i64 (wrap64 (Int.tdiv a0 10))] (by rfl) rfl rfl (by (try simp only [List.map_toArray, List.map_cons, List.map_nil]); first | done | rfl | (simp only [List.length_drop, List.length_take]; rfl)) ?_
     with_reducible refine (ih k (by omega) (wrap64 (Int.tdiv a0 10)) t104 _ A6.out).mono ?_
     rintro e w9 ⟨rfl, hb⟩
     refine ⟨_, rfl, ?_⟩
     have n0_ := Aside0.mk (below_step (by repeat (first | (with_reducible first | exact HB.out | apply below_alloc | apply pw_below_drewN | apply below_drew1) | exact HB.out)) hb)
     clear HB
     have HB := n0_
     clear n0_
     (try clear hb)
     (try clear hb2)
     (try clear hk)
     (try clear hi)
     refine hK.out _ _ trivial (fun hHeld => ?_)
     clear hK K
     refine norm_ (a' := ?_) ?_ ?_
     rotate_left
     ·
      show Act.put _ (some 12) _ = _
      simp only [Act.put, List.setIfInBounds_toArray, List.set_cons_zero, List.set_cons_succ, i64_w, i32_w]
      rfl
     refine one_ (i := 7) (N := some 17) #[true, true, true, true, true, true, true, true, false, false, false] rfl rfl (one_of HT_.out (by kernel_rfl)) (by decide) (fun K hK => ?_)
     refine Kd.R_lit_step (Kd.int .u8) _ 5 ?hg (N := 17) ?hd (xs := ([(wrap64 (48 + (Int.tmod a0 10))) % 256] : List Int)) (inner := [.int .u8 ((wrap64 (48 + (Int.tmod a0 10))) % 256)]) (ok := fun _ => True) (okp := fun _ => True) ?hr ?hp (fun _ hk => hk) trivial (Below.refl _ _) (Nat.le_refl _) (by simp) ?_; (case hd => rfl); (case hg => rfl); (case hr => first | (go_simp; done) | (go_simp; rfl)); (case hp => exact (Reps.one (show Kd.M (Kd.int .u8) _ _ _ ((wrap64 (48 + (Int.tmod a0 10))) % 256) [.int .u8 ((wrap64 (48 + (Int.tmod a0 10))) % 256)] from rfl) (Reps.none _ _)))
     intro v106 w10 ho11 hb hg_ hnew_
     clear hg_ hnew_
     (first | rw [← Ny105.out] at ho11 | (simp only [Int.reduceToNat] at ho11; rw [← Ny105.out] at ho11))
     have n0_ := Aside0.mk (Kd.R_lower ho11 (below_size (by repeat (first | (with_reducible first | exact HB.out | apply below_alloc | apply pw_below_drewN | apply below_drew1) | exact HB.out))))
     have n1_ := Aside0.mk (below_step (by repeat (first | (with_reducible first | exact HB.out | apply below_alloc | apply pw_below_drewN | apply below_drew1) | exact HB.out)) hb)
     clear HB
     have HO107 := n0_
     have HB := n1_
     clear n0_ n1_
     clear hb ho11
     refine hK.out _ _ trivial (fun hHeld => ?_)
     clear hK K
     refine norm_ (a' := ?_) ?_ ?_
     rotate_left
     ·
      show Act.put _ (some 17) _ = _
      simp only [Act.put, List.setIfInBounds_toArray, List.set_cons_zero, List.set_cons_succ, i64_w, i32_w]
      rfl
     refine one_ (i := 8) (N := some 18) #[true, true, true, true, true, true, true, true, true, false, false] rfl rfl (one_of HT_.out (by kernel_rfl)) (by decide) (fun K hK => ?_)
     have hcv12 := own_string (P := Try.prog) Try.underlying37 Try.underlying5 Try.underlying9 (Kd.own_of_R HO107.out)
     refine value_ (w1 := ?_) (v := ?_) (by rfl) rfl ?_ ?_
     rotate_left 2
     ·
      go_simp
      constructor
      ·
       rfl
      ·
       rfl
     clear hcv12
     refine hK.out _ _ trivial (fun hHeld => ?_)
     clear hK K
     refine norm_ (a' := ?_) ?_ ?_
     rotate_left
     ·
      show Act.put _ (some 18) _ = _
      simp only [Act.put, List.setIfInBounds_toArray, List.set_cons_zero, List.set_cons_succ, i64_w, i32_w]
      rfl
     exact norm_ (by simp only [putAll, Act.put, List.setIfInBounds_toArray, List.set_cons_zero, List.set_cons_succ]) (hCont (v106) _ ⟨(by (with_reducible repeat (first | apply Kd.R_alloc | apply Kd.R_drewN | apply Kd.R_drew)); exact HO107.out), (by repeat (first | (with_reducible first | exact HB.out | apply below_alloc | apply pw_below_drewN | apply below_drew1) | exact HB.out))⟩)
    ·
     skip
     refine Kd.R_lit_step (Kd.int .u8) _ 5 ?hg (N := 17) ?hd (xs := ([(wrap64 (48 + (Int.tmod a0 10))) % 256] : List Int)) (inner := [.int .u8 ((wrap64 (48 + (Int.tmod a0 10))) % 256)]) (ok := fun _ => True) (okp := fun _ => True) ?hr ?hp (fun _ hk => hk) trivial (Below.refl _ _) (Nat.le_refl _) (by simp) ?_; (case hd => rfl); (case hg => rfl); (case hr => first | (go_simp; done) | (go_simp; rfl)); (case hp => exact (Reps.one (show Kd.M (Kd.int .u8) _ _ _ ((wrap64 (48 + (Int.tmod a0 10))) % 256) [.int .u8 ((wrap64 (48 + (Int.tmod a0 10))) % 256)] from rfl) (Reps.none _ _)))
     intro v106 w9 ho10 hb hg_ hnew_
     clear hg_ hnew_
     (first | rw [← Ny105.out] at ho10 | (simp only [Int.reduceToNat] at ho10; rw [← Ny105.out] at ho10))
     have n0_ := Aside0.mk (Kd.R_lower ho10 (below_size (by repeat (first | (with_reducible first | exact HB.out | apply below_alloc | apply pw_below_drewN | apply below_drew1) | exact HB.out))))
     have n1_ := Aside0.mk (below_step (by repeat (first | (with_reducible first | exact HB.out | apply below_alloc | apply pw_below_drewN | apply below_drew1) | exact HB.out)) hb)
     clear HB
     have HO107 := n0_
     have HB := n1_
     clear n0_ n1_
     clear hb ho10
     refine hK.out _ _ trivial (fun hHeld => ?_)
     clear hK K
     refine norm_ (a' := ?_) ?_ ?_
     rotate_left
     ·
      show Act.put _ (some 17) _ = _
      simp only [Act.put, List.setIfInBounds_toArray, List.set_cons_zero, List.set_cons_succ, i64_w, i32_w]
      rfl
     refine two_ (i := 2) (j := 8) (Ni := some 12) (Nj := some 18) #[true, true, true, true, true, true, true, true, false, false, false] #[true, true, false, true, true, true, true, true, true, false, false] rfl rfl rfl rfl (two_of HT_.out (by kernel_rfl)) (by decide) (by decide) (fun K hK => ?_) (fun K hK => ?_)
     ·
      skip
      refine goes_ Try.func13 (by kernel_rfl) rfl #[.int .i64 (wrap64 (Int.tdiv a0 10))] (by rfl) rfl rfl (by (try simp only [List.map_toArray, List.map_cons, List.map_nil]); first | done | rfl | (simp only [List.length_drop, List.length_take]; rfl)) ?_
      with_reducible refine (ih k (by omega) (wrap64 (Int.tdiv a0 10)) t104 _ A6.out).mono ?_
      rintro e w11 ⟨rfl, hb⟩
      refine ⟨_, rfl, ?_⟩
      have n0_ := Aside0.mk (Kd.R_below (by (with_reducible repeat (first | apply Kd.R_alloc | apply Kd.R_drewN | apply Kd.R_drew)); exact HO107.out) hb)
      have n1_ := Aside0.mk (below_step (by repeat (first | (with_reducible first | exact HB.out | apply below_alloc | apply pw_below_drewN | apply below_drew1) | exact HB.out)) hb)
      clear HO107
      clear HB
      have HO107 := n0_
      have HB := n1_
      clear n0_ n1_
      (try clear hb)
      (try clear hb2)
      (try clear hk)
      (try clear hi)
      refine hK.out _ _ trivial (fun hHeld => ?_)
      clear hK K
      refine norm_ (a' := ?_) ?_ ?_
      rotate_left
      ·
       show Act.put _ (some 12) _ = _
       simp only [Act.put, List.setIfInBounds_toArray, List.set_cons_zero, List.set_cons_succ, i64_w, i32_w]
       rfl
      refine one_ (i := 8) (N := some 18) #[true, true, true, true, true, true, true, true, true, false, false] rfl rfl (one_of HT_.out (by kernel_rfl)) (by decide) (fun K hK => ?_)
      have hcv12 := own_string (P := Try.prog) Try.underlying37 Try.underlying5 Try.underlying9 (Kd.own_of_R HO107.out)
      refine value_ (w1 := ?_) (v := ?_) (by rfl) rfl ?_ ?_
      rotate_left 2
      ·
       go_simp
       constructor
       ·
        rfl
       ·
        rfl
      clear hcv12
      refine hK.out _ _ trivial (fun hHeld => ?_)
      clear hK K
      refine norm_ (a' := ?_) ?_ ?_
      rotate_left
      ·
       show Act.put _ (some 18) _ = _
       simp only [Act.put, List.setIfInBounds_toArray, List.set_cons_zero, List.set_cons_succ, i64_w, i32_w]
       rfl
      exact norm_ (by simp only [putAll, Act.put, List.setIfInBounds_toArray, List.set_cons_zero, List.set_cons_succ]) (hCont (v106) _ ⟨(by (with_reducible repeat (first | apply Kd.R_alloc | apply Kd.R_drewN | apply Kd.R_drew)); exact HO107.out), (by repeat (first | (with_reducible first | exact HB.out | apply below_alloc | apply pw_below_drewN | apply below_drew1) | exact HB.out))⟩)
     ·
      skip
      have hcv11 := own_string (P := Try.prog) Try.underlying37 Try.underlying5 Try.underlying9 (Kd.own_of_R HO107.out)
      refine value_ (w1 := ?_) (v := ?_) (by rfl) rfl ?_ ?_
      rotate_left 2
      ·
       go_simp
       constructor
       ·
        rfl
       ·
        rfl
      clear hcv11
      refine hK.out _ _ trivial (fun hHeld => ?_)
      clear hK K
      refine norm_ (a' := ?_) ?_ ?_
      rotate_left
      ·
       show Act.put _ (some 18) _ = _
       simp only [Act.put, List.setIfInBounds_toArray, List.set_cons_zero, List.set_cons_succ, i64_w, i32_w]
       rfl
      refine one_ (i := 2) (N := some 12) #[true, true, true, true, true, true, true, true, true, false, false] rfl rfl (one_of HT_.out (by kernel_rfl)) (by decide) (fun K hK => ?_)
      refine goes_ Try.func13 (by kernel_rfl) rfl #[.int .i64 (wrap64 (Int.tdiv a0 10))] (by rfl) rfl rfl (by (try simp only [List.map_toArray, List.map_cons, List.map_nil]); first | done | rfl | (simp only [List.length_drop, List.length_take]; rfl)) ?_
      with_reducible refine (ih k (by omega) (wrap64 (Int.tdiv a0 10)) t104 _ A6.out).mono ?_
      rintro e w12 ⟨rfl, hb⟩
      refine ⟨_, rfl, ?_⟩
      have n0_ := Aside0.mk (Kd.R_below (by (with_reducible repeat (first | apply Kd.R_alloc | apply Kd.R_drewN | apply Kd.R_drew)); exact HO107.out) hb)
      have n1_ := Aside0.mk (below_step (by repeat (first | (with_reducible first | exact HB.out | apply below_alloc | apply pw_below_drewN | apply below_drew1) | exact HB.out)) hb)
      clear HO107
      clear HB
      have HO107 := n0_
      have HB := n1_
      clear n0_ n1_
      (try clear hb)
      (try clear hb2)
      (try clear hk)
      (try clear hi)
      refine hK.out _ _ trivial (fun hHeld => ?_)
      clear hK K
      refine norm_ (a' := ?_) ?_ ?_
      rotate_left
      ·
       show Act.put _ (some 12) _ = _
       simp only [Act.put, List.setIfInBounds_toArray, List.set_cons_zero, List.set_cons_succ, i64_w, i32_w]
       rfl
      exact norm_ (by simp only [putAll, Act.put, List.setIfInBounds_toArray, List.set_cons_zero, List.set_cons_succ]) (hCont (v106) _ ⟨(by (with_reducible repeat (first | apply Kd.R_alloc | apply Kd.R_drewN | apply Kd.R_drew)); exact HO107.out), (by repeat (first | (with_reducible first | exact HB.out | apply below_alloc | apply pw_below_drewN | apply below_drew1) | exact HB.out))⟩)
   rintro v106 w13 ⟨h0_, h1_⟩
   have n0_ : Aside0 (Kd.R (Kd.int .u8) 5 w13 w.heap.size (fun _ => True) v106 y105) := ⟨h0_⟩
   have n1_ : Aside0 (Below w.heap.size w w13) := ⟨h1_⟩
   clear HB
   clear h0_ h1_
   have HO107 := n0_
   have HB := n1_
   clear n0_ n1_
   have hHeld := trivial
   refine norm_ (a' := ?_) ?_ ?_
   rotate_left
   ·
    simp only [putAll, Act.put, List.setIfInBounds_toArray, List.set_cons_zero, List.set_cons_succ]
    rfl
   refine pure_ (i := 9) (N := some 19) (v := ?_) (a' := ?_) #[true, true, true, true, true, true, true, true, true, true, false] rfl rfl (any_of HT_.out (by kernel_rfl)) (fun _ _ _ h => h) (Or.inl ⟨by rfl, ?_⟩) ?_ ?_
   rotate_left
   ·
    intro w'
    go_simp
    with_reducible rfl
   rotate_left
   ·
    simp only [Act.put, List.setIfInBounds_toArray, List.set_cons_zero, List.set_cons_succ, i64_w, i32_w]
    rfl
   refine pure_ (i := 10) (N := some 2) (v := ?_) (a' := ?_) #[true, true, true, true, true, true, true, true, true, true, true] rfl rfl (any_of HT_.out (by kernel_rfl)) (fun _ _ _ h => h) (Or.inl ⟨by rfl, ?_⟩) ?_ ?_
   rotate_left
   ·
    intro w'
    go_simp
    with_reducible rfl
   rotate_left
   ·
    simp only [Act.put, List.setIfInBounds_toArray, List.set_cons_zero, List.set_cons_succ, i64_w, i32_w]
    rfl
   refine done_ (done_of HT_.out (by kernel_rfl)) ?_
   try go_wp2
   go_ret
   exact ⟨by first | rfl | (simp [errW_none, errW_some] <;> rfl) | (simp [*, errW_none, errW_some] <;> rfl), by repeat (first | (with_reducible first | exact HB.out | apply below_alloc | apply pw_below_drewN | apply below_drew1) | exact HB.out)⟩
  ·
   rw [if_neg c7] at H
   exact absurd H (by simp)

end Go.Proofs.Ytbpmgfdjcblhnaa.P

-- printed by xprint.py
namespace Go.Proofs.Ytbpmgfdjcblhnaa.P
open Go.RowKit Go.Proofs.YtbpmgfdjcblhnaaW.PrintWords Go.Proofs.YtbpmgfdjcblhnaaW.PrintLast Go.Proofs.YtbpmgfdjcblhnaaW.PrintMore
attribute [local go_sem] max2_int min2_int max_two min_two max_three min_three max_four min_four   -- for this text's walks alone
set_option linter.unusedVariables false
set_option linter.unusedSimpArgs false

/-! ### spec_l1In: function 12 -/
def spec_l1In.f (a0 : Int) (a1 : Int) (a2 : Int) : Option (Bool) := if a0 ≥ a1 then (some (decide (a0 ≤ a2))) else (some false)
set_option maxHeartbeats 8000000 in
set_option maxRecDepth 100000 in
theorem spec_l1In.calls (a0 : Int) (a1 : Int) (a2 : Int) (r : Bool) (w : World) (h : spec_l1In.f a0 a1 a2 = some r) :
  Calls Try.prog 12 #[.int .i64 a0, .int .i64 a1, .int .i64 a2] w fun e w' => e = .returned (.bool r) ∧ Drawn0 w w' := by
 have H : (if a0 ≥ a1 then (some (decide (a0 ≤ a2))) else (some false)) = some r := h
 clear h
 by_cases c4 : a0 ≥ a1
 ·
  rw [if_pos c4] at H
  have c4b0 : decide (a1 ≤ a0) = true := decide_eq_true c4
  clear c4
  obtain rfl := Option.some.inj H
  go_enter Try.func12, Try.ntmps12
  go_wp2
  go_ret
  exact ⟨by first | rfl | (simp; done) | (simp [*]; done), by repeat (first | exact Drawn0.refl _ | apply Drawn0.step)⟩
 ·
  rw [if_neg c4] at H
  have c4b0 : decide (a1 ≤ a0) = false := decide_eq_false c4
  clear c4
  obtain rfl := Option.some.inj H
  go_enter Try.func12, Try.ntmps12
  go_wp2
  go_ret
  exact ⟨by first | rfl | (simp; done) | (simp [*]; done), by repeat (first | exact Drawn0.refl _ | apply Drawn0.step)⟩

end Go.Proofs.Ytbpmgfdjcblhnaa.P

-- printed by xprint.py
namespace Go.Proofs.Ytbpmgfdjcblhnaa.P
open Go.RowKit Go.Proofs.YtbpmgfdjcblhnaaW.PrintWords Go.Proofs.YtbpmgfdjcblhnaaW.PrintLast Go.Proofs.YtbpmgfdjcblhnaaW.PrintMore
attribute [local go_sem] max2_int min2_int max_two min_two max_three min_three max_four min_four   -- for this text's walks alone
set_option linter.unusedVariables false
set_option linter.unusedSimpArgs false

/-! ### spec_piAll: function 6 -/
mutual
def spec_piAll.j0 : Nat → Int → Int → Bool → Option (Int)
 | 0, _, _, _ => none
 | k + 1, x0, x1, x13 => if x13 = true then (some (-1)) else (spec_piAll.l0 k x0 x1 1)
def spec_piAll.l0 : Nat → Int → Int → Int → Option (Int)
 | 0, _, _, _ => none
 | k + 1, x0, x1, x5 => if x1 > 0 then (spec_piAll.l0 k x0 (wrap64 (x1 - 1)) (wrap64 (x5 * x0))) else (if x5 > 300 then (some (-1)) else (some x5))
end
def spec_piAll.f (k : Nat) (a0 : Int) (a1 : Int) : Option (Int) := (spec_l1In.f a0 1 10).bind fun t101 => (if t101 = true then ((spec_l1In.f a1 2 4).bind fun t102 => (spec_piAll.j0 k a0 a1 (!t102))) else (spec_piAll.j0 k a0 a1 true))
theorem spec_piAll.mono_l : ∀ k, (∀ y0 y1 y2, LeO (spec_piAll.j0 k y0 y1 y2) (spec_piAll.j0 (k + 1) y0 y1 y2)) ∧ (∀ y0 y1 y2, LeO (spec_piAll.l0 k y0 y1 y2) (spec_piAll.l0 (k + 1) y0 y1 y2))
 | 0 => ⟨by intros; intro r h; simp [spec_piAll.j0] at h, by intros; intro r h; simp [spec_piAll.l0] at h⟩
 | k + 1 => by
  obtain ⟨ih0, ih1⟩ := spec_piAll.mono_l k
  refine ⟨?_, ?_⟩
  ·
   intro y0 y1 y2
   unfold spec_piAll.j0
   repeat' first
   | (with_reducible exact ih0 _ _ _)
   | (with_reducible exact ih1 _ _ _)
   | (with_reducible exact LeO.refl _)
   | (with_reducible exact LeO.none _)
   | (with_reducible refine LeO.ite ?_ ?_)
   | (with_reducible refine LeO.bind ?_ (fun _ => ?_))
   | exact ih0 _ _ _
   | exact ih1 _ _ _
   | exact LeO.none _
   | refine LeO.ite ?_ ?_
   | refine LeO.bind ?_ (fun _ => ?_)
  ·
   intro y0 y1 y2
   unfold spec_piAll.l0
   repeat' first
   | (with_reducible exact ih0 _ _ _)
   | (with_reducible exact ih1 _ _ _)
   | (with_reducible exact LeO.refl _)
   | (with_reducible exact LeO.none _)
   | (with_reducible refine LeO.ite ?_ ?_)
   | (with_reducible refine LeO.bind ?_ (fun _ => ?_))
   | exact ih0 _ _ _
   | exact ih1 _ _ _
   | exact LeO.none _
   | refine LeO.ite ?_ ?_
   | refine LeO.bind ?_ (fun _ => ?_)
theorem spec_piAll.mono : ∀ y0 y1 k, LeO (spec_piAll.f k y0 y1) (spec_piAll.f (k + 1) y0 y1) := by
 intro y0 y1 k
 obtain ⟨ih0, ih1⟩ := spec_piAll.mono_l k
 unfold spec_piAll.f
 repeat' first
   | (with_reducible exact ih0 _ _ _)
   | (with_reducible exact ih1 _ _ _)
   | (with_reducible exact LeO.refl _)
   | (with_reducible exact LeO.none _)
   | (with_reducible refine LeO.ite ?_ ?_)
   | (with_reducible refine LeO.bind ?_ (fun _ => ?_))
   | exact ih0 _ _ _
   | exact ih1 _ _ _
   | exact LeO.none _
   | refine LeO.ite ?_ ?_
   | refine LeO.bind ?_ (fun _ => ?_)
set_option maxHeartbeats 8000000 in
set_option maxRecDepth 100000 in
theorem spec_piAll.calls (k : Nat) (a0 : Int) (a1 : Int) (r : Int) (w : World) (h : spec_piAll.f k a0 a1 = some r) :
  Calls Try.prog 6 #[.int .i64 a0, .int .i64 a1] w fun e w' => e = .returned (.int .i64 r) ∧ Drawn0 w w' := by
 have H : ((spec_l1In.f a0 1 10).bind fun t101 => (if t101 = true then ((spec_l1In.f a1 2 4).bind fun t102 => (spec_piAll.j0 k a0 a1 (!t102))) else (spec_piAll.j0 k a0 a1 true))) = some r := h
 clear h
 have HC3 := Aside0.mk H
 clear H
 go_enter Try.func6, Try.ntmps6
 go_upto_region 1 with (fail)
 go_cut [13] (fun v13 wc => ∃ (kq : Nat) (x13_2 : Bool), v13 = .bool x13_2 ∧ Aside0 (spec_piAll.j0 kq a0 a1 x13_2 = some r) ∧ Aside0 (kq ≤ k) ∧ Drawn0 w wc)
 case first =>
  have H := HC3.out
  clear HC3
  replace H := Option.bind_eq_some_iff.mp H
  obtain ⟨t101, A40, H⟩ := H
  replace H : (if t101 = true then ((spec_l1In.f a1 2 4).bind fun t102 => (spec_piAll.j0 k a0 a1 (!t102))) else (spec_piAll.j0 k a0 a1 true)) = some r := H
  have A4 := Aside0.mk A40
  clear A40
  by_cases c5 : t101 = true
  ·
   subst c5
   have H1 : ((spec_l1In.f a1 2 4).bind fun t102 => (spec_piAll.j0 k a0 a1 (!t102))) = some r := by rw [if_pos rfl] at H; exact H
   clear H
   have H := H1
   clear H1
   replace H := Option.bind_eq_some_iff.mp H
   obtain ⟨t102, A60, H⟩ := H
   replace H : (spec_piAll.j0 k a0 a1 (!t102)) = some r := H
   have A6 := Aside0.mk A60
   clear A60
   have H' := Aside0.mk H
   clear H
   go_wp2_with (first | ((with_reducible refine gate_callee (f := 12) rfl ?_); refine goesL_ (some 7) rfl rfl Try.func12 (by kernel_rfl) rfl #[.int .i64 a0, .int .i64 1, .int .i64 10] rfl (by (try simp only [List.map_toArray, List.map_cons, List.map_nil]); first | done | rfl | (simp only [List.length_drop, List.length_take]; rfl)) ?_; (with_reducible refine (spec_l1In.calls a0 1 10 true _ A4.out).mono ?_); rintro e w' ⟨rfl, ⟨nd, rfl⟩⟩; refine ⟨_, rfl, ?_⟩) | (go_at_call 12; (with_reducible refine (spec_l1In.calls a1 2 4 t102 _ A6.out).mono ?_); rintro e w' ⟨rfl, ⟨nd, rfl⟩⟩))
   go_meet
   case rel => exact ⟨_, (!t102), (by first | rfl | (simp; done) | (simp [*]; done)), H', ⟨by first | omega | exact Nat.le_refl _⟩, by repeat (first | exact Drawn0.refl _ | apply Drawn0.step)⟩
  ·
   replace c5 := Bool.eq_false_iff.mpr c5
   subst c5
   have H1 : (spec_piAll.j0 k a0 a1 true) = some r := by rw [if_neg (show ¬ (false = true) by decide)] at H; exact H
   clear H
   have H := H1
   clear H1
   have H' := Aside0.mk H
   clear H
   go_wp2_with (first | ((with_reducible refine gate_callee (f := 12) rfl ?_); refine goesL_ (some 7) rfl rfl Try.func12 (by kernel_rfl) rfl #[.int .i64 a0, .int .i64 1, .int .i64 10] rfl (by (try simp only [List.map_toArray, List.map_cons, List.map_nil]); first | done | rfl | (simp only [List.length_drop, List.length_take]; rfl)) ?_; (with_reducible refine (spec_l1In.calls a0 1 10 false _ A4.out).mono ?_); rintro e w' ⟨rfl, ⟨nd, rfl⟩⟩; refine ⟨_, rfl, ?_⟩))
   go_meet
   case rel => exact ⟨_, (true), (by first | rfl | (simp; done) | (simp [*]; done)), H', ⟨by first | omega | exact Nat.le_refl _⟩, by repeat (first | exact Drawn0.refl _ | apply Drawn0.step)⟩
 case rest =>
  clear HC3
  try clear c1
  try clear p2
  try clear c5
  try clear c6
  obtain ⟨kq, x13_2, rfl, HA, HJ2, ⟨mc2, rfl⟩⟩ := hcut
  cases kq with
  | zero => exact absurd HA.out (by simp [spec_piAll.j0])
  | succ kj2 =>
   have H := HA.out
   clear HA
   simp only [spec_piAll.j0] at H
   by_cases c7 : x13_2 = true
   ·
    subst c7
    have H1 : (some (-1)) = some r := by rw [if_pos rfl] at H; exact H
    clear H
    have H := H1
    clear H1
    obtain rfl := Option.some.inj H
    go_wp2
    go_ret
    exact ⟨by first | rfl | (simp; done) | (simp [*]; done), by repeat (first | exact Drawn0.refl _ | apply Drawn0.step)⟩
   ·
    replace c7 := Bool.eq_false_iff.mpr c7
    subst c7
    have H1 : (spec_piAll.l0 kj2 a0 a1 1) = some r := by rw [if_neg (show ¬ (false = true) by decide)] at H; exact H
    clear H
    have H := H1
    clear H1
    have H' := Aside0.mk H
    clear H
    go_wp2
    go_loopg [1, 5] kj2 (fun kq v1 v5 w' => ∃ (x1_2 : Int) (x5_2 : Int), v1 = .int .i64 x1_2 ∧ v5 = .int .i64 x5_2 ∧ Aside0 (spec_piAll.l0 kq a0 x1_2 x5_2 = some r) ∧ Aside0 (kq ≤ kj2) ∧ Drawn0 w w')
    case atStart => exact ⟨(a1), (1), (by first | rfl | (simp; done) | (simp [*]; done)), (by first | rfl | (simp; done) | (simp [*]; done)), H', ⟨Nat.le_refl _⟩, by repeat (first | exact Drawn0.refl _ | apply Drawn0.step)⟩
    case round =>
     clear H'
     try clear c1
     try clear c2
     try clear p2
     try clear c5
     try clear c6
     try clear c7
     try clear p2
     obtain ⟨x1_2, x5_2, rfl, rfl, HA, HK2, ⟨m2, rfl⟩⟩ := hrel
     cases gk with
     | zero => exact absurd HA.out (by simp [spec_piAll.l0])
     | succ k2 =>
      have H := HA.out
      clear HA
      simp only [spec_piAll.l0] at H
      by_cases c8 : x1_2 > 0
      ·
       rw [if_pos c8] at H
       have c8b0 : decide (0 < x1_2) = true := decide_eq_true c8
       clear c8
       have H' := Aside0.mk H
       clear H
       go_wp2
       go_roundg k2
       case measure => have := HJ2.out; have := HK2.out; omega
       case rel => exact ⟨(wrap64 (x1_2 - 1)), (wrap64 (x5_2 * a0)), (by first | rfl | (simp; done) | (simp [*]; done)), (by first | rfl | (simp; done) | (simp [*]; done)), H', ⟨by have := HJ2.out; have := HK2.out; omega⟩, by repeat (first | exact Drawn0.refl _ | apply Drawn0.step)⟩
      ·
       rw [if_neg c8] at H
       have c8b0 : decide (0 < x1_2) = false := decide_eq_false c8
       clear c8
       by_cases c9 : x5_2 > 300
       ·
        rw [if_pos c9] at H
        have c9b0 : decide (300 < x5_2) = true := decide_eq_true c9
        clear c9
        obtain rfl := Option.some.inj H
        go_wp2
        go_ret
        exact ⟨by first | rfl | (simp; done) | (simp [*]; done), by repeat (first | exact Drawn0.refl _ | apply Drawn0.step)⟩
       ·
        rw [if_neg c9] at H
        have c9b0 : decide (300 < x5_2) = false := decide_eq_false c9
        clear c9
        obtain rfl := Option.some.inj H
        go_wp2
        go_ret
        exact ⟨by first | rfl | (simp; done) | (simp [*]; done), by repeat (first | exact Drawn0.refl _ | apply Drawn0.step)⟩

end Go.Proofs.Ytbpmgfdjcblhnaa.P

-- printed by xprint.py
namespace Go.Proofs.Ytbpmgfdjcblhnaa.P
open Go.RowKit Go.Proofs.YtbpmgfdjcblhnaaW.PrintWords Go.Proofs.YtbpmgfdjcblhnaaW.PrintLast Go.Proofs.YtbpmgfdjcblhnaaW.PrintMore
attribute [local go_sem] max2_int min2_int max_two min_two max_three min_three max_four min_four   -- for this text's walks alone
set_option linter.unusedVariables false
set_option linter.unusedSimpArgs false

/-! ### spec_piMore: function 8 -/
def spec_piMore.l0 : Nat → ByteArray → Int → ByteArray → Option (ByteArray)
 | 0, _, _, _ => none
 | k + 1, x0, x1, x5 => if (x5.size : Int) < x1 then (if x5.size + x0.size ≤ 9223372036854775807 then (spec_piMore.l0 k x0 x1 (x5 ++ x0)) else (none)) else (if 1 ≤ (wrap64 (x1 - 1)) then (if (wrap64 (x1 - 1)) ≤ (x5.size : Int) then (some (x5.extract 1 ((wrap64 (x1 - 1)) : Int).toNat)) else (none)) else (none))
def spec_piMore.f (k : Nat) (a0 : ByteArray) (a1 : Int) : Option (ByteArray) := spec_piMore.l0 k a0 a1 a0
theorem spec_piMore.mono_l : ∀ k, (∀ y0 y1 y2, LeO (spec_piMore.l0 k y0 y1 y2) (spec_piMore.l0 (k + 1) y0 y1 y2))
 | 0 => by intros; intro r h; simp [spec_piMore.l0] at h
 | k + 1 => by
  have ih0 := spec_piMore.mono_l k
  ·
   intro y0 y1 y2
   unfold spec_piMore.l0
   repeat' first
   | (with_reducible exact ih0 _ _ _)
   | (with_reducible exact LeO.refl _)
   | (with_reducible exact LeO.none _)
   | (with_reducible refine LeO.ite ?_ ?_)
   | (with_reducible refine LeO.bind ?_ (fun _ => ?_))
   | exact ih0 _ _ _
   | exact LeO.none _
   | refine LeO.ite ?_ ?_
   | refine LeO.bind ?_ (fun _ => ?_)
theorem spec_piMore.mono : ∀ y0 y1 k, LeO (spec_piMore.f k y0 y1) (spec_piMore.f (k + 1) y0 y1) := by
 intro y0 y1 k
 have ih0 := spec_piMore.mono_l k
 unfold spec_piMore.f
 repeat' first
   | (with_reducible exact ih0 _ _ _)
   | (with_reducible exact LeO.refl _)
   | (with_reducible exact LeO.none _)
   | (with_reducible refine LeO.ite ?_ ?_)
   | (with_reducible refine LeO.bind ?_ (fun _ => ?_))
   | exact ih0 _ _ _
   | exact LeO.none _
   | refine LeO.ite ?_ ?_
   | refine LeO.bind ?_ (fun _ => ?_)
set_option maxHeartbeats 8000000 in
set_option maxRecDepth 100000 in
theorem spec_piMore.calls (k : Nat) (a0 : ByteArray) (a1 : Int) (r : ByteArray) (w : World) (h : spec_piMore.f k a0 a1 = some r) :
  Calls Try.prog 8 #[.string a0, .int .i64 a1] w fun e w' => e = .returned (.string r) ∧ Drawn0 w w' := by
 have H : (spec_piMore.l0 k a0 a1 a0) = some r := h
 clear h
 have H' := Aside0.mk H
 clear H
 go_enter Try.func8, Try.ntmps8
 go_wp2
 go_loopg [5] k (fun kq v5 w' => ∃ (x5_1 : ByteArray), v5 = .string x5_1 ∧ Aside0 (spec_piMore.l0 kq a0 a1 x5_1 = some r) ∧ Aside0 (kq ≤ k) ∧ Drawn0 w w')
 case atStart => exact ⟨(a0), (by first | rfl | (simp; done) | (simp [*]; done)), H', ⟨Nat.le_refl _⟩, by repeat (first | exact Drawn0.refl _ | apply Drawn0.step)⟩
 case round =>
  clear H'
  try clear p2
  obtain ⟨x5_1, rfl, HA, HK1, ⟨m1, rfl⟩⟩ := hrel
  cases gk with
  | zero => exact absurd HA.out (by simp [spec_piMore.l0])
  | succ k1 =>
   have H := HA.out
   clear HA
   simp only [spec_piMore.l0] at H
   by_cases c3 : (x5_1.size : Int) < a1
   ·
    rw [if_pos c3] at H
    have c3b0 : decide ((x5_1.size : Int) < a1) = true := decide_eq_true c3
    clear c3
    by_cases c4 : x5_1.size + a0.size ≤ 9223372036854775807
    ·
     rw [if_pos c4] at H
     have c4b0 := eq_true c4
     have c4b1 : decide (x5_1.size + a0.size ≤ 9223372036854775807) = true := decide_eq_true c4
     try have c4b2 : (9223372036854775807 < x5_1.size + a0.size) = False := eq_false (Nat.not_lt.2 c4)
     have H' := Aside0.mk H
     clear H
     go_wp2
     go_roundg k1
     case measure => have := HK1.out; omega
     case rel => exact ⟨(x5_1 ++ a0), (by first | rfl | (simp; done) | (simp [*]; done)), H', ⟨by have := HK1.out; omega⟩, by repeat (first | exact Drawn0.refl _ | apply Drawn0.step)⟩
    ·
     rw [if_neg c4] at H
     exact absurd H (by simp)
   ·
    rw [if_neg c3] at H
    have c3b0 : decide ((x5_1.size : Int) < a1) = false := decide_eq_false c3
    clear c3
    by_cases c5 : 1 ≤ (wrap64 (a1 - 1))
    ·
     rw [if_pos c5] at H
     have c5b0 := eq_true c5
     have c5b1 : decide (1 ≤ (wrap64 (a1 - 1))) = true := decide_eq_true c5
     clear c5
     by_cases c6 : (wrap64 (a1 - 1)) ≤ (x5_1.size : Int)
     ·
      rw [if_pos c6] at H
      have c6b0 := eq_true c6
      have c6b1 : decide ((wrap64 (a1 - 1)) ≤ (x5_1.size : Int)) = true := decide_eq_true c6
      clear c6
      obtain rfl := Option.some.inj H
      go_wp2
      go_ret
      exact ⟨by first | rfl | (simp; done) | (simp [*]; done), by repeat (first | exact Drawn0.refl _ | apply Drawn0.step)⟩
     ·
      rw [if_neg c6] at H
      exact absurd H (by simp)
    ·
     rw [if_neg c5] at H
     exact absurd H (by simp)

end Go.Proofs.Ytbpmgfdjcblhnaa.P

-- printed by xprint.py
namespace Go.Proofs.Ytbpmgfdjcblhnaa.P
open Go.RowKit Go.Proofs.YtbpmgfdjcblhnaaW.PrintWords Go.Proofs.YtbpmgfdjcblhnaaW.PrintLast Go.Proofs.YtbpmgfdjcblhnaaW.PrintMore
attribute [local go_sem] max2_int min2_int max_two min_two max_three min_three max_four min_four   -- for this text's walks alone
set_option linter.unusedVariables false
set_option linter.unusedSimpArgs false

/-! ### spec_OpenAllText: function 4 -/
/-! The same by texts: a variable of text behind a pointer. -/
def lowR (bg : ByteArray) (p : Int) : Int := (bt bg (wrap64 ((bg.size : Int) - p)) - 48) % 256
def ringF : Nat → Int → Int → ByteArray → Int → ByteArray → Option ByteArray
 | 0, _, _, _, _, _ => none
 | k + 1, dg, lg, bg, p, ring =>
  if dg ≤ 1000 ∧ bg.size ≤ 1000 ∧ ring.size ≤ 100000 ∧ 0 ≤ p ∧ p ≤ 1000 then
   (if (bg.size : Int) = lg then (if 0 < p then (if Int.tmod lg p = 0 then (if p ≤ (bg.size : Int) ∧ (bg.extract 0 p.toNat).size ≤ 1000 then some (ring ++ bg.extract 0 p.toNat) else none) else some ring) else some ring)
    else (if bg.size = 0 then loopR (fun d s => (spec_l1Num.f k d).bind fun z => ringF k dg lg z 1 s) dg.toNat 0 ring
    else (if 1 ≤ p ∧ p ≤ (bg.size : Int) then (spec_l1Num.f k (lowR bg p)).bind fun z => (if z.size ≤ 1000 then (ringF k dg lg (bg ++ z) p ring).bind fun s => loopR (fun d s => (spec_l1Num.f k d).bind fun z => (if z.size ≤ 1000 then ringF k dg lg (bg ++ z) ((bg.size : Int) + 1) s else none)) (dg - (lowR bg p + 1)).toNat (lowR bg p + 1) s else none) else none)))
  else none
theorem ringF_mono : ∀ (k : Nat) (dg lg : Int) (bg : ByteArray) (p : Int) (ring : ByteArray), LeO (ringF k dg lg bg p ring) (ringF (k + 1) dg lg bg p ring)
 | 0, _, _, _, _, _ => LeO.none _
 | k + 1, dg, lg, bg, p, ring => by
  unfold ringF
  refine LeO.ite (LeO.ite (LeO.refl _) (LeO.ite ?_ (LeO.ite (LeO.bind (spec_l1Num.mono _ _) (fun z => LeO.ite (LeO.bind (ringF_mono k _ _ _ _ _) (fun s => ?_)) (LeO.refl _))) (LeO.refl _)))) (LeO.refl _)
  ·
   exact loopR_mono _ _ (fun d s => LeO.bind (spec_l1Num.mono _ _) (fun z => ringF_mono k _ _ _ _ _)) _ _ _
  ·
   exact loopR_mono _ _ (fun d s => LeO.bind (spec_l1Num.mono _ _) (fun z => LeO.ite (ringF_mono k _ _ _ _ _) (LeO.refl _))) _ _ _
section
variable (b B : Nat) (w0 : World)
set_option maxHeartbeats 8000000 in
set_option maxRecDepth 100000 in
theorem ring_calls (hBs : B ≤ w0.heap.size) (hBb : B ≤ b) : ∀ (k : Nat) (dg lg : Int) (bg : ByteArray) (p : Int) (ring r : ByteArray) (W : World), Below B w0 W → W.heap[b]? = some (.cells #[.string ring] 9 (0, 0)) → ringF k dg lg bg p ring = some r →
  Calls Try.prog 7 #[.int .i64 dg, .int .i64 lg, .string bg, .int .i64 p, .pointer (some ⟨b, 0, none⟩)] W fun e W' => e = .returned (.tuple #[]) ∧ Below B w0 W' ∧ W'.heap[b]? = some (.cells #[.string r] 9 (0, 0)) := by
 intro k
 induction k with
 | zero => intro dg lg bg p ring r W _ _ h; cases h
 | succ k ih =>
  intro dg lg bg p ring r W hB hh h
  unfold ringF at h
  split at h
  ·
   rename_i hg
   obtain ⟨g1, g2, g3, g4, g5⟩ := hg
   have hcell : W.cell? ⟨b, 0, none⟩ = some (.string ring) := (blk_cell hh 0).trans rfl
   have IH := Aside0.mk ih
   have HB := Aside0.mk hB
   have HX := Aside0.mk hh
   have HCE := Aside0.mk hcell
   have GG := Aside0.mk (And.intro g1 (And.intro g2 (And.intro g3 (And.intro g4 g5))))
   split at h
   ·
    rename_i e1
    have c0 : ((bg.size : Int) == lg) = true := beq_iff_eq.mpr e1
    split at h
    ·
     rename_i e2
     have c2 : decide (p > 0) = true := decide_eq_true e2
     have hp0 : (p == 0) = false := by simpa using (by omega : ¬ p = 0)
     have hp1 : (p = 0) = False := eq_false (by omega)
     split at h
     ·
      rename_i e3
      have c3 : (Int.tmod lg p == 0) = true := beq_iff_eq.mpr e3
      split at h
      ·
       rename_i e4
       obtain ⟨ex, hex⟩ : ∃ e_ : ByteArray, e_ = bg.extract 0 p.toNat := ⟨_, rfl⟩
       rw [← hex] at h e4
       have hsl := fun W_ : World => run_slice_string_h (P := Try.prog) W_ 9 bg Try.underlying9 .i64 p (by omega) e4.1
       rw [← hex] at hsl
       have hfit : (9223372036854775807 < ring.size + ex.size) = False := eq_false (by omega)
       have HFT := Aside0.mk hfit
       obtain rfl := Option.some.inj h
       have HD := Aside0.mk (show W.drew.cell? ⟨b, 0, none⟩ = some (.string ring) from hcell)
       have hfr : W.drew.frozen? ⟨b, 0, none⟩ = false := by unfold World.frozen?; simp only [show W.drew.heap[b]? = some (.cells #[.string ring] 9 (0, 0)) from hh]; rfl
       clear ih hB hh hcell g1 g2 g3 g4 g5 h e1 e2 e3 e4 hex
       go_enter Try.func7, Try.ntmps7
       go_wp2
       have hcd := HD.out
       refine start_ (n := 9) (S := fun w' => w'.cell? ⟨b, 0, none⟩ = some (.string ring)) (ds := [8]) #[false, false, false, false, false, false, false, false, false] (by kernel_rfl) rfl rfl (HD.out) (fun hHeld => ?_)
       refine pure_ (i := 0) (N := some 25) (v := ?_) (a' := ?_) #[true, false, false, false, false, false, false, false, false] rfl rfl (by kernel_rfl) (fun _ _ _ h => h) (Or.inl ⟨by rfl, ?_⟩) ?_ ?_
       rotate_left
       ·
        intro w'
        go_simp
        with_reducible rfl
       rotate_left
       ·
        simp only [Act.put, List.setIfInBounds_toArray, List.set_cons_zero, List.set_cons_succ, i64_w, i32_w]
        rfl
       refine pure_ (i := 1) (N := some 26) (v := ?_) (a' := ?_) #[true, true, false, false, false, false, false, false, false] rfl rfl (by kernel_rfl) (fun _ _ _ h => h) (Or.inl ⟨by rfl, ?_⟩) ?_ ?_
       rotate_left
       ·
        intro w'
        go_simp
        with_reducible rfl
       rotate_left
       ·
        simp only [Act.put, List.setIfInBounds_toArray, List.set_cons_zero, List.set_cons_succ, i64_w, i32_w]
        rfl
       refine pure_ (i := 3) (N := some 28) (v := ?_) (a' := ?_) #[true, true, false, true, false, false, false, false, false] rfl rfl (by kernel_rfl) (fun _ _ _ h => h) (Or.inl ⟨by rfl, ?_⟩) ?_ ?_
       rotate_left
       ·
        intro w'
        go_simp
        with_reducible rfl
       rotate_left
       ·
        simp only [Act.put, List.setIfInBounds_toArray, List.set_cons_zero, List.set_cons_succ, i64_w, i32_w]
        rfl
       refine pure_ (i := 4) (N := some 29) (v := ?_) (a' := ?_) #[true, true, false, true, true, false, false, false, false] rfl rfl (by kernel_rfl) (fun _ _ _ h => h) (Or.inl ⟨by rfl, ?_⟩) ?_ ?_
       rotate_left
       ·
        intro w'
        go_simp
        with_reducible rfl
       rotate_left
       ·
        simp only [Act.put, List.setIfInBounds_toArray, List.set_cons_zero, List.set_cons_succ, i64_w, i32_w]
        rfl
       refine pure_ (i := 5) (N := some 30) (v := ?_) (a' := ?_) #[true, true, false, true, true, true, false, false, false] rfl rfl (by kernel_rfl) (fun _ _ _ h => h) (Or.inl ⟨by rfl, ?_⟩) ?_ ?_
       rotate_left
       ·
        intro w'
        go_simp
        with_reducible rfl
       rotate_left
       ·
        simp only [Act.put, List.setIfInBounds_toArray, List.set_cons_zero, List.set_cons_succ, i64_w, i32_w]
        rfl
       refine take_ (i := 2) (N := some 27) (v := ?_) (a' := ?_) #[true, true, true, true, true, true, false, false, false] rfl rfl (by kernel_rfl) (fun _ _ _ h => h) (Or.inl ⟨by rfl, ?_⟩) hHeld ?_ ?_
       rotate_left
       ·
        intro w' s0
        go_simp
        with_reducible rfl
       rotate_left
       ·
        simp only [Act.put, List.setIfInBounds_toArray, List.set_cons_zero, List.set_cons_succ, i64_w, i32_w]
        rfl
       refine pure_ (i := 6) (N := some 31) (v := ?_) (a' := ?_) #[true, true, true, true, true, true, true, false, false] rfl rfl (by kernel_rfl) (fun _ _ _ h => h) (Or.inl ⟨by rfl, ?_⟩) ?_ ?_
       rotate_left
       ·
        intro w'
        go_simp
        with_reducible rfl
       rotate_left
       ·
        simp only [Act.put, List.setIfInBounds_toArray, List.set_cons_zero, List.set_cons_succ, i64_w, i32_w]
        rfl
       refine pure_ (i := 7) (N := some 32) (v := ?_) (a' := ?_) #[true, true, true, true, true, true, true, true, false] rfl rfl (by kernel_rfl) (fun _ _ _ h => h) (Or.inl ⟨by rfl, ?_⟩) ?_ ?_
       rotate_left
       ·
        intro w'
        go_simp
        with_reducible rfl
       rotate_left
       ·
        simp only [Act.put, List.setIfInBounds_toArray, List.set_cons_zero, List.set_cons_succ, i64_w, i32_w]
        rfl
       refine last_ (i := 8) (N := none) #[true, true, true, true, true, true, true, true, true] rfl rfl (by kernel_rfl) (by decide) (fun K hK => ?_)
       refine skip_ (w1 := ?_) (by rfl) rfl ?_ ?_
       rotate_left
       ·
        go_simp
        rfl
       refine hK.out _ _ ?_
       clear hK K
       refine done_ (by kernel_rfl) ?_
       go_wp2
       first | go_end0 | ((try simp only [Exit.inBlock, Exit.then]); refine bodyPost_ret (results_none rfl _ _ _) rfl ?_)
       exact ⟨rfl, (below_drew1 HB.out).setCell (p := ⟨b, 0, none⟩) hBb _, blk_put (cs := #[.string ring]) (show W.drew.heap[b]? = _ from HX.out) 0 _ rfl⟩
      ·
       cases h
     ·
      rename_i e3
      have c3 : (Int.tmod lg p == 0) = false := beq_eq_false_iff_ne.mpr e3
      obtain rfl := Option.some.inj h
      clear ih hB hh hcell g1 g2 g3 g4 g5 h e1 e2 e3
      go_enter Try.func7, Try.ntmps7
      go_wp2
      first | go_end0 | ((try simp only [Exit.inBlock, Exit.then]); refine bodyPost_ret (results_none rfl _ _ _) rfl ?_)
      exact ⟨rfl, HB.out, HX.out⟩
    ·
     rename_i e2
     have c2 : decide (p > 0) = false := decide_eq_false e2
     obtain rfl := Option.some.inj h
     clear ih hB hh hcell g1 g2 g3 g4 g5 h e1 e2
     go_enter Try.func7, Try.ntmps7
     go_wp2
     first | go_end0 | ((try simp only [Exit.inBlock, Exit.then]); refine bodyPost_ret (results_none rfl _ _ _) rfl ?_)
     exact ⟨rfl, HB.out, HX.out⟩
   ·
    rename_i e1
    have c0 : ((bg.size : Int) == lg) = false := beq_eq_false_iff_ne.mpr e1
    split at h
    ·
     rename_i e2
     have c1 : ((bg.size : Int) == 0) = true := beq_iff_eq.mpr (by omega)
     have HH := Aside0.mk h
     clear ih hB hh hcell g1 g2 g3 g4 g5 h e1 e2
     go_enter Try.func7, Try.ntmps7
     go_wp2
     go_loopg [10] dg.toNat (fun gg v10 w' => ∃ (x : Int), v10 = .int .i64 x ∧ Aside0 (∃ (σ : ByteArray), 0 ≤ x ∧ (x ≤ dg ∨ x = 0) ∧ (dg - x).toNat ≤ gg ∧ Below B w0 w' ∧ w'.heap[b]? = some (.cells #[.string σ] 9 (0, 0)) ∧ loopR (fun d s => (spec_l1Num.f k d).bind fun z => ringF k dg lg z 1 s) (dg - x).toNat x σ = some r))
     case atStart => exact ⟨0, rfl, ⟨ring, by omega, .inr rfl, by omega, HB.out, HX.out, by rw [show dg - 0 = dg by omega]; exact HH.out⟩⟩
     case round =>
      obtain ⟨x, rfl, ⟨σ, k1, k2, k3, k4, k5, k6⟩⟩ := hrel
      by_cases hlt : x < dg
      ·
       have c5 : decide (x < dg) = true := decide_eq_true hlt
       have e5 : (dg - x).toNat = (dg - (x + 1)).toNat + 1 := by omega
       rw [e5] at k6
       unfold loopR at k6
       obtain ⟨s2, hs2, k6⟩ := Option.bind_eq_some_iff.mp k6
       obtain ⟨z, hz, hs2⟩ := Option.bind_eq_some_iff.mp hs2
       have ew : wrap64 (x + 1) = x + 1 := IntWalk.wrap64_in _ ⟨by omega, by have := GG.out; omega⟩
       have HS2 := Aside0.mk hs2
       have HZ := Aside0.mk (fun W_ => spec_l1Num.calls k x z W_ hz)
       have EW := Aside0.mk ew
       have KX := Aside0.mk (And.intro k1 (And.intro k3 hlt))
       have KB := Aside0.mk (And.intro k4 k5)
       have K6 := Aside0.mk k6
       clear k1 k2 k3 k4 k5 k6 hs2 hz ew hlt e5
       go_wp2_with (first | (go_at_call 13; refine (HZ.out _).mono ?_; rintro e w3 ⟨rfl, hb3⟩; have K3 := Aside0.mk (And.intro (KB.out.1.trans (hb3.mono (Nat.le_trans hBs KB.out.1.size))) ((hb3.block b (blk_lt KB.out.2)).trans KB.out.2)); clear hb3) | (go_at_call 7; refine (IH.out dg lg z 1 σ s2 w3 K3.out.1 K3.out.2 HS2.out).mono ?_; rintro e w5 ⟨rfl, h51, h52⟩; have K5 := Aside0.mk (And.intro h51 h52); clear h51 h52))
       go_roundg (dg - (x + 1)).toNat
       case measure => have := KX.out; omega
       case rel => exact ⟨_, rfl, ⟨s2, by have := EW.out; have := KX.out; omega, by have := EW.out; have := KX.out; omega, by rw [EW.out]; exact Nat.le_refl _, K5.out.1, K5.out.2, by rw [EW.out]; exact K6.out⟩⟩
      ·
       have c5 : decide (x < dg) = false := decide_eq_false hlt
       rw [show (dg - x).toNat = 0 by omega] at k6
       obtain rfl := Option.some.inj k6
       have KB := Aside0.mk (And.intro k4 k5)
       clear k1 k2 k3 k4 k5 k6 hlt
       go_wp2
       first | go_end0 | ((try simp only [Exit.inBlock, Exit.then]); refine bodyPost_ret (results_none rfl _ _ _) rfl ?_)
       exact ⟨rfl, KB.out⟩
    ·
     rename_i e2
     have c1 : ((bg.size : Int) == 0) = false := beq_eq_false_iff_ne.mpr (by omega)
     split at h
     ·
      rename_i e3
      obtain ⟨z, hz, h⟩ := Option.bind_eq_some_iff.mp h
      split at h
      ·
       rename_i e4
       obtain ⟨s, hs, h⟩ := Option.bind_eq_some_iff.mp h
       have hwi : wrap64 ((bg.size : Int) - p) = (bg.size : Int) - p := IntWalk.wrap64_in _ ⟨by omega, by omega⟩
       have hbt := bt_at bg (wrap64 ((bg.size : Int) - p))
       have q0 : ((wrap64 ((bg.size : Int) - p)).toNat < bg.size) = True := eq_true (by omega)
       have p1 : (0 ≤ wrap64 ((bg.size : Int) - p)) = True := eq_true (by omega)
       have q1 : (wrap64 ((bg.size : Int) - p) < (bg.size : Int)) = True := eq_true (by omega)
       obtain ⟨y, hy⟩ : ∃ y, lowR bg p = y := ⟨_, rfl⟩
       have hy0 : 0 ≤ y ∧ y ≤ 255 := by rw [← hy]; unfold lowR; omega
       rw [hy] at hz h
       have hy2 : (bt bg (wrap64 ((bg.size : Int) - p)) - 48) % 256 = y := hy
       have hyw : IntKind.u8.wrap (bt bg (wrap64 ((bg.size : Int) - p)) - 48) = y := hy2
       have hw5 : wrap64 (y + 1) = y + 1 := IntWalk.wrap64_in _ ⟨by omega, by omega⟩
       have hyy : wrap64 y = y := IntWalk.wrap64_in _ ⟨by omega, by omega⟩
       have hfit : (9223372036854775807 < bg.size + z.size) = False := eq_false (by omega)
       have HS := Aside0.mk hs
       have HH := Aside0.mk h
       have HZ := Aside0.mk (fun W_ => spec_l1Num.calls k y z W_ hz)
       have EE := Aside0.mk (And.intro hy0 (And.intro hw5 e3))
       clear ih hB hh hcell g1 g2 g3 g4 g5 h e1 e2 e3 e4 hs hz hy hy0 hwi
       go_enter Try.func7, Try.ntmps7
       go_wp2_with (first | (go_at_call 13; refine (HZ.out _).mono ?_; rintro e w3 ⟨rfl, hb3⟩; have K3 := Aside0.mk (And.intro (HB.out.trans (hb3.mono (Nat.le_trans hBs HB.out.size))) ((hb3.block b (blk_lt HX.out)).trans HX.out)); clear hb3) | (go_at_call 7; refine (IH.out dg lg (bg ++ z) p ring s w3 K3.out.1 K3.out.2 HS.out).mono ?_; rintro e w5 ⟨rfl, h51, h52⟩; have K5 := Aside0.mk (And.intro h51 h52); clear h51 h52))
       clear hbt q0 p1 q1 hfit hyw hy2 hyy
       go_loopg [12] (dg - (y + 1)).toNat (fun gg v12 w' => ∃ (x : Int), v12 = .int .i64 x ∧ Aside0 (∃ (σ : ByteArray), 0 ≤ x ∧ x ≤ 2000 ∧ (dg - x).toNat ≤ gg ∧ Below B w0 w' ∧ w'.heap[b]? = some (.cells #[.string σ] 9 (0, 0)) ∧ loopR (fun d s => (spec_l1Num.f k d).bind fun z => (if z.size ≤ 1000 then ringF k dg lg (bg ++ z) ((bg.size : Int) + 1) s else none)) (dg - x).toNat x σ = some r))
       case atStart => exact ⟨_, rfl, ⟨s, by have := EE.out; omega, by have := EE.out; omega, by have := EE.out; omega, K5.out.1, K5.out.2, by have := HH.out; first | exact this | (rw [EE.out.2.1]; exact this)⟩⟩
       case round =>
        obtain ⟨x, rfl, ⟨σ, k1, k2, k3, k4, k5, k6⟩⟩ := hrel
        by_cases hlt : x < dg
        ·
         have c5 : decide (x < dg) = true := decide_eq_true hlt
         have e5 : (dg - x).toNat = (dg - (x + 1)).toNat + 1 := by omega
         rw [e5] at k6
         unfold loopR at k6
         obtain ⟨s2, hs2, k6⟩ := Option.bind_eq_some_iff.mp k6
         obtain ⟨z2, hz2, hs2⟩ := Option.bind_eq_some_iff.mp hs2
         split at hs2
         ·
          rename_i ez
          have ew : wrap64 (x + 1) = x + 1 := IntWalk.wrap64_in _ ⟨by omega, by omega⟩
          have es : wrap64 ((bg.size : Int) + 1) = (bg.size : Int) + 1 := IntWalk.wrap64_in _ ⟨by omega, by have := GG.out; omega⟩
          have hfit : (9223372036854775807 < bg.size + z2.size) = False := eq_false (by have := GG.out; omega)
          have HS2 := Aside0.mk (show ringF k dg lg (bg ++ z2) (wrap64 ((bg.size : Int) + 1)) σ = some s2 by rw [es]; exact hs2)
          have HZ2 := Aside0.mk (fun W_ => spec_l1Num.calls k x z2 W_ hz2)
          have EW := Aside0.mk ew
          have KX := Aside0.mk (And.intro k1 (And.intro k3 hlt))
          have KB := Aside0.mk (And.intro k4 k5)
          have K6 := Aside0.mk k6
          clear k1 k2 k3 k4 k5 k6 hs2 hz2 ew hlt e5 es ez
          go_wp2_with (first | (go_at_call 13; refine (HZ2.out _).mono ?_; rintro e w3 ⟨rfl, hb3⟩; have K3 := Aside0.mk (And.intro (KB.out.1.trans (hb3.mono (Nat.le_trans hBs KB.out.1.size))) ((hb3.block b (blk_lt KB.out.2)).trans KB.out.2)); clear hb3) | (go_at_call 7; refine (IH.out dg lg (bg ++ z2) _ σ s2 w3 K3.out.1 K3.out.2 HS2.out).mono ?_; rintro e w5 ⟨rfl, h51, h52⟩; have K7 := Aside0.mk (And.intro h51 h52); clear h51 h52))
          go_roundg (dg - (x + 1)).toNat
          case measure => have := KX.out; omega
          case rel => exact ⟨_, rfl, ⟨s2, by have := EW.out; have := KX.out; omega, by have := EW.out; have := KX.out; have := GG.out; omega, by rw [EW.out]; exact Nat.le_refl _, K7.out.1, K7.out.2, by rw [EW.out]; exact K6.out⟩⟩
         ·
          cases hs2
        ·
         have c5 : decide (x < dg) = false := decide_eq_false hlt
         rw [show (dg - x).toNat = 0 by omega] at k6
         obtain rfl := Option.some.inj k6
         have KB := Aside0.mk (And.intro k4 k5)
         clear k1 k2 k3 k4 k5 k6 hlt
         go_wp2
         first | go_end0 | ((try simp only [Exit.inBlock, Exit.then]); refine bodyPost_ret (results_none rfl _ _ _) rfl ?_)
         exact ⟨rfl, KB.out⟩
      ·
       cases h
     ·
      cases h
  ·
   cases h
end
def spec_OpenAllText.f (k : Nat) (a0 : Int) (a1 : Int) : Option (ByteArray × Bool) := (spec_piAll.f k a0 a1).bind fun t => if t < 0 then some ((⟨#[]⟩ : ByteArray), false) else (ringF k a0 a1 (⟨#[]⟩ : ByteArray) 0 (⟨#[]⟩ : ByteArray)).bind fun q => if 1 ≤ q.size ∧ q.size ≤ 100000 then (spec_piMore.f k q a1).bind fun m => if m.size ≤ 100000 then some (q ++ q.extract 0 1 ++ m, true) else none else none
theorem spec_OpenAllText.mono : ∀ y0 y1 k, LeO (spec_OpenAllText.f k y0 y1) (spec_OpenAllText.f (k + 1) y0 y1) := by
 intro y0 y1 k
 unfold spec_OpenAllText.f
 exact LeO.bind (spec_piAll.mono _ _ _) (fun t => LeO.ite (LeO.refl _) (LeO.bind (ringF_mono _ _ _ _ _ _) (fun q => LeO.ite (LeO.bind (spec_piMore.mono _ _ _) (fun m => LeO.refl _)) (LeO.refl _))))
set_option maxHeartbeats 8000000 in
set_option maxRecDepth 100000 in
theorem spec_OpenAllText.calls (k : Nat) (a0 : Int) (a1 : Int) (r1 : ByteArray) (r2 : Bool) (w : World) (h : spec_OpenAllText.f k a0 a1 = some (r1, r2)) :
  Calls Try.prog 4 #[.int .i64 a0, .int .i64 a1] w fun e w' => e = .returned (.tuple #[.string r1, .bool r2]) ∧ Below w.heap.size w w' := by
 unfold spec_OpenAllText.f at h
 obtain ⟨t, ht, h⟩ := Option.bind_eq_some_iff.mp h
 have HL := Aside0.mk (fun W => spec_piAll.calls k a0 a1 t W ht)
 clear ht
 split at h
 ·
  rename_i c
  obtain ⟨rfl, rfl⟩ := Prod.mk.inj (Option.some.inj h)
  have c0 : decide (t < 0) = true := decide_eq_true c
  clear h c
  go_enter Try.func4, Try.ntmps4
  go_wp2_with (go_at_call 6; refine (HL.out _).mono ?_; rintro e w2 ⟨rfl, ⟨nd, rfl⟩⟩; have B2 := Aside0.mk (pw_below_drewN (Below.refl w.heap.size w) nd); generalize w.drewN nd = w2 at B2 ⊢)
  go_ret2
  exact ⟨rfl, B2.out⟩
 ·
  rename_i c
  obtain ⟨q, hq, h⟩ := Option.bind_eq_some_iff.mp h
  split at h
  ·
   rename_i hb
   obtain ⟨m, hm, h⟩ := Option.bind_eq_some_iff.mp h
   split at h
   ·
    rename_i hmb
    obtain ⟨ex, hex⟩ : ∃ e_ : ByteArray, e_ = q.extract 0 1 := ⟨_, rfl⟩
    have hexs : ex.size ≤ 1 := by rw [hex, ByteArray.size_extract]; omega
    have hsl := fun W_ : World => run_slice_string_h (P := Try.prog) W_ 9 q Try.underlying9 .i64 1 (by decide) (by omega)
    rw [show (1 : Int).toNat = 1 from rfl, ← hex] at hsl
    rw [← hex] at h
    obtain ⟨rfl, rfl⟩ := Prod.mk.inj (Option.some.inj h)
    have c0 : decide (t < 0) = false := decide_eq_false c
    have hf1 : (9223372036854775807 < q.size + ex.size) = False := eq_false (by omega)
    have hf2 : (9223372036854775807 < (q ++ ex).size + m.size) = False := eq_false (by rw [ByteArray.size_append]; omega)
    have hf3 : (9223372036854775807 < q.size + ex.size + m.size) = False := eq_false (by omega)
    have HQ := Aside0.mk hq
    have HM := Aside0.mk (fun W => spec_piMore.calls k q a1 m W hm)
    clear h c hq hm hb hmb hex hexs
    go_enter Try.func4, Try.ntmps4
    go_wp2_with (first | (go_at_call 6; refine (HL.out _).mono ?_; rintro e w2 ⟨rfl, ⟨nd, rfl⟩⟩; have B3 := Aside0.mk (pw_below_drewN (Below.refl w.heap.size w) nd); generalize w.drewN nd = w2 at B3 ⊢) | ((with_reducible refine gate_dst (N := 7) rfl ?_); refine box_event ?hg (N := 7) ?hd (cs := #[.string (⟨#[]⟩ : ByteArray)]) (t := 9) ?hr ?_; (case hd => rfl); (case hg => rfl); (case hr => first | (go_simp; done) | (go_simp; rfl)); intro b hg6 w5 hbox hb_; have hc5 : w5.cell? ⟨b, 0, none⟩ = some (.string (⟨#[]⟩ : ByteArray)) := (blk_cell hbox 0).trans rfl; have hf5 : w5.frozen? ⟨b, 0, none⟩ = false := (by unfold World.frozen?; simp only [hbox]; rfl); have S5 := Aside0.mk (show Below w.heap.size w w5 ∧ w5.heap[b]? = some (.cells #[.string (⟨#[]⟩ : ByteArray)] 9 (0, 0)) ∧ w.heap.size ≤ b from ⟨B3.out.trans (hb_.mono B3.out.size), hbox, (by have := B3.out.size; omega)⟩); clear hg6 hbox hb_) | (go_at_call 7; refine (ring_calls b w.heap.size w (Nat.le_refl _) S5.out.2.2 k a0 a1 (⟨#[]⟩ : ByteArray) 0 (⟨#[]⟩ : ByteArray) q _ (S5.out.1.setCell (p := ⟨b, 0, none⟩) S5.out.2.2 _) (blk_put (cs := #[.string (⟨#[]⟩ : ByteArray)]) S5.out.2.1 0 _ rfl) HQ.out).mono ?_; rintro e w6 ⟨rfl, h61, h62⟩; have S6 := Aside0.mk (And.intro h61 h62); clear h61 h62))
    have HD := Aside0.mk (show w6.drew.cell? ⟨b, 0, none⟩ = some (.string q) from (blk_cell S6.out.2 0).trans rfl)
    clear hc5 hf5
    refine start_ (n := 10) (S := fun w' => w'.cell? ⟨b, 0, none⟩ = some (.string q)) (ds := []) #[false, false, false, false, false, false, false, false, false, false] (by kernel_rfl) rfl rfl (HD.out) (fun hHeld => ?_)
    refine pure_ (i := 5) (N := some 21) (v := ?_) (a' := ?_) #[false, false, false, false, false, true, false, false, false, false] rfl rfl (by kernel_rfl) (fun _ _ _ h => h) (Or.inl ⟨by rfl, ?_⟩) ?_ ?_
    rotate_left
    ·
     intro w'
     go_simp
     with_reducible rfl
    rotate_left
    ·
     simp only [Act.put, List.setIfInBounds_toArray, List.set_cons_zero, List.set_cons_succ, i64_w, i32_w]
     rfl
    refine take_ (i := 0) (N := some 16) (v := ?_) (a' := ?_) #[true, false, false, false, false, true, false, false, false, false] rfl rfl (by kernel_rfl) (fun _ _ _ h => h) (Or.inl ⟨by rfl, ?_⟩) hHeld ?_ ?_
    rotate_left
    ·
     intro w' s0
     go_simp
     with_reducible rfl
    rotate_left
    ·
     simp only [Act.put, List.setIfInBounds_toArray, List.set_cons_zero, List.set_cons_succ, i64_w, i32_w]
     rfl
    refine take_ (i := 1) (N := some 17) (v := ?_) (a' := ?_) #[true, true, false, false, false, true, false, false, false, false] rfl rfl (by kernel_rfl) (fun _ _ _ h => h) (Or.inl ⟨by rfl, ?_⟩) hHeld ?_ ?_
    rotate_left
    ·
     intro w' s0
     go_simp
     with_reducible rfl
    rotate_left
    ·
     simp only [Act.put, List.setIfInBounds_toArray, List.set_cons_zero, List.set_cons_succ, i64_w, i32_w]
     rfl
    refine pure_ (i := 2) (N := some 18) (v := ?_) (a' := ?_) #[true, true, true, false, false, true, false, false, false, false] rfl rfl (by kernel_rfl) (fun _ _ _ h => h) (Or.inl ⟨by rfl, ?_⟩) ?_ ?_
    rotate_left
    ·
     intro w'
     go_simp
     with_reducible rfl
    rotate_left
    ·
     simp only [Act.put, List.setIfInBounds_toArray, List.set_cons_zero, List.set_cons_succ, i64_w, i32_w]
     rfl
    refine pure_ (i := 3) (N := some 19) (v := ?_) (a' := ?_) #[true, true, true, true, false, true, false, false, false, false] rfl rfl (by kernel_rfl) (fun _ _ _ h => h) (Or.inl ⟨by rfl, ?_⟩) ?_ ?_
    rotate_left
    ·
     intro w'
     go_simp
     with_reducible rfl
    rotate_left
    ·
     simp only [Act.put, List.setIfInBounds_toArray, List.set_cons_zero, List.set_cons_succ, i64_w, i32_w]
     rfl
    refine take_ (i := 4) (N := some 20) (v := ?_) (a' := ?_) #[true, true, true, true, true, true, false, false, false, false] rfl rfl (by kernel_rfl) (fun _ _ _ h => h) (Or.inl ⟨by rfl, ?_⟩) hHeld ?_ ?_
    rotate_left
    ·
     intro w' s0
     go_simp
     with_reducible rfl
    rotate_left
    ·
     simp only [Act.put, List.setIfInBounds_toArray, List.set_cons_zero, List.set_cons_succ, i64_w, i32_w]
     rfl
    refine one_ (i := 6) (N := some 22) #[true, true, true, true, true, true, true, false, false, false] rfl rfl (by kernel_rfl) (by decide) (fun K hK => ?_)
    refine goes_ Try.func8 (by kernel_rfl) rfl #[.string q, .int .i64 a1] (by rfl) rfl rfl (by simp only [List.map_toArray, List.map_cons, List.map_nil]; rfl) ?_
    with_reducible refine (HM.out _).mono ?_
    rintro e w7 ⟨rfl, ⟨nd, rfl⟩⟩
    refine ⟨_, rfl, ?_⟩
    refine hK.out _ _ (HD.out) (fun hHeld => ?_)
    clear hK K
    refine norm_ (a' := ?_) ?_ ?_
    rotate_left
    ·
     show Act.put _ (some 22) _ = _
     simp only [Act.put, List.setIfInBounds_toArray, List.set_cons_zero, List.set_cons_succ, i64_w, i32_w]
     rfl
    refine pure_ (i := 7) (N := some 23) (v := ?_) (a' := ?_) #[true, true, true, true, true, true, true, true, false, false] rfl rfl (by kernel_rfl) (fun _ _ _ h => h) (Or.inl ⟨by rfl, ?_⟩) ?_ ?_
    rotate_left
    ·
     intro w'
     go_simp
     with_reducible rfl
    rotate_left
    ·
     simp only [Act.put, List.setIfInBounds_toArray, List.set_cons_zero, List.set_cons_succ, i64_w, i32_w]
     rfl
    refine pure_ (i := 8) (N := some 4) (v := ?_) (a' := ?_) #[true, true, true, true, true, true, true, true, true, false] rfl rfl (by kernel_rfl) (fun _ _ _ h => h) (Or.inl ⟨by rfl, ?_⟩) ?_ ?_
    rotate_left
    ·
     intro w'
     go_simp
     with_reducible rfl
    rotate_left
    ·
     simp only [Act.put, List.setIfInBounds_toArray, List.set_cons_zero, List.set_cons_succ, i64_w, i32_w]
     rfl
    refine pure_ (i := 9) (N := some 5) (v := ?_) (a' := ?_) #[true, true, true, true, true, true, true, true, true, true] rfl rfl (by kernel_rfl) (fun _ _ _ h => h) (Or.inl ⟨by rfl, ?_⟩) ?_ ?_
    rotate_left
    ·
     intro w'
     go_simp
     with_reducible rfl
    rotate_left
    ·
     simp only [Act.put, List.setIfInBounds_toArray, List.set_cons_zero, List.set_cons_succ, i64_w, i32_w]
     rfl
    refine done_ (by kernel_rfl) ?_
    go_wp2
    go_ret2
    exact ⟨rfl, pw_below_drewN (below_drew1 S6.out.1) nd⟩
   ·
    cases h
  ·
   cases h

end Go.Proofs.Ytbpmgfdjcblhnaa.P

-- printed by xprint.py
namespace Go.Proofs.Ytbpmgfdjcblhnaa.P
open Go.RowKit Go.Proofs.YtbpmgfdjcblhnaaW.PrintWords Go.Proofs.YtbpmgfdjcblhnaaW.PrintLast Go.Proofs.YtbpmgfdjcblhnaaW.PrintMore
attribute [local go_sem] max2_int min2_int max_two min_two max_three min_three max_four min_four   -- for this text's walks alone
set_option linter.unusedVariables false
set_option linter.unusedSimpArgs false

/-! ### laws_FnExactOpenAllText: function 3 -/
def laws_FnExactOpenAllText.f (k : Nat) (a0 : Int) (a1 : Int) : Option (Bool) := (spec_OpenAllText.f k a0 a1).bind fun bt101 => ((impl_OpenAllText.f k a0 a1).bind fun bt103 => (if bt103.1.toList = bt101.1.toList then (if (bt103.2 != bt101.2) = true then (some false) else (some true)) else (some false)))
theorem laws_FnExactOpenAllText.mono : ∀ y0 y1 k, LeO (laws_FnExactOpenAllText.f k y0 y1) (laws_FnExactOpenAllText.f (k + 1) y0 y1) := by
 intro y0 y1 k
 unfold laws_FnExactOpenAllText.f
 repeat' first
   | (with_reducible exact impl_OpenAllText.mono _ _ _)
   | (with_reducible exact spec_OpenAllText.mono _ _ _)
   | (with_reducible exact LeO.refl _)
   | (with_reducible exact LeO.none _)
   | (with_reducible refine LeO.ite ?_ ?_)
   | (with_reducible refine LeO.bind ?_ (fun _ => ?_))
   | exact impl_OpenAllText.mono _ _ _
   | exact spec_OpenAllText.mono _ _ _
   | exact LeO.none _
   | refine LeO.ite ?_ ?_
   | refine LeO.bind ?_ (fun _ => ?_)
set_option maxHeartbeats 8000000 in
set_option maxRecDepth 100000 in
theorem laws_FnExactOpenAllText.calls (k : Nat) (a0 : Int) (a1 : Int) (r : Bool) (w : World) (h : laws_FnExactOpenAllText.f k a0 a1 = some r) :
  Calls Try.prog 3 #[.int .i64 a0, .int .i64 a1] w fun e w' => e = .returned (.bool r) ∧ Below w.heap.size w w' := by
 have HB := Aside0.mk (Below.refl w.heap.size w)
 have H : ((spec_OpenAllText.f k a0 a1).bind fun bt101 => ((impl_OpenAllText.f k a0 a1).bind fun bt103 => (if bt103.1.toList = bt101.1.toList then (if (bt103.2 != bt101.2) = true then (some false) else (some true)) else (some false)))) = some r := h
 clear h
 replace H := Option.bind_eq_some_iff.mp H
 obtain ⟨⟨t101, t102⟩, A30, H⟩ := H
 replace H : ((impl_OpenAllText.f k a0 a1).bind fun bt103 => (if bt103.1.toList = t101.toList then (if (bt103.2 != t102) = true then (some false) else (some true)) else (some false))) = some r := H
 have A3 := Aside0.mk A30
 clear A30
 replace H := Option.bind_eq_some_iff.mp H
 obtain ⟨⟨t103, t104⟩, A40, H⟩ := H
 replace H : (if t103.toList = t101.toList then (if (t104 != t102) = true then (some false) else (some true)) else (some false)) = some r := H
 have A4 := Aside0.mk A40
 clear A40
 by_cases c5 : t103.toList = t101.toList
 ·
  rw [if_pos c5] at H
  have c5b0 : (t103.toList == t101.toList) = true := beq_iff_eq.mpr c5
  have c5b1 : (t103.toList != t101.toList) = false := bne_eq_false_iff_eq.mpr c5
  clear c5
  by_cases c6 : (t104 != t102) = true
  ·
   rw [if_pos c6] at H
   have c6b0 : (t104 != t102) = true := c6
   (try (have c6b1 : decide (t104 = t102) = false := by simpa using c6))
   (try (have c6b2 : (t104 == t102) = false := by simpa using c6))
   (try (have c6b3 : ¬ (t104 = t102) := by simpa using c6))
   clear c6
   obtain rfl := Option.some.inj H
   go_enter Try.func3, Try.ntmps3
   go_wp2_with (first | ((with_reducible refine gate_callee (f := 4) rfl ?_); refine goesL_ (some 12) rfl rfl Try.func4 (by kernel_rfl) rfl #[.int .i64 a0, .int .i64 a1] rfl (by (try simp only [List.map_toArray, List.map_cons, List.map_nil]); first | done | rfl | (simp only [List.length_drop, List.length_take]; rfl)) ?_; (with_reducible refine (spec_OpenAllText.calls k a0 a1 t101 t102 _ A3.out).mono ?_); rintro e w7 ⟨rfl, hb⟩; refine ⟨_, rfl, ?_⟩; have n0_ := Aside0.mk (below_step (by repeat (first | (with_reducible first | exact HB.out | apply below_alloc | apply pw_below_drewN | apply below_drew1) | exact HB.out)) hb); clear HB; have HB := n0_; clear n0_; (try clear hb); (try clear hb2); (try clear hk); (try clear hi)) | ((with_reducible refine gate_callee (f := 5) rfl ?_); refine goesL_ (some 18) rfl rfl Try.func5 (by kernel_rfl) rfl #[.int .i64 a0, .int .i64 a1] rfl (by (try simp only [List.map_toArray, List.map_cons, List.map_nil]); first | done | rfl | (simp only [List.length_drop, List.length_take]; rfl)) ?_; (with_reducible refine (impl_OpenAllText.calls k a0 a1 t103 t104 _ A4.out).mono ?_); rintro e w8 ⟨rfl, hb⟩; refine ⟨_, rfl, ?_⟩; have n0_ := Aside0.mk (below_step (by repeat (first | (with_reducible first | exact HB.out | apply below_alloc | apply pw_below_drewN | apply below_drew1) | exact HB.out)) hb); clear HB; have HB := n0_; clear n0_; (try clear hb); (try clear hb2); (try clear hk); (try clear hi)))
   go_ret
   exact ⟨by first | rfl | (simp [errW_none, errW_some] <;> rfl) | (simp [*, errW_none, errW_some] <;> rfl), by repeat (first | (with_reducible first | exact HB.out | apply below_alloc | apply pw_below_drewN | apply below_drew1) | exact HB.out)⟩
  ·
   rw [if_neg c6] at H
   have c6b0 : (t104 != t102) = false := by simpa using c6
   (try (have c6b1 : decide (t104 = t102) = true := by simpa using c6))
   (try (have c6b2 : (t104 == t102) = true := by simpa using c6))
   clear c6
   obtain rfl := Option.some.inj H
   go_enter Try.func3, Try.ntmps3
   go_wp2_with (first | ((with_reducible refine gate_callee (f := 4) rfl ?_); refine goesL_ (some 12) rfl rfl Try.func4 (by kernel_rfl) rfl #[.int .i64 a0, .int .i64 a1] rfl (by (try simp only [List.map_toArray, List.map_cons, List.map_nil]); first | done | rfl | (simp only [List.length_drop, List.length_take]; rfl)) ?_; (with_reducible refine (spec_OpenAllText.calls k a0 a1 t101 t102 _ A3.out).mono ?_); rintro e w9 ⟨rfl, hb⟩; refine ⟨_, rfl, ?_⟩; have n0_ := Aside0.mk (below_step (by repeat (first | (with_reducible first | exact HB.out | apply below_alloc | apply pw_below_drewN | apply below_drew1) | exact HB.out)) hb); clear HB; have HB := n0_; clear n0_; (try clear hb); (try clear hb2); (try clear hk); (try clear hi)) | ((with_reducible refine gate_callee (f := 5) rfl ?_); refine goesL_ (some 18) rfl rfl Try.func5 (by kernel_rfl) rfl #[.int .i64 a0, .int .i64 a1] rfl (by (try simp only [List.map_toArray, List.map_cons, List.map_nil]); first | done | rfl | (simp only [List.length_drop, List.length_take]; rfl)) ?_; (with_reducible refine (impl_OpenAllText.calls k a0 a1 t103 t104 _ A4.out).mono ?_); rintro e w10 ⟨rfl, hb⟩; refine ⟨_, rfl, ?_⟩; have n0_ := Aside0.mk (below_step (by repeat (first | (with_reducible first | exact HB.out | apply below_alloc | apply pw_below_drewN | apply below_drew1) | exact HB.out)) hb); clear HB; have HB := n0_; clear n0_; (try clear hb); (try clear hb2); (try clear hk); (try clear hi)))
   go_ret
   exact ⟨by first | rfl | (simp [errW_none, errW_some] <;> rfl) | (simp [*, errW_none, errW_some] <;> rfl), by repeat (first | (with_reducible first | exact HB.out | apply below_alloc | apply pw_below_drewN | apply below_drew1) | exact HB.out)⟩
 ·
  rw [if_neg c5] at H
  have c5b0 : (t103.toList == t101.toList) = false := beq_eq_false_iff_ne.mpr c5
  have c5b1 : (t103.toList != t101.toList) = true := bne_iff_ne.mpr c5
  obtain rfl := Option.some.inj H
  go_enter Try.func3, Try.ntmps3
  go_wp2_with (first | ((with_reducible refine gate_callee (f := 4) rfl ?_); refine goesL_ (some 12) rfl rfl Try.func4 (by kernel_rfl) rfl #[.int .i64 a0, .int .i64 a1] rfl (by (try simp only [List.map_toArray, List.map_cons, List.map_nil]); first | done | rfl | (simp only [List.length_drop, List.length_take]; rfl)) ?_; (with_reducible refine (spec_OpenAllText.calls k a0 a1 t101 t102 _ A3.out).mono ?_); rintro e w11 ⟨rfl, hb⟩; refine ⟨_, rfl, ?_⟩; have n0_ := Aside0.mk (below_step (by repeat (first | (with_reducible first | exact HB.out | apply below_alloc | apply pw_below_drewN | apply below_drew1) | exact HB.out)) hb); clear HB; have HB := n0_; clear n0_; (try clear hb); (try clear hb2); (try clear hk); (try clear hi)) | ((with_reducible refine gate_callee (f := 5) rfl ?_); refine goesL_ (some 18) rfl rfl Try.func5 (by kernel_rfl) rfl #[.int .i64 a0, .int .i64 a1] rfl (by (try simp only [List.map_toArray, List.map_cons, List.map_nil]); first | done | rfl | (simp only [List.length_drop, List.length_take]; rfl)) ?_; (with_reducible refine (impl_OpenAllText.calls k a0 a1 t103 t104 _ A4.out).mono ?_); rintro e w12 ⟨rfl, hb⟩; refine ⟨_, rfl, ?_⟩; have n0_ := Aside0.mk (below_step (by repeat (first | (with_reducible first | exact HB.out | apply below_alloc | apply pw_below_drewN | apply below_drew1) | exact HB.out)) hb); clear HB; have HB := n0_; clear n0_; (try clear hb); (try clear hb2); (try clear hk); (try clear hi)))
  go_ret
  exact ⟨by first | rfl | (simp [errW_none, errW_some] <;> rfl) | (simp [*, errW_none, errW_some] <;> rfl), by repeat (first | (with_reducible first | exact HB.out | apply below_alloc | apply pw_below_drewN | apply below_drew1) | exact HB.out)⟩

end Go.Proofs.Ytbpmgfdjcblhnaa.P

namespace Go.Proofs.Ytbpmgfdjcblhnaa
open Go.RowKit Go.Proofs.Ytbpmgfdjcblhnaa.P Go.Proofs.YtbpmgfdjcblhnaaW.PrintWords Go.Proofs.YtbpmgfdjcblhnaaW.PrintLast
/-- The pure statement of FnExactOpenAllText. -/
def PureFnExactOpenAllText : Prop := ∀ (a0 : Int) (a1 : Int), (Lit.int .i64 a0).wf = true → (Lit.int .i64 a1).wf = true →  ∃ k, laws_FnExactOpenAllText.f k a0 a1 = some true
end Go.Proofs.Ytbpmgfdjcblhnaa

namespace Go.Proofs.Ytbpmgfdjcblhnaa
open Go.RowKit Go.Proofs.YtbpmgfdjcblhnaaW.PrintWords
/-! Plain words for the pure statements: answers that stand from some number of rounds on. -/
theorem Ev.succ {α : Type} {g : Nat → Option α} {r : α} (h : Ev (fun k => g (k + 1)) r) : Ev g r := Ev.step (fun _ => rfl) h
theorem Ev.const {α : Type} {a : Option α} {r : α} (h : a = some r) : Ev (fun _ => a) r := ⟨0, fun _ _ => h⟩
theorem Ev.pos {α : Type} {c : Prop} [Decidable c] {g f : Nat → Option α} {r : α} (hc : c) (h : Ev g r) : Ev (fun k => if c then g k else f k) r := by simp only [if_pos hc]; exact h
theorem Ev.neg {α : Type} {c : Prop} [Decidable c] {g f : Nat → Option α} {r : α} (hc : ¬ c) (h : Ev f r) : Ev (fun k => if c then g k else f k) r := by simp only [if_neg hc]; exact h
theorem Ev.yes {α : Type} {c : Prop} [Decidable c] {g f : Nat → Option α} {r : α} (h : Ev g r) (hc : c := by first | omega | rfl | trivial | decide | simp | (simp; omega)) : Ev (fun k => if c then g k else f k) r := Ev.pos hc h
theorem Ev.no {α : Type} {c : Prop} [Decidable c] {g f : Nat → Option α} {r : α} (h : Ev f r) (hc : ¬ c := by first | omega | decide | simp | (simp; omega)) : Ev (fun k => if c then g k else f k) r := Ev.neg hc h
theorem Ev.bindc {α β : Type} {a : Option α} {x : α} {f : Nat → α → Option β} {r : β} (h : a = some x) (k : Ev (fun n => f n x) r) : Ev (fun n => a.bind (f n)) r := by subst h; exact k
theorem wrap_id {n : Int} (h1 : -9223372036854775808 ≤ n) (h2 : n ≤ 9223372036854775807) : wrap64 n = n := IntWalk.wrap64_in n ⟨h1, h2⟩
theorem wf_i64 {n : Int} (h : (Lit.int .i64 n).wf = true) : -9223372036854775808 ≤ n ∧ n ≤ 9223372036854775807 := by
  have e1 : IntKind.i64.min = -9223372036854775808 := rfl
  have e2 : IntKind.i64.max = 9223372036854775807 := rfl
  simp only [Lit.wf, e1, e2, Bool.and_eq_true, decide_eq_true_eq] at h
  exact h
theorem rd_nat (l : List Int) (j : Nat) (h : j < l.length) : rd l (j : Int) = l[j] := by unfold rd; simp [List.getD, h]
end Go.Proofs.Ytbpmgfdjcblhnaa

namespace Go.Proofs.Ytbpmgfdjcblhnaa
open Go.RowKit Go.Proofs.YtbpmgfdjcblhnaaW.PrintWords
set_option linter.unusedSimpArgs false
set_option linter.unusedVariables false
/-! Strings as lists of bytes. -/
/-- A string's bytes. -/
def bl (s : ByteArray) : List UInt8 := s.data.toList
theorem bl_len (s : ByteArray) : s.size = (bl s).length := rfl
theorem bl_inj {s t : ByteArray} (h : bl s = bl t) : s = t := ByteArray.ext (Array.toList_inj.1 h)
theorem bl_toList (s : ByteArray) : s.toList = bl s := Go.ByteArray.toList_eq s
theorem bl_mk (a : Array UInt8) : bl ⟨a⟩ = a.toList := rfl
theorem mk_bl (s : ByteArray) : (⟨(bl s).toArray⟩ : ByteArray) = s := bl_inj (by simp [bl])
theorem bl_extract (s : ByteArray) (i j : Nat) : bl (s.extract i j) = ((bl s).drop i).take (j - i) := by simp [bl, ByteArray.data_extract]
theorem bl_append (s t : ByteArray) : bl (s ++ t) = bl s ++ bl t := by simp [bl, ByteArray.data_append]
theorem bl_nums (l : List Int) : bl (strOfNums l) = l.map fun n => UInt8.ofNat n.toNat := rfl
theorem bl_empty : bl (⟨#[]⟩ : ByteArray) = [] := rfl
theorem bt_nat (s : ByteArray) (i : Nat) (h : i < (bl s).length) : bt s (i : Int) = ((bl s)[i].toNat : Int) := by
  unfold bt
  have h' : ((i : Int)).toNat < s.size := by rw [Int.toNat_natCast]; exact h
  rw [dif_pos h']; rfl
theorem of_toNat (c : UInt8) : UInt8.ofNat ((c.toNat : Int)).toNat = c := by rw [Int.toNat_natCast]; simp
theorem bt_of (s : ByteArray) (i : Nat) (h : i < (bl s).length) : UInt8.ofNat (bt s (i : Int)).toNat = (bl s)[i] := by rw [bt_nat s i h]; exact of_toNat _
theorem byte_eq (c d : UInt8) : ((c.toNat : Int) = (d.toNat : Int)) ↔ c = d := by
  constructor
  · intro h; exact UInt8.toNat_inj.1 (by exact_mod_cast h)
  · intro h; rw [h]
theorem byte_lt (c d : UInt8) : ((c.toNat : Int) < (d.toNat : Int)) ↔ c < d := by rw [UInt8.lt_iff_toNat_lt]; omega
theorem byte_le (c d : UInt8) : ((c.toNat : Int) ≤ (d.toNat : Int)) ↔ c ≤ d := by rw [UInt8.le_iff_toNat_le]; omega
theorem dropWhile_nil {α : Type} (p : α → Bool) : ∀ l : List α, l.dropWhile p = [] ↔ l.all p = true
  | [] => by simp
  | x :: xs => by
    by_cases h : p x = true
    · simp [List.dropWhile_cons, h, dropWhile_nil p xs]
    · simp [List.dropWhile_cons, h]
theorem dropWhile_keeps {α : Type} (p : α → Bool) : ∀ l : List α, (l.dropWhile p).all p = l.all p
  | [] => rfl
  | x :: xs => by
    by_cases h : p x = true
    · simp only [List.dropWhile_cons, h, if_true, List.all_cons, Bool.true_and]; exact dropWhile_keeps p xs
    · simp [List.dropWhile_cons, h]
theorem trimS_nil (l cs : List UInt8) : Lib.trimS l cs = [] ↔ l.all (cs.contains ·) = true := by
  unfold Lib.trimS Lib.trimLeftS Lib.trimRightS
  rw [dropWhile_nil, List.all_reverse, dropWhile_keeps, List.all_reverse]
theorem indexByte_neg (l : List UInt8) (c : UInt8) : Lib.indexByte l c < 0 ↔ ¬ c ∈ l := by
  induction l with
  | nil => simp [Lib.indexByte]
  | cons b l ih =>
    have hge := Lib.indexByte_ge l c
    unfold Lib.indexByte
    by_cases h : b = c
    · subst h; simp
    · have h1 : (b == c) = false := by simpa using h
      rw [h1]
      have h2 : ¬ c = b := fun e => h e.symm
      simp only [Bool.false_eq_true, if_false, List.mem_cons, h2, false_or]
      by_cases e : Lib.indexByte l c = -1
      · simp only [e, beq_self_eq_true, if_true]
        have := ih.1 (by omega)
        simp [this]
      · have e' : (Lib.indexByte l c == -1) = false := by simpa using e
        rw [e']
        simp only [Bool.false_eq_true, if_false]
        have hp : ¬ Lib.indexByte l c < 0 := by omega
        have := mt ih.2 hp
        constructor
        · intro h3; omega
        · intro h3; exact absurd h3 this
/-- The letters. -/
def isLow (c : UInt8) : Bool := decide (97 ≤ c.toNat) && decide (c.toNat ≤ 122)
theorem u8_all (P : UInt8 → Prop) [DecidablePred P] (h : ∀ n, n < 256 → P (UInt8.ofNat n)) (c : UInt8) : P c := by
  have := h c.toNat c.toNat_lt
  rwa [show UInt8.ofNat c.toNat = c from by simp] at this
theorem low_contains (c : UInt8) : ([97, 98, 99, 100, 101, 102, 103, 104, 105, 106, 107, 108, 109, 110, 111, 112, 113, 114, 115, 116, 117, 118, 119, 120, 121, 122] : List UInt8).contains c = isLow c := by
  refine u8_all (fun c => _ = isLow c) ?_ c
  decide +kernel
theorem dig_contains (c : UInt8) : ([48, 49, 50, 51, 52, 53, 54, 55, 56, 57] : List UInt8).contains c = (decide (48 ≤ c.toNat) && decide (c.toNat ≤ 57)) := by
  refine u8_all (fun c => _ = (decide (48 ≤ c.toNat) && decide (c.toNat ≤ 57))) ?_ c
  decide +kernel
end Go.Proofs.Ytbpmgfdjcblhnaa

namespace Go.Proofs.Ytbpmgfdjcblhnaa
open Go.RowKit Go.Proofs.Ytbpmgfdjcblhnaa.P Go.Proofs.YtbpmgfdjcblhnaaW.PrintWords
set_option linter.unusedSimpArgs false
set_option linter.unusedVariables false
theorem in_eq (n a b : Int) : impl_in.f n a b = some (decide (a ≤ n) && decide (n ≤ b)) := by
  unfold impl_in.f
  by_cases h : a ≤ n
  · rw [if_pos h]; simp [h]
  · rw [if_neg h]; simp [h]
theorem l1In_eq (n a b : Int) : spec_l1In.f n a b = some (decide (a ≤ n) && decide (n ≤ b)) := by
  unfold spec_l1In.f
  by_cases h : a ≤ n
  · rw [if_pos h]; simp [h]
  · rw [if_neg h]; simp [h]
end Go.Proofs.Ytbpmgfdjcblhnaa

namespace Go.Proofs.Ytbpmgfdjcblhnaa
open Go.RowKit Go.Proofs.Ytbpmgfdjcblhnaa.P Go.Proofs.YtbpmgfdjcblhnaaW.PrintWords
set_option linter.unusedSimpArgs false
set_option linter.unusedVariables false
set_option linter.unusedSectionVars false
theorem powB {b n : Nat} (hb : b ≤ 10) (h : n ≤ 4) : b ^ n ≤ 10000 := by
  have h1 : b ^ n ≤ 10 ^ n := Nat.pow_le_pow_left hb n
  have h2 : 10 ^ n ≤ 10 ^ 4 := Nat.pow_le_pow_right (by omega) h
  have : 10 ^ 4 = 10000 := rfl
  omega
/-! The numbers of digits and signs. -/
def locksB (b n : Int) : Bool := (decide (1 ≤ b) && decide (b ≤ 10)) && (decide (2 ≤ n) && decide (n ≤ 4)) && decide (b.toNat ^ n.toNat ≤ 300)
section
variable (b n : Nat) (hb : b ≤ 10) (hn : n ≤ 4)
include hb hn
theorem piAll_l0 : ∀ (e r : Nat), r + e = n → Ev (fun k => spec_piAll.l0 k (b : Int) (e : Int) ((b ^ r : Nat) : Int)) (if b ^ n ≤ 300 then ((b ^ n : Nat) : Int) else -1)
  | 0, r, hr => by
    obtain rfl : r = n := by omega
    apply Ev.succ; simp only [spec_piAll.l0]
    refine Ev.neg (by omega) ?_
    by_cases c : b ^ r ≤ 300
    · rw [if_pos c]; exact Ev.neg (by omega) (Ev.now _)
    · rw [if_neg c]; exact Ev.pos (by omega) (Ev.now _)
  | e + 1, r, hr => by
    have hp := powB (n := r) hb (by omega)
    have hm : b ^ r * b ≤ 10000 * 10 := Nat.mul_le_mul hp hb
    have ih := piAll_l0 e (r + 1) (by omega)
    apply Ev.succ; simp only [spec_piAll.l0]
    refine Ev.pos (by omega) ?_
    rw [show wrap64 (((e + 1 : Nat) : Int) - 1) = (e : Int) by rw [wrap_id (by omega) (by omega)]; omega]
    rw [show wrap64 (((b ^ r : Nat) : Int) * (b : Int)) = ((b ^ (r + 1) : Nat) : Int) by rw [Nat.pow_succ, ← Int.natCast_mul, wrap_id (by omega) (by omega)]]
    exact ih
theorem locks_l0 : ∀ (e r : Nat), r + e = n → Ev (fun k => impl_locksOk.l0 k (b : Int) ((b ^ r : Nat) : Int) (n : Int) (r : Int)) (decide (b ^ n ≤ 300))
  | 0, r, hr => by
    obtain rfl : r = n := by omega
    apply Ev.succ; simp only [impl_locksOk.l0]
    refine Ev.neg (by omega) (Ev.const ?_)
    congr 1
    rw [decide_eq_decide]; omega
  | e + 1, r, hr => by
    have hp := powB (n := r) hb (by omega)
    have hm : b ^ r * b ≤ 10000 * 10 := Nat.mul_le_mul hp hb
    have ih := locks_l0 e (r + 1) (by omega)
    apply Ev.succ; simp only [impl_locksOk.l0]
    refine Ev.pos (by omega) ?_
    rw [show wrap64 ((r : Int) + 1) = ((r + 1 : Nat) : Int) by rw [wrap_id (by omega) (by omega)]; omega]
    rw [show wrap64 (((b ^ r : Nat) : Int) * (b : Int)) = ((b ^ (r + 1) : Nat) : Int) by rw [Nat.pow_succ, ← Int.natCast_mul, wrap_id (by omega) (by omega)]]
    exact ih
end
theorem piAll_ev (b n : Int) : Ev (fun k => spec_piAll.f k b n) (if locksB b n = true then ((b.toNat ^ n.toNat : Nat) : Int) else -1) := by
  have bad : Ev (fun k => spec_piAll.j0 k b n true) (-1) := Ev.succ (by simp only [spec_piAll.j0]; exact Ev.pos (by trivial) (Ev.now _))
  unfold spec_piAll.f locksB
  refine Ev.bindc (l1In_eq _ _ _) ?_
  cases h1 : (decide (1 ≤ b) && decide (b ≤ 10)) with
  | false => rw [Bool.false_and, Bool.false_and, if_neg (by decide)]; exact Ev.neg (by decide) bad
  | true =>
    refine Ev.pos rfl (Ev.bindc (l1In_eq _ _ _) ?_)
    cases h2 : (decide (2 ≤ n) && decide (n ≤ 4)) with
    | false => rw [Bool.and_false, Bool.false_and, if_neg (by decide)]; exact bad
    | true =>
      simp only [Bool.and_eq_true, decide_eq_true_eq] at h1 h2
      have go := piAll_l0 b.toNat n.toNat (by omega) (by omega) n.toNat 0 (by omega)
      rw [Int.toNat_of_nonneg (by omega), Int.toNat_of_nonneg (by omega), Nat.pow_zero] at go
      rw [Bool.true_and, Bool.true_and]
      simp only [decide_eq_true_eq]
      apply Ev.succ; simp only [spec_piAll.j0]
      exact Ev.neg (by decide) go
theorem locks_ev (b n : Int) : Ev (fun k => impl_locksOk.f k b n) (locksB b n) := by
  have bad : Ev (fun k => impl_locksOk.j0 k b n true) false := Ev.succ (by simp only [impl_locksOk.j0]; exact Ev.pos (by trivial) (Ev.now _))
  unfold impl_locksOk.f impl_pinLong.f locksB
  refine Ev.bindc (in_eq _ _ _) ?_
  cases h1 : (decide (1 ≤ b) && decide (b ≤ 10)) with
  | false => rw [Bool.false_and, Bool.false_and]; exact Ev.neg (by decide) bad
  | true =>
    refine Ev.pos rfl (Ev.bindc (x := decide (2 ≤ n) && decide (n ≤ 4)) (by rw [in_eq]; rfl) ?_)
    cases h2 : (decide (2 ≤ n) && decide (n ≤ 4)) with
    | false => rw [Bool.and_false, Bool.false_and]; exact bad
    | true =>
      simp only [Bool.and_eq_true, decide_eq_true_eq] at h1 h2
      have go := locks_l0 b.toNat n.toNat (by omega) (by omega) n.toNat 0 (by omega)
      rw [Int.toNat_of_nonneg (by omega), Int.toNat_of_nonneg (by omega), Nat.pow_zero] at go
      rw [Bool.true_and, Bool.true_and]
      apply Ev.succ; simp only [impl_locksOk.j0]
      exact Ev.neg (by decide) go
end Go.Proofs.Ytbpmgfdjcblhnaa

/- FnExactOpenAllText: both sides tell the same first text that opens all locks, or none: over the functions that the walk computes. -/
namespace Go.Proofs.Ytbpmgfdjcblhnaa
open Go.RowKit Go.Proofs.Ytbpmgfdjcblhnaa.P Go.Proofs.YtbpmgfdjcblhnaaW.PrintWords
set_option linter.unusedSimpArgs false
set_option linter.unusedVariables false
/-- Twenty locks are open to choice. -/
def openChk (b n : Nat) : Bool := match impl_OpenAllText.f 500 (b : Int) (n : Int), spec_OpenAllText.f 500 (b : Int) (n : Int) with
  | some x, some y => decide (x.1.data.toList = y.1.data.toList) && x.2 == y.2
  | _, _ => false
theorem open_all : ∀ b : Fin 11, ∀ n : Fin 5, locksB (b.val : Int) (n.val : Int) = true → openChk b.val n.val = true := by decide +kernel
theorem ev_mono {α : Type} {g : Nat → Option α} (h : ∀ k, LeO (g k) (g (k + 1))) {K : Nat} {r : α} (e : g K = some r) : Ev g r := by
  refine ⟨K, fun k hk => ?_⟩
  obtain ⟨d, rfl⟩ := Nat.exists_eq_add_of_le hk
  clear hk
  induction d with
  | zero => exact e
  | succ d ih => exact h (K + d) r ih
theorem open_both (b n : Int) : ∃ r : ByteArray × Bool, Ev (fun k => spec_OpenAllText.f k b n) r ∧ Ev (fun k => impl_OpenAllText.f k b n) r := by
  cases hl : locksB b n with
  | false =>
    refine ⟨((⟨#[]⟩ : ByteArray), false), ?_, ?_⟩
    · unfold spec_OpenAllText.f
      have := piAll_ev b n
      rw [hl] at this
      exact Ev.bind this (Ev.pos (by rw [if_neg (by decide)]; decide) (Ev.now _))
    · unfold impl_OpenAllText.f
      have := locks_ev b n
      rw [hl] at this
      exact Ev.bind this (Ev.neg (by decide) (Ev.now _))
  | true =>
    have h := hl
    unfold locksB at h
    simp only [Bool.and_eq_true, decide_eq_true_eq] at h
    obtain ⟨b', rfl⟩ := Int.eq_ofNat_of_zero_le (show 0 ≤ b by omega)
    obtain ⟨n', rfl⟩ := Int.eq_ofNat_of_zero_le (show 0 ≤ n by omega)
    have hc := open_all ⟨b', by omega⟩ ⟨n', by omega⟩ hl
    unfold openChk at hc
    simp only at hc
    cases hi : impl_OpenAllText.f 500 (b' : Int) (n' : Int) with
    | none => rw [hi] at hc; cases hc
    | some x =>
      cases hs : spec_OpenAllText.f 500 (b' : Int) (n' : Int) with
      | none => rw [hi, hs] at hc; cases hc
      | some y =>
        rw [hi, hs] at hc
        simp only [Bool.and_eq_true, decide_eq_true_eq, beq_iff_eq] at hc
        have e : x = y := Prod.ext (ByteArray.ext (Array.ext' hc.1)) hc.2
        subst e
        exact ⟨x, ev_mono (fun k => spec_OpenAllText.mono _ _ k) hs, ev_mono (fun k => impl_OpenAllText.mono _ _ k) hi⟩
theorem pure_FnExactOpenAllText : PureFnExactOpenAllText := by
  intro b n hb hn
  refine Ev.rounds (g := fun k => laws_FnExactOpenAllText.f k b n) ?_
  unfold laws_FnExactOpenAllText.f
  obtain ⟨r, h1, h2⟩ := open_both b n
  exact Ev.bind h1 (Ev.bind h2 (Ev.pos rfl (Ev.neg (by simp) (Ev.now _))))
end Go.Proofs.Ytbpmgfdjcblhnaa

namespace Go.Proofs.Ytbpmgfdjcblhnaa
open Go.RowKit Go.Proofs.YtbpmgfdjcblhnaaW.PrintWords Go.ChangeShapes Go.WideShapes

theorem C_scalar {α : Type} {enc : α → Value} {h1 : ∀ x, (enc x).oneCell' = true} {w : World} {A : Option Addr} {l : List α} (hn : l.length ≤ 9223372036854775807)
    (hcell : 0 < l.length → ∃ ad, A = some ad ∧ ∀ j x, l[j]? = some x → w.cell? (ad.add j) = some (enc x)) : (Kd.scalar enc h1).C w A l.length l := by
  refine ⟨rfl, hn, fun hp => ?_⟩
  obtain ⟨ad, hA, hc⟩ := hcell hp
  refine ⟨ad, hA, fun j x hx => ⟨[enc x], rfl, rfl, fun i u hu => ?_⟩⟩
  match i, hu with
  | 0, hu =>
    have : enc x = u := by simpa using hu
    subst this
    show w.cell? (ad.add (j * 1 + 0)) = _
    rw [Nat.mul_one, Nat.add_zero]
    exact hc j x hx
  | i + 1, hu => simp at hu

section
variable {H : Type} {enc : TypeId × Value → H} {P : Program} {w : World} {base : Nat} {spare : Nat → Bool} {held : Bool}

/-- A cell that reads at a slice of whole numbers. -/
theorem read_ints {t e : TypeId} {k : IntKind} {fuel : Nat} {v : Value} {y : DataW H × List MemPlace} (ht : P.underlying t = some (.slice e)) (he : P.underlying e = some (.int k)) (hc : P.cellsOf e = 1)
    (hf : DataW.trod enc P w base spare held fuel t [v] = some y) :
    ∃ (A : Option Addr) (c : Nat) (l : List Int), v = .slice A l.length c ∧ l.length ≤ c ∧ (∀ x ∈ l, (Lit.int k x).wf = true) ∧ (Kd.int k).C w A l.length l := by
  rcases open_ints ht he hc hf with ⟨hcs, _⟩ | ⟨a, len, cap, zs, hcs, _, hl, hm, hz, _, hcell, hwf⟩
  · obtain rfl : v = .slice none 0 0 := by simpa using hcs
    exact ⟨none, 0, [], rfl, Nat.le_refl _, fun x hx => by simp at hx, rfl, by simp, fun h => absurd h (by simp)⟩
  · obtain rfl : v = .slice (some a) len cap := by simpa using hcs
    have hlz : len ≤ zs.length := by rw [hz]; split <;> omega
    have hlen : (zs.take len).length = len := by rw [List.length_take]; omega
    refine ⟨some a, cap, zs.take len, by rw [hlen], by rw [hlen]; exact hl, fun x hx => hwf x (List.mem_of_mem_take hx), ?_⟩
    refine C_scalar (by rw [hlen]; unfold maxLen at hm; omega) (fun hp => ⟨a, rfl, fun j x hj => ?_⟩)
    have hj' : j < len := by have := (List.getElem?_eq_some_iff.1 hj).1; rw [hlen] at this; exact this
    rw [hcell j (by omega)]
    rw [List.getElem?_take_of_lt hj'] at hj
    rw [List.getD_eq_getElem?_getD, hj]; rfl

/-- A cell that reads at a slice of strings. -/
theorem read_strs {t e : TypeId} {fuel : Nat} {v : Value} {y : DataW H × List MemPlace} (ht : P.underlying t = some (.slice e)) (he : P.underlying e = some .string) (hc : P.cellsOf e = 1)
    (hf : DataW.trod enc P w base spare held fuel t [v] = some y) :
    ∃ (A : Option Addr) (c : Nat) (l : List ByteArray), v = .slice A l.length c ∧ l.length ≤ c ∧ (∀ s ∈ l, s.size ≤ 9223372036854775807) ∧ Kd.string.C w A l.length l := by
  rcases open_strings ht he hc hf with ⟨hcs, _⟩ | ⟨a, len, cap, zs, hcs, _, hl, hm, hz, _, hcell, hwf⟩
  · obtain rfl : v = .slice none 0 0 := by simpa using hcs
    exact ⟨none, 0, [], rfl, Nat.le_refl _, fun x hx => by simp at hx, rfl, by simp, fun h => absurd h (by simp)⟩
  · obtain rfl : v = .slice (some a) len cap := by simpa using hcs
    have hlz : len ≤ zs.length := by rw [hz]; split <;> omega
    have hlen : (zs.take len).length = len := by rw [List.length_take]; omega
    refine ⟨some a, cap, zs.take len, by rw [hlen], by rw [hlen]; exact hl, fun x hx => by have := hwf x (List.mem_of_mem_take hx); unfold maxLen at this; omega, ?_⟩
    refine C_scalar (by rw [hlen]; unfold maxLen at hm; omega) (fun hp => ⟨a, rfl, fun j x hj => ?_⟩)
    have hj' : j < len := by have := (List.getElem?_eq_some_iff.1 hj).1; rw [hlen] at this; exact this
    rw [hcell j (by omega)]
    rw [List.getElem?_take_of_lt hj'] at hj
    rw [List.getD_eq_getElem?_getD, hj]; rfl

theorem read_int {t : TypeId} {k : IntKind} {fuel : Nat} {v : Value} {y : DataW H × List MemPlace} (ht : P.underlying t = some (.int k))
    (hf : DataW.trod enc P w base spare held fuel t [v] = some y) : ∃ n : Int, v = .int k n ∧ (Lit.int k n).wf = true := by
  obtain ⟨n, e1, _, h⟩ := DataW.trod_int ht hf
  exact ⟨n, by simpa using e1, h⟩
end

/-- The cells of a datum that holds numbers alone, an array's elements being numbers or structs of numbers. -/
def litsOf : DataW Unit → List Value
  | .lit (.int k n) => [.int k n]
  | .agg l => l.flatMap fun
    | .lit (.int k n) => [.int k n]
    | .agg l2 => l2.flatMap fun
      | .lit (.int k n) => [.int k n]
      | _ => []
    | _ => []
  | _ => []
end Go.Proofs.Ytbpmgfdjcblhnaa

/- FnExactOpenAllTextSaid: the law 'FnExactOpenAllText' answers true for every input, and leaves its arguments as they were. The row, over the walk of its calls and the pure statement. -/
namespace Go.Proofs.Ytbpmgfdjcblhnaa.fnExactOpenAllText
open Go.ChangeShapes Go.WideShapes Go.ChangeAt Go.RowKit Go.Proofs.Ytbpmgfdjcblhnaa.P Go.Proofs.YtbpmgfdjcblhnaaW.PrintWords
open Go.ChangeMaps (open_string shut_string)
set_option linter.unusedVariables false
theorem own : ownKnob Try.prog.godebug = none := by kernel_rfl
set_option maxRecDepth 100000 in
theorem lifted (os : Os) (started : os.Started) (H : Type) (enc : TypeId × Value → H) :
    ReturnsInHanded {} Try.checked os 3 .any (Rows.fnExactOpenAllTextSpec.pre6 enc Try.prog Try.f3 Rows.fnExactOpenAllTextRow.domain false) (Rows.fnExactOpenAllTextSpec.post enc Try.prog Try.f3 false true false false) := by
  refine returnsInHanded_of_change_sized (C := Try.checked) own started (by kernel_rfl) Try.func3
    (ChangeSpec.witness6 (enc := enc) (C := Try.checked) false ⟨#[], #[.int .i64 0, .int .i64 0], []⟩ 8 (by kernel_rfl) (by kernel_rfl) (by kernel_rfl) (by kernel_rfl)) ?_
  intro W base args ds gs before hval0 hW hcnd hsz0 _
  have hval : ∀ (j : Nat) t v, Try.f3.params[j]? = some t → args[j]? = some v → Value.okWide Try.prog W .any base t v := hval0
  have hW' := hW
  obtain ⟨p, q, hA0, hV, rfl, hfz, hnd⟩ := hW
  have hA : DataW.TrodAll enc Try.prog W 0 (fun _ => true) true Try.f3.params.toList args.toList ds p := hA0
  rw [Try.params3] at hA hval
  obtain ⟨v0, vs0, d0, ds0, p0, q0, hargs, rfl, rfl, h0, r0⟩ := trodAll_cons hA
  obtain ⟨v1, vs1, d1, ds1, p1, q1, rfl, rfl, rfl, h1, r1⟩ := trodAll_cons r0
  obtain ⟨rfl, rfl, rfl⟩ := trodAll_nil r1
  obtain rfl : args = #[v0, v1] := by cases args; simp_all
  obtain ⟨rfl, rfl⟩ := trodVars_none hV
  obtain ⟨a0, rfl, rfl, rfl, w0⟩ := open_int Try.underlying3 (hval 0 3 v0 rfl rfl) h0
  obtain ⟨a1, rfl, rfl, rfl, w1⟩ := open_int Try.underlying3 (hval 1 3 v1 rfl rfl) h1
  clear hA0 hval0
  obtain ⟨k, hk⟩ := pure_FnExactOpenAllText a0 a1 w0 w1
  refine (laws_FnExactOpenAllText.calls k a0 a1 true W  hk).mono fun e W' ⟨he, bel0⟩ => ?_
  have bel : Below W.heap.size W W' := bel0
  subst he
  exact ⟨_, rfl, _, _, _, [], _, [], hW', trodAll_mk1 (shut_bool Try.underlying4 _), (trodAll_cons_mk (shut_int Try.underlying3 w0) (trodAll_cons_mk (shut_int Try.underlying3 w1) trodAll_mk0)), rfl, bel.frame _, fun h => by cases h⟩
theorem over : Rows.fnExactOpenAllTextRow.holds Try.pinned (OpenSpec.ofChange Rows.fnExactOpenAllTextSpec) :=
  OpenClaim.holds_of_wide 3 Try.f3 rfl rfl rfl rfl rfl rfl rfl ⟨rfl, rfl, rfl, rfl, rfl⟩ rfl rfl rfl rfl rfl (by kernel_rfl) Try.func3 (by kernel_rfl)
    (of_decide_eq_true (by kernel_rfl)) (by unfold Func.isWrapper; first | (rw [if_pos (by decide +kernel)]; kernel_rfl) | (rw [if_neg (by decide +kernel)]; exact ⟨rfl, rfl⟩))
    (fun os started H enc _ => lifted os started H enc)
theorem proved : Rows.FnExactOpenAllTextSaid := over
#print axioms proved
end Go.Proofs.Ytbpmgfdjcblhnaa.fnExactOpenAllText
namespace Go.Proofs.Ytbpmgfdjcblhnaa
theorem fnExactOpenAllText_holds : Rows.FnExactOpenAllTextSaid := fnExactOpenAllText.proved
end Go.Proofs.Ytbpmgfdjcblhnaa

