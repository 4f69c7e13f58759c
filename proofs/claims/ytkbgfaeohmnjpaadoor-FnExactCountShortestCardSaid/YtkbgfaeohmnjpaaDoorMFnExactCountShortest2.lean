/- Part 2 of 4 of the proof of: FnExactCountShortestCardSaid: the law 'FnExactCountShortest' answers true for every input, and leaves its arguments as they were. The row and its tied card, over the walk of its calls and the pure statement. -/
import Derived.Test.YtkbgfaeohmnjpaaDoorMFnExactCountShortest1
import Derived.Shelf.Abstract
import Derived.Laws.CopyOwn
import Derived.Deep.DeepMust
-- printed by xprint.py
namespace Go.Proofs.YtkbgfaeohmnjpaaDoor.P
open Go.RowKit Go.Proofs.YtkbgfaeohmnjpaaDoorW.PrintWords Go.Proofs.YtkbgfaeohmnjpaaDoorW.PrintLast Go.Proofs.YtkbgfaeohmnjpaaDoorW.PrintMore
attribute [local go_sem] max2_int min2_int max_two min_two max_three min_three max_four min_four   -- for this text's walks alone
set_option linter.unusedVariables false
set_option linter.unusedSimpArgs false

/-! ### impl_CountBetween: function 42 -/
mutual
def impl_CountBetween.j0 : Nat → ByteArray → ByteArray → ByteArray → Int → Bool → Option (Int × Bool)
 | 0, _, _, _, _, _ => none
 | k + 1, x0, x1, x2, x3, x29 => if x29 = true then (some (0, false)) else (if 0 < (x2.size : Int) then ((impl_digit.f (bt x2 0)).bind fun t105 => ((impl_only.f t105).bind fun t106 => ((impl_moves.f k x0).bind fun t109 => (impl_CountBetween.l0 k x1 t106 t109 x3 0)))) else (none))
def impl_CountBetween.l0 : Nat → ByteArray → List Int → List (List Int) → Int → Int → Option (Int × Bool)
 | 0, _, _, _, _, _ => none
 | k + 1, x1, x10, x11, x36, x37 => if x37 < x36 then ((impl_stepped.f k x11 x10).bind fun t112 => (impl_CountBetween.l0 k x1 t112 x11 x36 (wrap64 (x37 + 1)))) else (if 0 < (x1.size : Int) then ((impl_digit.f (bt x1 0)).bind fun t115 => (if 0 ≤ t115 then (if t115 < (x10.length : Int) then ((impl_few.f (rd x10 t115)).bind fun bt117 => (some (bt117.1, bt117.2))) else (none)) else (none))) else (none))
end
def impl_CountBetween.f (k : Nat) (a0 : ByteArray) (a1 : ByteArray) (a2 : ByteArray) (a3 : Int) : Option (Int × Bool) := (impl_isPiece.f a0).bind fun t101 => (if t101 = true then ((impl_isDigit.f a1).bind fun t102 => (if t102 = true then ((impl_isDigit.f a2).bind fun t103 => (if t103 = true then ((impl_in.f a3 0 39).bind fun t104 => (impl_CountBetween.j0 k a0 a1 a2 a3 (!t104))) else (impl_CountBetween.j0 k a0 a1 a2 a3 true))) else (impl_CountBetween.j0 k a0 a1 a2 a3 true))) else (impl_CountBetween.j0 k a0 a1 a2 a3 true))
theorem impl_CountBetween.mono_l : ∀ k, (∀ y0 y1 y2 y3 y4, LeO (impl_CountBetween.j0 k y0 y1 y2 y3 y4) (impl_CountBetween.j0 (k + 1) y0 y1 y2 y3 y4)) ∧ (∀ y0 y1 y2 y3 y4, LeO (impl_CountBetween.l0 k y0 y1 y2 y3 y4) (impl_CountBetween.l0 (k + 1) y0 y1 y2 y3 y4))
 | 0 => ⟨fun _ _ _ _ _ r h => by simp [impl_CountBetween.j0] at h, fun _ _ _ _ _ r h => by simp [impl_CountBetween.l0] at h⟩
 | k + 1 => by
  obtain ⟨ih0, ih1⟩ := impl_CountBetween.mono_l k
  refine ⟨?_, ?_⟩
  ·
   intro y0 y1 y2 y3 y4
   unfold impl_CountBetween.j0
   repeat' first
   | (with_reducible exact ih0 _ _ _ _ _)
   | (with_reducible exact ih1 _ _ _ _ _)
   | (with_reducible exact impl_moves.mono _ _)
   | (with_reducible exact impl_stepped.mono _ _ _)
   | (with_reducible exact LeO.refl _)
   | (with_reducible exact LeO.none _)
   | (with_reducible refine LeO.ite ?_ ?_)
   | (with_reducible refine LeO.bind ?_ (fun _ => ?_))
   | exact ih0 _ _ _ _ _
   | exact ih1 _ _ _ _ _
   | exact impl_moves.mono _ _
   | exact impl_stepped.mono _ _ _
   | exact LeO.none _
   | refine LeO.ite ?_ ?_
   | refine LeO.bind ?_ (fun _ => ?_)
  ·
   intro y0 y1 y2 y3 y4
   unfold impl_CountBetween.l0
   repeat' first
   | (with_reducible exact ih0 _ _ _ _ _)
   | (with_reducible exact ih1 _ _ _ _ _)
   | (with_reducible exact impl_moves.mono _ _)
   | (with_reducible exact impl_stepped.mono _ _ _)
   | (with_reducible exact LeO.refl _)
   | (with_reducible exact LeO.none _)
   | (with_reducible refine LeO.ite ?_ ?_)
   | (with_reducible refine LeO.bind ?_ (fun _ => ?_))
   | exact ih0 _ _ _ _ _
   | exact ih1 _ _ _ _ _
   | exact impl_moves.mono _ _
   | exact impl_stepped.mono _ _ _
   | exact LeO.none _
   | refine LeO.ite ?_ ?_
   | refine LeO.bind ?_ (fun _ => ?_)
theorem impl_CountBetween.mono : ∀ a0 a1 a2 a3 k, LeO (impl_CountBetween.f k a0 a1 a2 a3) (impl_CountBetween.f (k + 1) a0 a1 a2 a3) := by
 intro a0 a1 a2 a3 k
 obtain ⟨ih0, ih1⟩ := impl_CountBetween.mono_l k
 unfold impl_CountBetween.f
 repeat' first
   | (with_reducible exact ih0 _ _ _ _ _)
   | (with_reducible exact ih1 _ _ _ _ _)
   | (with_reducible exact impl_moves.mono _ _)
   | (with_reducible exact impl_stepped.mono _ _ _)
   | (with_reducible exact LeO.refl _)
   | (with_reducible exact LeO.none _)
   | (with_reducible refine LeO.ite ?_ ?_)
   | (with_reducible refine LeO.bind ?_ (fun _ => ?_))
   | exact ih0 _ _ _ _ _
   | exact ih1 _ _ _ _ _
   | exact impl_moves.mono _ _
   | exact impl_stepped.mono _ _ _
   | exact LeO.none _
   | refine LeO.ite ?_ ?_
   | refine LeO.bind ?_ (fun _ => ?_)
set_option maxHeartbeats 8000000 in
set_option maxRecDepth 100000 in
theorem impl_CountBetween.calls (k : Nat) (a0 : ByteArray) (a1 : ByteArray) (a2 : ByteArray) (a3 : Int) (r1 : Int) (r2 : Bool) (w : World) (h : impl_CountBetween.f k a0 a1 a2 a3 = some (r1, r2)) :
  Calls Tryd.prog 42 #[.string a0, .string a1, .string a2, .int .i64 a3] w fun e w' => e = .returned (.tuple #[.int .i64 r1, .bool r2]) ∧ Below w.heap.size w w' := by
 have HB := Aside0.mk (Below.refl w.heap.size w)
 have H : ((impl_isPiece.f a0).bind fun t101 => (if t101 = true then ((impl_isDigit.f a1).bind fun t102 => (if t102 = true then ((impl_isDigit.f a2).bind fun t103 => (if t103 = true then ((impl_in.f a3 0 39).bind fun t104 => (impl_CountBetween.j0 k a0 a1 a2 a3 (!t104))) else (impl_CountBetween.j0 k a0 a1 a2 a3 true))) else (impl_CountBetween.j0 k a0 a1 a2 a3 true))) else (impl_CountBetween.j0 k a0 a1 a2 a3 true))) = some (r1, r2) := h
 clear h
 have HC5 := Aside0.mk H
 clear H
 go_enter Tryd.func42, Tryd.ntmps42
 go_upto_region 1 with (fail)
 go_cut [29] (fun v29 wc => ∃ (kq : Nat) (x29_4 : Bool), v29 = .bool x29_4 ∧ Aside0 (impl_CountBetween.j0 kq a0 a1 a2 a3 x29_4 = some (r1, r2)) ∧ Aside0 (kq ≤ k) ∧ Aside0 (Below w.heap.size w wc))
 case first =>
  have H := HC5.out
  clear HC5
  replace H := Option.bind_eq_some_iff.mp H
  obtain ⟨t101, A60, H⟩ := H
  replace H : (if t101 = true then ((impl_isDigit.f a1).bind fun t102 => (if t102 = true then ((impl_isDigit.f a2).bind fun t103 => (if t103 = true then ((impl_in.f a3 0 39).bind fun t104 => (impl_CountBetween.j0 k a0 a1 a2 a3 (!t104))) else (impl_CountBetween.j0 k a0 a1 a2 a3 true))) else (impl_CountBetween.j0 k a0 a1 a2 a3 true))) else (impl_CountBetween.j0 k a0 a1 a2 a3 true)) = some (r1, r2) := H
  have A6 := Aside0.mk A60
  clear A60
  by_cases c7 : t101 = true
  ·
   subst c7
   have H1 : ((impl_isDigit.f a1).bind fun t102 => (if t102 = true then ((impl_isDigit.f a2).bind fun t103 => (if t103 = true then ((impl_in.f a3 0 39).bind fun t104 => (impl_CountBetween.j0 k a0 a1 a2 a3 (!t104))) else (impl_CountBetween.j0 k a0 a1 a2 a3 true))) else (impl_CountBetween.j0 k a0 a1 a2 a3 true))) = some (r1, r2) := by rw [if_pos rfl] at H; exact H
   clear H
   have H := H1
   clear H1
   replace H := Option.bind_eq_some_iff.mp H
   obtain ⟨t102, A80, H⟩ := H
   replace H : (if t102 = true then ((impl_isDigit.f a2).bind fun t103 => (if t103 = true then ((impl_in.f a3 0 39).bind fun t104 => (impl_CountBetween.j0 k a0 a1 a2 a3 (!t104))) else (impl_CountBetween.j0 k a0 a1 a2 a3 true))) else (impl_CountBetween.j0 k a0 a1 a2 a3 true)) = some (r1, r2) := H
   have A8 := Aside0.mk A80
   clear A80
   by_cases c9 : t102 = true
   ·
    subst c9
    have H1 : ((impl_isDigit.f a2).bind fun t103 => (if t103 = true then ((impl_in.f a3 0 39).bind fun t104 => (impl_CountBetween.j0 k a0 a1 a2 a3 (!t104))) else (impl_CountBetween.j0 k a0 a1 a2 a3 true))) = some (r1, r2) := by rw [if_pos rfl] at H; exact H
    clear H
    have H := H1
    clear H1
    replace H := Option.bind_eq_some_iff.mp H
    obtain ⟨t103, A100, H⟩ := H
    replace H : (if t103 = true then ((impl_in.f a3 0 39).bind fun t104 => (impl_CountBetween.j0 k a0 a1 a2 a3 (!t104))) else (impl_CountBetween.j0 k a0 a1 a2 a3 true)) = some (r1, r2) := H
    have A10 := Aside0.mk A100
    clear A100
    by_cases c11 : t103 = true
    ·
     subst c11
     have H1 : ((impl_in.f a3 0 39).bind fun t104 => (impl_CountBetween.j0 k a0 a1 a2 a3 (!t104))) = some (r1, r2) := by rw [if_pos rfl] at H; exact H
     clear H
     have H := H1
     clear H1
     replace H := Option.bind_eq_some_iff.mp H
     obtain ⟨t104, A120, H⟩ := H
     replace H : (impl_CountBetween.j0 k a0 a1 a2 a3 (!t104)) = some (r1, r2) := H
     have A12 := Aside0.mk A120
     clear A120
     have H' := Aside0.mk H
     clear H
     go_wp2_with (first | ((with_reducible refine gate_callee (f := 32) rfl ?_); refine goesL_ (some 13) rfl rfl Tryd.func32 (by kernel_rfl) rfl #[.string a0] rfl (by (try simp only [List.map_toArray, List.map_cons, List.map_nil]); first | done | rfl | (simp only [List.length_drop, List.length_take]; rfl)) ?_; (with_reducible refine (impl_isPiece.calls a0 true _ A6.out).mono ?_); rintro e w' ⟨rfl, ⟨nd, rfl⟩⟩; refine ⟨_, rfl, ?_⟩) | (go_at_call 33; (with_reducible refine (impl_isDigit.calls a1 true _ A8.out).mono ?_); rintro e w13 ⟨rfl, hb⟩; have n0_ := Aside0.mk (below_step (by repeat (first | (with_reducible first | exact HB.out | apply below_alloc | apply pw_below_drewN | apply below_drew1) | exact HB.out)) hb); clear HB; have HB := n0_; clear n0_; (try clear hb); (try clear hb2); (try clear hk); (try clear hi)) | (go_at_call 33; (with_reducible refine (impl_isDigit.calls a2 true _ A10.out).mono ?_); rintro e w14 ⟨rfl, hb⟩; have n0_ := Aside0.mk (below_step (by repeat (first | (with_reducible first | exact HB.out | apply below_alloc | apply pw_below_drewN | apply below_drew1) | exact HB.out)) hb); clear HB; have HB := n0_; clear n0_; (try clear hb); (try clear hb2); (try clear hk); (try clear hi)) | (go_at_call 45; (with_reducible refine (impl_in.calls a3 0 39 t104 _ A12.out).mono ?_); rintro e w' ⟨rfl, ⟨nd, rfl⟩⟩))
     go_meet
     case rel => exact ⟨_, (!t104), (by first | rfl | (simp; done) | (simp [*]; done)), H', ⟨by first | omega | exact Nat.le_refl _⟩, ⟨by repeat (first | (with_reducible first | exact HB.out | apply below_alloc | apply pw_below_drewN | apply below_drew1) | exact HB.out)⟩⟩
    ·
     replace c11 := Bool.eq_false_iff.mpr c11
     subst c11
     have H1 : (impl_CountBetween.j0 k a0 a1 a2 a3 true) = some (r1, r2) := by rw [if_neg (show ¬ (false = true) by decide)] at H; exact H
     clear H
     have H := H1
     clear H1
     have H' := Aside0.mk H
     clear H
     go_wp2_with (first | ((with_reducible refine gate_callee (f := 32) rfl ?_); refine goesL_ (some 13) rfl rfl Tryd.func32 (by kernel_rfl) rfl #[.string a0] rfl (by (try simp only [List.map_toArray, List.map_cons, List.map_nil]); first | done | rfl | (simp only [List.length_drop, List.length_take]; rfl)) ?_; (with_reducible refine (impl_isPiece.calls a0 true _ A6.out).mono ?_); rintro e w' ⟨rfl, ⟨nd, rfl⟩⟩; refine ⟨_, rfl, ?_⟩) | (go_at_call 33; (with_reducible refine (impl_isDigit.calls a1 true _ A8.out).mono ?_); rintro e w15 ⟨rfl, hb⟩; have n0_ := Aside0.mk (below_step (by repeat (first | (with_reducible first | exact HB.out | apply below_alloc | apply pw_below_drewN | apply below_drew1) | exact HB.out)) hb); clear HB; have HB := n0_; clear n0_; (try clear hb); (try clear hb2); (try clear hk); (try clear hi)) | (go_at_call 33; (with_reducible refine (impl_isDigit.calls a2 false _ A10.out).mono ?_); rintro e w16 ⟨rfl, hb⟩; have n0_ := Aside0.mk (below_step (by repeat (first | (with_reducible first | exact HB.out | apply below_alloc | apply pw_below_drewN | apply below_drew1) | exact HB.out)) hb); clear HB; have HB := n0_; clear n0_; (try clear hb); (try clear hb2); (try clear hk); (try clear hi)))
     go_meet
     case rel => exact ⟨_, (true), (by first | rfl | (simp; done) | (simp [*]; done)), H', ⟨by first | omega | exact Nat.le_refl _⟩, ⟨by repeat (first | (with_reducible first | exact HB.out | apply below_alloc | apply pw_below_drewN | apply below_drew1) | exact HB.out)⟩⟩
   ·
    replace c9 := Bool.eq_false_iff.mpr c9
    subst c9
    have H1 : (impl_CountBetween.j0 k a0 a1 a2 a3 true) = some (r1, r2) := by rw [if_neg (show ¬ (false = true) by decide)] at H; exact H
    clear H
    have H := H1
    clear H1
    have H' := Aside0.mk H
    clear H
    go_wp2_with (first | ((with_reducible refine gate_callee (f := 32) rfl ?_); refine goesL_ (some 13) rfl rfl Tryd.func32 (by kernel_rfl) rfl #[.string a0] rfl (by (try simp only [List.map_toArray, List.map_cons, List.map_nil]); first | done | rfl | (simp only [List.length_drop, List.length_take]; rfl)) ?_; (with_reducible refine (impl_isPiece.calls a0 true _ A6.out).mono ?_); rintro e w' ⟨rfl, ⟨nd, rfl⟩⟩; refine ⟨_, rfl, ?_⟩) | (go_at_call 33; (with_reducible refine (impl_isDigit.calls a1 false _ A8.out).mono ?_); rintro e w17 ⟨rfl, hb⟩; have n0_ := Aside0.mk (below_step (by repeat (first | (with_reducible first | exact HB.out | apply below_alloc | apply pw_below_drewN | apply below_drew1) | exact HB.out)) hb); clear HB; have HB := n0_; clear n0_; (try clear hb); (try clear hb2); (try clear hk); (try clear hi)))
    go_meet
    case rel => exact ⟨_, (true), (by first | rfl | (simp; done) | (simp [*]; done)), H', ⟨by first | omega | exact Nat.le_refl _⟩, ⟨by repeat (first | (with_reducible first | exact HB.out | apply below_alloc | apply pw_below_drewN | apply below_drew1) | exact HB.out)⟩⟩
  ·
   replace c7 := Bool.eq_false_iff.mpr c7
   subst c7
   have H1 : (impl_CountBetween.j0 k a0 a1 a2 a3 true) = some (r1, r2) := by rw [if_neg (show ¬ (false = true) by decide)] at H; exact H
   clear H
   have H := H1
   clear H1
   have H' := Aside0.mk H
   clear H
   go_wp2_with (first | ((with_reducible refine gate_callee (f := 32) rfl ?_); refine goesL_ (some 13) rfl rfl Tryd.func32 (by kernel_rfl) rfl #[.string a0] rfl (by (try simp only [List.map_toArray, List.map_cons, List.map_nil]); first | done | rfl | (simp only [List.length_drop, List.length_take]; rfl)) ?_; (with_reducible refine (impl_isPiece.calls a0 false _ A6.out).mono ?_); rintro e w' ⟨rfl, ⟨nd, rfl⟩⟩; refine ⟨_, rfl, ?_⟩))
   go_meet
   case rel => exact ⟨_, (true), (by first | rfl | (simp; done) | (simp [*]; done)), H', ⟨by first | omega | exact Nat.le_refl _⟩, ⟨by repeat (first | (with_reducible first | exact HB.out | apply below_alloc | apply pw_below_drewN | apply below_drew1) | exact HB.out)⟩⟩
 case rest =>
  clear HC5
  try clear c1
  try clear p2
  try clear c3
  try clear c4
  try clear c7
  try clear c9
  try clear c11
  obtain ⟨kq, x29_4, rfl, HA, HJ4, HB⟩ := hcut
  cases kq with
  | zero => exact absurd HA.out (by simp [impl_CountBetween.j0])
  | succ kj4 =>
   have H := HA.out
   clear HA
   simp only [impl_CountBetween.j0] at H
   by_cases c18 : x29_4 = true
   ·
    subst c18
    have H1 : (some (0, false)) = some (r1, r2) := by rw [if_pos rfl] at H; exact H
    clear H
    have H := H1
    clear H1
    simp only [Option.some.injEq, Prod.mk.injEq] at H
    obtain ⟨rfl, rfl⟩ := H
    go_wp2
    go_ret2
    exact ⟨by first | rfl | (simp [errW_none, errW_some] <;> rfl) | (simp [*, errW_none, errW_some] <;> rfl), by repeat (first | (with_reducible first | exact HB.out | apply below_alloc | apply pw_below_drewN | apply below_drew1) | exact HB.out)⟩
   ·
    replace c18 := Bool.eq_false_iff.mpr c18
    subst c18
    have H1 : (if 0 < (a2.size : Int) then ((impl_digit.f (bt a2 0)).bind fun t105 => ((impl_only.f t105).bind fun t106 => ((impl_moves.f kj4 a0).bind fun t109 => (impl_CountBetween.l0 kj4 a1 t106 t109 a3 0)))) else (none)) = some (r1, r2) := by rw [if_neg (show ¬ (false = true) by decide)] at H; exact H
    clear H
    have H := H1
    clear H1
    by_cases c19 : 0 < (a2.size : Int)
    ·
     rw [if_pos c19] at H
     have c19b0 : decide (0 < (a2.size : Int)) = true := decide_eq_true c19
     have c19b1 : decide (0 < a2.size) = true := decide_eq_true (by omega)
     clear c19
     replace H := Option.bind_eq_some_iff.mp H
     obtain ⟨t105, A210, H⟩ := H
     replace H : ((impl_only.f t105).bind fun t106 => ((impl_moves.f kj4 a0).bind fun t109 => (impl_CountBetween.l0 kj4 a1 t106 t109 a3 0))) = some (r1, r2) := H
     have A21 := Aside0.mk A210
     clear A210
     replace H := Option.bind_eq_some_iff.mp H
     obtain ⟨t106, A220, H⟩ := H
     replace H : ((impl_moves.f kj4 a0).bind fun t109 => (impl_CountBetween.l0 kj4 a1 t106 t109 a3 0)) = some (r1, r2) := H
     have A22 := Aside0.mk A220
     clear A220
     replace H := Option.bind_eq_some_iff.mp H
     obtain ⟨t109, A230, H⟩ := H
     replace H : (impl_CountBetween.l0 kj4 a1 t106 t109 a3 0) = some (r1, r2) := H
     have A23 := Aside0.mk A230
     clear A230
     have H' := Aside0.mk H
     clear H
     have p20 : 0 ≤ (0 : Int) := (by omega)
     have q20 : 0 < a2.size := (by have : (0 : Int) < (a2.size : Int) := of_decide_eq_true (by first | (with_reducible assumption) | assumption); omega)
     have hx20 : ∀ h : 0 < a2.size, ((a2[0]'h).toNat : Int) = bt a2 0 := bt_at a2 0
     clear p20
     have qi20 : (0 < (a2.size : Int)) = True := eq_true (of_decide_eq_true (by first | (with_reducible assumption) | assumption))
     replace q20 := eq_true q20
     go_wp2_with (first | ((with_reducible refine gate_callee (f := 35) rfl ?_); refine goesL_ (some 32) rfl rfl Tryd.func35 (by kernel_rfl) rfl #[.int .u8 (bt a2 0)] rfl (by (try simp only [List.map_toArray, List.map_cons, List.map_nil]); first | done | rfl | (simp only [List.length_drop, List.length_take]; rfl)) ?_; (with_reducible refine (impl_digit.calls (bt a2 0) t105 _ A21.out).mono ?_); rintro e w' ⟨rfl, ⟨nd, rfl⟩⟩; refine ⟨_, rfl, ?_⟩) | ((with_reducible refine gate_callee (f := 64) rfl ?_); refine goesL_ (some 33) rfl rfl Tryd.func64 (by kernel_rfl) rfl #[.int .i64 t105] rfl (by (try simp only [List.map_toArray, List.map_cons, List.map_nil]); first | done | rfl | (simp only [List.length_drop, List.length_take]; rfl)) ?_; (with_reducible refine (impl_only.calls t105 t106 _ A22.out).mono ?_); rintro e w24 ⟨v107, rfl, ho0, hb⟩; refine ⟨_, rfl, ?_⟩; have n0_ := Aside0.mk (Kd.R_lower ho0 (below_size (by repeat (first | (with_reducible first | exact HB.out | apply below_alloc | apply pw_below_drewN | apply below_drew1) | exact HB.out)))); have n1_ := Aside0.mk (below_step (by repeat (first | (with_reducible first | exact HB.out | apply below_alloc | apply pw_below_drewN | apply below_drew1) | exact HB.out)) hb); clear HB; have HO108 := n0_; have HB := n1_; clear n0_ n1_; (try clear hb); (try clear hb2); (try clear hk); (try clear hi); (try clear ho0)) | ((with_reducible refine gate_callee (f := 47) rfl ?_); refine goesL_ (some 35) rfl rfl Tryd.func47 (by kernel_rfl) rfl #[.string a0] rfl (by (try simp only [List.map_toArray, List.map_cons, List.map_nil]); first | done | rfl | (simp only [List.length_drop, List.length_take]; rfl)) ?_; (with_reducible refine (impl_moves.calls kj4 a0 t109 _ A23.out).mono ?_); rintro e w25 ⟨v110, rfl, ho0, hb⟩; refine ⟨_, rfl, ?_⟩; have n0_ := Aside0.mk (Kd.R_below (by (with_reducible repeat (first | apply Kd.R_alloc | apply Kd.R_drewN | apply Kd.R_drew)); exact HO108.out) hb); have n1_ := Aside0.mk (Kd.S_lower (Kd.S_new' ho0 (Kd.R_lt (by (with_reducible repeat (first | apply Kd.R_alloc | apply Kd.R_drewN | apply Kd.R_drew)); exact HO108.out))) (below_size (by repeat (first | (with_reducible first | exact HB.out | apply below_alloc | apply pw_below_drewN | apply below_drew1) | exact HB.out)))); have n2_ := Aside0.mk (below_step (by repeat (first | (with_reducible first | exact HB.out | apply below_alloc | apply pw_below_drewN | apply below_drew1) | exact HB.out)) hb); clear HO108; clear HB; have HO108 := n0_; have HO111 := n1_; have HB := n2_; clear n0_ n1_ n2_; (try clear hb); (try clear hb2); (try clear hk); (try clear hi); (try clear ho0)))
     go_loopg [10, 37] kj4 (fun kq v10 v37 w' => ∃ (x10_2 : List Int) (x37_2 : Int), v37 = .int .i64 x37_2 ∧ Aside0 (impl_CountBetween.l0 kq a1 x10_2 t109 a3 x37_2 = some (r1, r2)) ∧ Aside0 (kq ≤ kj4) ∧ Aside0 (Kd.R (Kd.int .i64) 3 w' w.heap.size (fun _ => True) v10 x10_2) ∧ Aside0 (Kd.S (Kd.slice 3 (Kd.int .i64)) 22 w' w.heap.size (fun k_ => some k_ ≠ (v10 : Value).ownBlock) v110 t109) ∧ Aside0 (Below w.heap.size w w'))
     case atStart => exact ⟨(t106), (0), (by first | rfl | (simp; done) | (simp [*]; done)), H', ⟨Nat.le_refl _⟩, ⟨by (with_reducible repeat (first | apply Kd.R_alloc | apply Kd.R_drewN | apply Kd.R_drew)); exact HO108.out⟩, ⟨by (with_reducible repeat (first | apply Kd.S_alloc | apply Kd.S_drewN | apply Kd.S_drew)); exact Kd.S_mono HO111.out (fun _ hk => hk.2)⟩, ⟨by repeat (first | (with_reducible first | exact HB.out | apply below_alloc | apply pw_below_drewN | apply below_drew1) | exact HB.out)⟩⟩
     case round =>
      clear H'
      try clear c1
      try clear p2
      try clear q2
      try clear hx2
      try clear qi2
      try clear c3
      try clear c4
      try clear c6
      try clear c7
      try clear c9
      try clear c11
      try clear c18
      try clear c19
      try clear c19b0
      try clear c19b1
      try clear p20
      try clear q20
      try clear hx20
      try clear qi20
      try clear p2
      try clear p20
      try clear q20
      obtain ⟨x10_2, x37_2, rfl, HA, HK2, HO_10, HO_11, HB⟩ := hrel
      cases gk with
      | zero => exact absurd HA.out (by simp [impl_CountBetween.l0])
      | succ k2 =>
       have H := HA.out
       clear HA
       simp only [impl_CountBetween.l0] at H
       by_cases c26 : x37_2 < a3
       ·
        rw [if_pos c26] at H
        have c26b0 : decide (x37_2 < a3) = true := decide_eq_true c26
        clear c26
        replace H := Option.bind_eq_some_iff.mp H
        obtain ⟨t112, A270, H⟩ := H
        replace H : (impl_CountBetween.l0 k2 a1 t112 t109 a3 (wrap64 (x37_2 + 1))) = some (r1, r2) := H
        have A27 := Aside0.mk A270
        clear A270
        have H' := Aside0.mk H
        clear H
        obtain ⟨Ao28, co28, eo28⟩ := Kd.S_slice HO_11.out
        subst eo28
        obtain ⟨Ao29, co29, eo29⟩ := Kd.R_slice HO_10.out
        subst eo29
        go_wp2_with (first | ((with_reducible refine gate_callee (f := 65) rfl ?_); refine goesL_ (some 41) rfl rfl Tryd.func65 (by kernel_rfl) rfl #[.slice Ao28 t109.length co28, .slice Ao29 x10_2.length co29] rfl (by (try simp only [List.map_toArray, List.map_cons, List.map_nil]); first | done | rfl | (simp only [List.length_drop, List.length_take]; rfl)) ?_; (with_reducible refine (impl_stepped.calls k2 _ _ t109 _ _ x10_2 t112 _ ?side1 ?side2 ?side3 ?side4 A27.out).mono ?_); (case side1 => repeat (first | exact (Kd.S_reads' HO_11.out).2.2 | (with_reducible refine Kd.C_alloc ?_ _) | (with_reducible refine Kd.C_drewN ?_ _) | (with_reducible refine Kd.C_drew ?_))); (case side2 => exact (Kd.S_reads' HO_11.out).2.1); (case side3 => repeat (first | exact (Kd.R_reads' HO_10.out).2.2 | (with_reducible refine Kd.C_alloc ?_ _) | (with_reducible refine Kd.C_drewN ?_ _) | (with_reducible refine Kd.C_drew ?_))); (case side4 => exact (Kd.R_reads' HO_10.out).2.1); rintro e w30 ⟨v113, rfl, ho0, hb⟩; refine ⟨_, rfl, ?_⟩; have n0_ := Aside0.mk (Kd.R_elder' (by (with_reducible repeat (first | apply Kd.R_alloc | apply Kd.R_drewN | apply Kd.R_drew)); exact HO_10.out) (Kd.R_base ho0) hb); have n1_ := Aside0.mk (Kd.S_elder' (by (with_reducible repeat (first | apply Kd.S_alloc | apply Kd.S_drewN | apply Kd.S_drew)); exact HO_11.out) (Kd.R_base ho0) hb); have n2_ := Aside0.mk (Kd.R_lower (Kd.R_new' ho0 (Kd.R_lt (by (with_reducible repeat (first | apply Kd.R_alloc | apply Kd.R_drewN | apply Kd.R_drew)); exact HO_10.out))) (below_size (by repeat (first | (with_reducible first | exact HB.out | apply below_alloc | apply pw_below_drewN | apply below_drew1) | exact HB.out)))); have n3_ := Aside0.mk (below_step (by repeat (first | (with_reducible first | exact HB.out | apply below_alloc | apply pw_below_drewN | apply below_drew1) | exact HB.out)) hb); clear HO_10; clear HO_11; clear HB; have HO_10 := n0_; have HO_11 := n1_; have HO114 := n2_; have HB := n3_; clear n0_ n1_ n2_ n3_; (try clear hb); (try clear hb2); (try clear hk); (try clear hi); (try clear ho0)))
        go_roundg k2
        case measure => have := HJ4.out; have := HK2.out; omega
        case rel => exact ⟨(t112), (wrap64 (x37_2 + 1)), (by first | rfl | (simp; done) | (simp [*]; done)), H', ⟨by have := HJ4.out; have := HK2.out; omega⟩, ⟨by (with_reducible repeat (first | apply Kd.R_alloc | apply Kd.R_drewN | apply Kd.R_drew)); exact Kd.R_mono HO114.out (fun _ hk => trivial)⟩, ⟨by (with_reducible repeat (first | apply Kd.S_alloc | apply Kd.S_drewN | apply Kd.S_drew)); exact Kd.S_mono HO_11.out (fun _ hk => hk.2)⟩, ⟨by repeat (first | (with_reducible first | exact HB.out | apply below_alloc | apply pw_below_drewN | apply below_drew1) | exact HB.out)⟩⟩
       ·
        rw [if_neg c26] at H
        have c26b0 : decide (x37_2 < a3) = false := decide_eq_false c26
        clear c26
        by_cases c31 : 0 < (a1.size : Int)
        ·
         rw [if_pos c31] at H
         have c31b0 : decide (0 < (a1.size : Int)) = true := decide_eq_true c31
         have c31b1 : decide (0 < a1.size) = true := decide_eq_true (by omega)
         clear c31
         replace H := Option.bind_eq_some_iff.mp H
         obtain ⟨t115, A330, H⟩ := H
         replace H : (if 0 ≤ t115 then (if t115 < (x10_2.length : Int) then ((impl_few.f (rd x10_2 t115)).bind fun bt117 => (some (bt117.1, bt117.2))) else (none)) else (none)) = some (r1, r2) := H
         have A33 := Aside0.mk A330
         clear A330
         by_cases c34 : 0 ≤ t115
         ·
          rw [if_pos c34] at H
          have c34b0 : decide (0 ≤ t115) = true := decide_eq_true c34
          clear c34
          by_cases c35 : t115 < (x10_2.length : Int)
          ·
           rw [if_pos c35] at H
           have c35b0 : decide (t115 < (x10_2.length : Int)) = true := decide_eq_true c35
           clear c35
           replace H := Option.bind_eq_some_iff.mp H
           obtain ⟨⟨t117, t118⟩, A360, H⟩ := H
           replace H : (some (t117, t118)) = some (r1, r2) := H
           have A36 := Aside0.mk A360
           clear A360
           simp only [Option.some.injEq, Prod.mk.injEq] at H
           obtain ⟨rfl, rfl⟩ := H
           have p32 : 0 ≤ (0 : Int) := (by omega)
           have q32 : 0 < a1.size := (by have : (0 : Int) < (a1.size : Int) := of_decide_eq_true (by first | (with_reducible assumption) | assumption); omega)
           have hx32 : ∀ h : 0 < a1.size, ((a1[0]'h).toNat : Int) = bt a1 0 := bt_at a1 0
           clear p32
           have qi32 : (0 < (a1.size : Int)) = True := eq_true (of_decide_eq_true (by first | (with_reducible assumption) | assumption))
           replace q32 := eq_true q32
           go_wp2_with (first | ((with_reducible refine gate_callee (f := 35) rfl ?_); refine goesL_ (some 46) rfl rfl Tryd.func35 (by kernel_rfl) rfl #[.int .u8 (bt a1 0)] rfl (by (try simp only [List.map_toArray, List.map_cons, List.map_nil]); first | done | rfl | (simp only [List.length_drop, List.length_take]; rfl)) ?_; (with_reducible refine (impl_digit.calls (bt a1 0) t115 _ A33.out).mono ?_); rintro e w' ⟨rfl, ⟨nd, rfl⟩⟩; refine ⟨_, rfl, ?_⟩; obtain ⟨Ao37, co37, eo37⟩ := Kd.R_slice HO_10.out; subst eo37; have p116 : 0 ≤ (t115 : Int) := of_decide_eq_true (by first | (with_reducible assumption) | assumption); have q116 : t115 < (x10_2.length : Int) := of_decide_eq_true (by first | (with_reducible assumption) | assumption); obtain ⟨ad116, e116, hx116_0⟩ := Kd.at_int (Kd.R_reads' HO_10.out).2.2 t115 p116 q116; cases e116; replace p116 := eq_true p116; replace q116 := eq_true q116) | ((with_reducible refine gate_callee (f := 66) rfl ?_); refine goesL_ (some 49) rfl rfl Tryd.func66 (by kernel_rfl) rfl #[.int .i64 (rd x10_2 t115)] rfl (by (try simp only [List.map_toArray, List.map_cons, List.map_nil]); first | done | rfl | (simp only [List.length_drop, List.length_take]; rfl)) ?_; (with_reducible refine (impl_few.calls (rd x10_2 t115) t117 t118 _ A36.out).mono ?_); rintro e w' ⟨rfl, ⟨nd, rfl⟩⟩; refine ⟨_, rfl, ?_⟩))
           go_ret2
           exact ⟨by first | rfl | (simp [errW_none, errW_some] <;> rfl) | (simp [*, errW_none, errW_some] <;> rfl), by repeat (first | (with_reducible first | exact HB.out | apply below_alloc | apply pw_below_drewN | apply below_drew1) | exact HB.out)⟩
          ·
           rw [if_neg c35] at H
           exact absurd H (by simp)
         ·
          rw [if_neg c34] at H
          exact absurd H (by simp)
        ·
         rw [if_neg c31] at H
         exact absurd H (by simp)
    ·
     rw [if_neg c19] at H
     exact absurd H (by simp)

end Go.Proofs.YtkbgfaeohmnjpaaDoor.P

-- printed by xprint.py
namespace Go.Proofs.YtkbgfaeohmnjpaaDoor.P
open Go.RowKit Go.Proofs.YtkbgfaeohmnjpaaDoorW.PrintWords Go.Proofs.YtkbgfaeohmnjpaaDoorW.PrintLast Go.Proofs.YtkbgfaeohmnjpaaDoorW.PrintMore
attribute [local go_sem] max2_int min2_int max_two min_two max_three min_three max_four min_four   -- for this text's walks alone
set_option linter.unusedVariables false
set_option linter.unusedSimpArgs false

/-! ### slices_IndexFunc_int_int: function 40 -/
/-- The place of the first element of which p holds, or -1. -/
def idxP {α : Type} (p : α → Bool) : List α → Int → Int
 | [], _ => -1
 | x :: xs, i => if p x = true then i else idxP p xs (i + 1)
theorem idxP_cons {α : Type} (p : α → Bool) (x : α) (xs : List α) (i : Int) : idxP p (x :: xs) i = if p x = true then i else idxP p xs (i + 1) := rfl
theorem idxP_nonneg {α : Type} (p : α → Bool) : ∀ (l : List α) (i : Int), 0 ≤ i → (0 ≤ idxP p l i ↔ l.any p = true)
 | [], _, _ => by simp [idxP]
 | x :: xs, i, hi => by
  unfold idxP
  by_cases h : p x = true
  ·
   simp [h, hi]
  ·
   simp [h, idxP_nonneg p xs (i + 1) (by omega)]
theorem idxP_ge {α : Type} (p : α → Bool) : ∀ (l : List α) (i : Int), idxP p l i = -1 ∨ i ≤ idxP p l i
 | [], _ => .inl rfl
 | x :: xs, i => by
  unfold idxP
  by_cases h : p x = true
  ·
   simp [h]
  ·
   rcases idxP_ge p xs (i + 1) with h' | h' <;> simp [h]
   ·
    exact .inl h'
   ·
    exact .inr (by omega)
set_option maxHeartbeats 4000000 in
theorem IndexFuncInt_calls (p : Int → Bool) (g : Nat) (lb : Array Value) (eg : ∀ args w, (callFunc g args).run Tryd.prog w = .ok (.enter g args) w) (A0 : Option Addr) (c0 : Nat) (l0 : List Int) (w : World)
  (hr0 : Kd.C (Kd.int .i64) w A0 l0.length l0) (hc0 : l0.length ≤ c0)
  (hp : ∀ (W : World) (x : Int), x ∈ l0 → Below w.heap.size w W → Calls Tryd.prog g (#[.int .i64 x] ++ lb) W fun e W' => e = .returned (.bool (p x)) ∧ Below W.heap.size W W') :
  Calls Tryd.prog 40 #[.slice A0 l0.length c0, .func (.func g) #[] lb] w fun e w' => e = .returned (.int .i64 (idxP p l0 0)) ∧ Below w.heap.size w w' := by
 have HR0 := Aside0.mk hr0
 have HP := Aside0.mk hp
 have hlen : l0.length ≤ 9223372036854775807 := hr0.2.1
 clear hr0 hp
 go_enter Tryd.func40, Tryd.ntmps40
 go_wp2
 go_loopg [5, 8] l0.length (fun gg _ s8 wr => ∃ kk : Nat, kk ≤ l0.length ∧ Aside0 (l0.length - kk ≤ gg) ∧ s8 = .int .i64 kk ∧ Aside0 (idxP p (l0.drop kk) kk = idxP p l0 0) ∧ Aside0 (Below w.heap.size w wr))
 case atStart => exact ⟨0, Nat.zero_le _, ⟨Nat.le_refl _⟩, rfl, ⟨by simp⟩, ⟨Below.refl _ _⟩⟩
 case round =>
  obtain ⟨kk, hkk, hg, rfl, A, HB⟩ := hrel
  by_cases hlt : kk < l0.length
  ·
   have hltz : (kk : Int) < (l0.length : Int) := by omega
   obtain ⟨ad, e0, hx⟩ := Kd.at_int (Kd.C_below HR0.out HB.out) kk (by omega) hltz
   cases e0
   have hcall := HP.out _ l0[kk] (List.getElem_mem hlt) HB.out
   have hd : l0.drop kk = l0[kk] :: l0.drop (kk + 1) := List.drop_eq_getElem_cons hlt
   have hrd : rd l0 kk = l0[kk] := by unfold rd; simp [List.getD, hlt]
   rw [hrd] at hx
   rw [Int.toNat_natCast] at hx
   rw [hd, idxP_cons] at A
   clear hd hrd
   generalize l0[kk] = y at hx hcall A
   cases hq : p y with
   | true =>
    rw [hq] at hcall
    go_wp2_with fail
    refine hcall.mono ?_
    rintro e w' ⟨rfl, hb'⟩
    have hb := Aside0.mk (HB.out.trans (hb'.mono HB.out.size))
    clear hb'
    go_wp2_with fail
    go_ret
    refine ⟨?_, hb.out⟩
    rw [← A.out, if_pos hq]; rfl
   | false =>
    rw [hq] at hcall
    go_wp2_with fail
    refine hcall.mono ?_
    rintro e w' ⟨rfl, hb'⟩
    have hb := Aside0.mk (HB.out.trans (hb'.mono HB.out.size))
    clear hb'
    go_wp2_with fail
    go_roundg (l0.length - (kk + 1))
    case measure => have := hg.out; omega
    case rel => exact ⟨kk + 1, by omega, ⟨by omega⟩, by go_num, ⟨by have := A.out; rw [if_neg (by rw [hq]; decide)] at this; simpa using this⟩, hb⟩
  ·
   have hltz : ¬ (kk : Int) < (l0.length : Int) := by omega
   have : kk = l0.length := by omega
   subst this
   go_wp2
   go_ret
   refine ⟨?_, HB.out⟩
   rw [← A.out]; simp [idxP]

end Go.Proofs.YtkbgfaeohmnjpaaDoor.P

-- printed by xprint.py
namespace Go.Proofs.YtkbgfaeohmnjpaaDoor.P
open Go.RowKit Go.Proofs.YtkbgfaeohmnjpaaDoorW.PrintWords Go.Proofs.YtkbgfaeohmnjpaaDoorW.PrintLast Go.Proofs.YtkbgfaeohmnjpaaDoorW.PrintMore
attribute [local go_sem] max2_int min2_int max_two min_two max_three min_three max_four min_four   -- for this text's walks alone
set_option linter.unusedVariables false
set_option linter.unusedSimpArgs false

/-! ### impl_FirstWalk_1: function 41 -/
def impl_FirstWalkIdx.f (l0 : List Int) (l1 : List Int) (a2 : Int) : Option Int :=
 if 0 ≤ a2 ∧ a2 < (l1.length : Int) ∧ (l0.all fun x => decide (0 ≤ x) && decide (x < (l1.length : Int))) = true then some (idxP (fun x => rd l1 x == wrap64 (rd l1 a2 - 1)) l0 0) else none
set_option maxHeartbeats 4000000 in
theorem impl_FirstWalkIdx.clo (x a2 : Int) (g1 g2 : Nat) (A1 : Option Addr) (c1 : Nat) (l1 : List Int) (W : World) (hb1 : W.heap[g1]? = some (.cells #[.slice A1 l1.length c1] 22 (0, 0))) (hr1 : Kd.C (Kd.int .i64) W A1 l1.length l1) (hb2 : W.heap[g2]? = some (.cells #[.int .i64 a2] 3 (0, 0)))
  (h0 : 0 ≤ a2) (h1 : a2 < (l1.length : Int)) (h2 : 0 ≤ x) (h3 : x < (l1.length : Int)) :
  Calls Tryd.prog 41 #[.int .i64 x, .pointer (some ⟨g1, 0, none⟩), .pointer (some ⟨g2, 0, none⟩)] W fun e W' => e = .returned (.bool (rd l1 x == wrap64 (rd l1 a2 - 1))) ∧ Below W.heap.size W W' := by
 have k1 : W.cell? ⟨g1, 0, none⟩ = some (.slice A1 l1.length c1) := (blk_cell hb1 0).trans rfl
 have k2 : W.cell? ⟨g2, 0, none⟩ = some (.int .i64 a2) := (blk_cell hb2 0).trans rfl
 obtain ⟨ad, e0, hx⟩ := Kd.at_int hr1 x h2 h3
 obtain ⟨ad2, e1, hy⟩ := Kd.at_int hr1 a2 h0 h1
 subst e0
 cases e1
 have hlen : l1.length ≤ 9223372036854775807 := hr1.2.1
 clear hr1 hb1 hb2
 generalize rd l1 x = p at hx ⊢
 generalize rd l1 a2 = q at hy ⊢
 have q1 : (x < (l1.length : Int)) = True := eq_true h3
 have q2 : (a2 < (l1.length : Int)) = True := eq_true h1
 have q3 : (0 ≤ x) = True := eq_true h2
 have q4 : (0 ≤ a2) = True := eq_true h0
 go_enter Tryd.func41, Tryd.ntmps41
 go_wp2
 repeat (go_quiet (fail); try go_wp2)
 go_ret
 exact ⟨rfl, pw_below_drewN (Below.refl _ _) _⟩
theorem impl_FirstWalkIdx.calls (A0 : Option Addr) (c0 : Nat) (l0 : List Int) (g1 : Nat) (A1 : Option Addr) (c1 : Nat) (l1 : List Int) (g2 : Nat) (a2 : Int) (r : Int) (w : World) (hr0 : Kd.C (Kd.int .i64) w A0 l0.length l0) (hc0 : l0.length ≤ c0)
  (hb1 : w.heap[g1]? = some (.cells #[.slice A1 l1.length c1] 22 (0, 0))) (hr1 : Kd.C (Kd.int .i64) w A1 l1.length l1) (hc1 : l1.length ≤ c1) (hb2 : w.heap[g2]? = some (.cells #[.int .i64 a2] 3 (0, 0))) (h : impl_FirstWalkIdx.f l0 l1 a2 = some r) :
  Calls Tryd.prog 40 #[.slice A0 l0.length c0, .func (.func 41) #[] #[.pointer (some ⟨g1, 0, none⟩), .pointer (some ⟨g2, 0, none⟩)]] w fun e w' => e = .returned (.int .i64 r) ∧ Below w.heap.size w w' := by
 unfold impl_FirstWalkIdx.f at h
 split at h
 ·
  rename_i hc
  obtain ⟨h0, h1, h2⟩ := hc
  obtain rfl := Option.some.inj h
  have eg : ∀ args w, (callFunc 41 args).run Tryd.prog w = .ok (.enter 41 args) w := enters_of Tryd.func41 (by kernel_rfl) rfl
  refine IndexFuncInt_calls _ _ _ eg A0 c0 l0 w hr0 hc0 fun W x hx hb => ?_
  rw [List.all_eq_true] at h2
  have := h2 x hx
  rw [Bool.and_eq_true, decide_eq_true_eq, decide_eq_true_eq] at this
  exact impl_FirstWalkIdx.clo x a2 g1 g2 A1 c1 l1 W (blk_below hb1 hb) (Kd.C_below hr1 hb) (blk_below hb2 hb) h0 h1 this.1 this.2
 ·
  cases h

end Go.Proofs.YtkbgfaeohmnjpaaDoor.P

-- printed by xprint.py
namespace Go.Proofs.YtkbgfaeohmnjpaaDoor.P
open Go.RowKit Go.Proofs.YtkbgfaeohmnjpaaDoorW.PrintWords Go.Proofs.YtkbgfaeohmnjpaaDoorW.PrintLast Go.Proofs.YtkbgfaeohmnjpaaDoorW.PrintMore
attribute [local go_sem] max2_int min2_int max_two min_two max_three min_three max_four min_four   -- for this text's walks alone
set_option linter.unusedVariables false
set_option linter.unusedSimpArgs false

/-! ### impl_digitText: function 37 -/
def impl_digitText.l0 : Nat → List Int → List Int → Int → Int → Option (ByteArray)
 | 0, _, _, _, _ => none
 | k + 1, x3, x7, x8, x9 => if x9 < x8 then (if 0 ≤ x9 then (if x9 < (x7.length : Int) then (if 0 ≤ (rd x7 x9) then (if (rd x7 x9) < 10 then (if x3.length < 140737488355328 then (impl_digitText.l0 k (x3 ++ [bt (⟨#[48, 49, 50, 51, 52, 53, 54, 55, 56, 57]⟩ : ByteArray) (rd x7 x9)]) x7 x8 (wrap64 (x9 + 1))) else (none)) else (none)) else (none)) else (none)) else (none)) else (some (strOfNums x3))
def impl_digitText.f (k : Nat) (l0 : List Int) : Option (ByteArray) := impl_digitText.l0 k (([] : List Int)) l0 (l0.length : Int) 0
theorem impl_digitText.mono_l : ∀ k, (∀ y0 y1 y2 y3, LeO (impl_digitText.l0 k y0 y1 y2 y3) (impl_digitText.l0 (k + 1) y0 y1 y2 y3))
 | 0 => fun _ _ _ _ r h => by simp [impl_digitText.l0] at h
 | k + 1 => by
  have ih0 := impl_digitText.mono_l k
  ·
   intro y0 y1 y2 y3
   unfold impl_digitText.l0
   repeat' first
   | (with_reducible exact ih0 _ _ _ _)
   | (with_reducible exact LeO.refl _)
   | (with_reducible exact LeO.none _)
   | (with_reducible refine LeO.ite ?_ ?_)
   | (with_reducible refine LeO.bind ?_ (fun _ => ?_))
   | exact ih0 _ _ _ _
   | exact LeO.none _
   | refine LeO.ite ?_ ?_
   | refine LeO.bind ?_ (fun _ => ?_)
theorem impl_digitText.mono : ∀ a0 k, LeO (impl_digitText.f k a0) (impl_digitText.f (k + 1) a0) := by
 intro a0 k
 have ih0 := impl_digitText.mono_l k
 unfold impl_digitText.f
 repeat' first
   | (with_reducible exact ih0 _ _ _ _)
   | (with_reducible exact LeO.refl _)
   | (with_reducible exact LeO.none _)
   | (with_reducible refine LeO.ite ?_ ?_)
   | (with_reducible refine LeO.bind ?_ (fun _ => ?_))
   | exact ih0 _ _ _ _
   | exact LeO.none _
   | refine LeO.ite ?_ ?_
   | refine LeO.bind ?_ (fun _ => ?_)
set_option maxHeartbeats 8000000 in
set_option maxRecDepth 100000 in
theorem impl_digitText.calls (k : Nat) (A0 : Option Addr) (c0 : Nat) (l0 : List Int) (r : ByteArray) (w : World) (hr0 : Kd.C (Kd.int .i64) w A0 l0.length l0) (hc0 : l0.length ≤ c0) (h : impl_digitText.f k l0 = some r) :
  Calls Tryd.prog 37 #[.slice A0 l0.length c0] w fun e w' => e = .returned (.string r) ∧ Below w.heap.size w w' := by
 have HR0 := Aside0.mk hr0
 have HC0 := Aside0.mk hc0
 clear hr0 hc0
 have HB := Aside0.mk (Below.refl w.heap.size w)
 have H : (impl_digitText.l0 k (([] : List Int)) l0 (l0.length : Int) 0) = some r := h
 clear h
 obtain ⟨y101, hy101⟩ : ∃ y_ : List Int, y_ = (([] : List Int)) := ⟨_, rfl⟩
 replace H : (impl_digitText.l0 k y101 l0 (l0.length : Int) 0) = some r := by first | (rw [hy101]; with_reducible exact H) | (have H2_ := (Option.bind_some _ _).symm.trans H; rw [hy101]; with_reducible exact H2_) | (have H2_ := (Option.bind_some _ _).symm.trans H; with_reducible exact H2_) | with_reducible exact H | (rw [hy101]; exact H) | exact H
 have Ny101 := Aside0.mk hy101
 clear hy101
 have H' := Aside0.mk H
 clear H
 go_enter Tryd.func37, Tryd.ntmps37
 go_wp2_with (first | ((with_reducible refine gate_dst (N := 6) rfl ?_); refine Kd.R_lit (Kd.int .u8) _ 5 ?hg (N := 6) ?hd (xs := ([] : List Int)) (inner := []) (ok := fun _ => True) (okp := fun _ => True) ?hr ?hp (fun _ hk => hk) trivial (Below.refl _ _) (Nat.le_refl _) (by simp) ?_; (case hd => rfl); (case hg => rfl); (case hr => first | (go_simp; done) | (go_simp; rfl)); (case hp => exact (Reps.none _ _)); intro v102 w2 ho3 hb hg_ hnew_; clear hg_ hnew_; (first | rw [← Ny101.out] at ho3 | (simp only [Int.reduceToNat] at ho3; rw [← Ny101.out] at ho3)); have n0_ := Aside0.mk (Kd.R_lower ho3 (below_size (by repeat (first | (with_reducible first | exact HB.out | apply below_alloc | apply pw_below_drewN | apply below_drew1) | exact HB.out)))); have n1_ := Aside0.mk (below_step (by repeat (first | (with_reducible first | exact HB.out | apply below_alloc | apply pw_below_drewN | apply below_drew1) | exact HB.out)) hb); clear HB; have HO103 := n0_; have HB := n1_; clear n0_ n1_; clear hb ho3))
 go_loopg [3, 9] k (fun kq v3 v9 w' => ∃ (x3_1 : List Int) (x9_1 : Int), v9 = .int .i64 x9_1 ∧ Aside0 (impl_digitText.l0 kq x3_1 l0 (l0.length : Int) x9_1 = some r) ∧ Aside0 (kq ≤ k) ∧ Aside0 (Kd.R (Kd.int .u8) 5 w' w.heap.size (fun _ => True) v3 x3_1) ∧ Aside0 (Below w.heap.size w w'))
 case atStart => exact ⟨(y101), (0), (by first | rfl | (simp; done) | (simp [*]; done)), H', ⟨Nat.le_refl _⟩, ⟨by (with_reducible repeat (first | apply Kd.R_alloc | apply Kd.R_drewN | apply Kd.R_drew)); exact HO103.out⟩, ⟨by repeat (first | (with_reducible first | exact HB.out | apply below_alloc | apply pw_below_drewN | apply below_drew1) | exact HB.out)⟩⟩
 case round =>
  clear H'
  try clear p2
  try clear c3
  obtain ⟨x3_1, x9_1, rfl, HA, HK1, HO_3, HB⟩ := hrel
  cases gk with
  | zero => exact absurd HA.out (by simp [impl_digitText.l0])
  | succ k1 =>
   have H := HA.out
   clear HA
   simp only [impl_digitText.l0] at H
   by_cases c4 : x9_1 < (l0.length : Int)
   ·
    rw [if_pos c4] at H
    have c4b0 : decide (x9_1 < (l0.length : Int)) = true := decide_eq_true c4
    clear c4
    by_cases c5 : 0 ≤ x9_1
    ·
     rw [if_pos c5] at H
     have c5b0 : decide (0 ≤ x9_1) = true := decide_eq_true c5
     clear c5
     by_cases c6 : x9_1 < (l0.length : Int)
     ·
      rw [if_pos c6] at H
      have c6b0 : decide (x9_1 < (l0.length : Int)) = true := decide_eq_true c6
      clear c6
      by_cases c7 : 0 ≤ (rd l0 x9_1)
      ·
       rw [if_pos c7] at H
       have c7b0 : decide (0 ≤ (rd l0 x9_1)) = true := decide_eq_true c7
       clear c7
       by_cases c8 : (rd l0 x9_1) < 10
       ·
        rw [if_pos c8] at H
        have c8b0 : decide ((rd l0 x9_1) < 10) = true := decide_eq_true c8
        clear c8
        by_cases c10 : x3_1.length < 140737488355328
        ·
         rw [if_pos c10] at H
         have LMc10 := Aside0.mk c10
         clear c10
         obtain ⟨y105, hy105⟩ : ∃ y_ : List Int, y_ = (x3_1 ++ [bt (⟨#[48, 49, 50, 51, 52, 53, 54, 55, 56, 57]⟩ : ByteArray) (rd l0 x9_1)]) := ⟨_, rfl⟩
         replace H : (impl_digitText.l0 k1 y105 l0 (l0.length : Int) (wrap64 (x9_1 + 1))) = some r := by first | (rw [hy105]; with_reducible exact H) | (have H2_ := (Option.bind_some _ _).symm.trans H; rw [hy105]; with_reducible exact H2_) | (have H2_ := (Option.bind_some _ _).symm.trans H; with_reducible exact H2_) | with_reducible exact H | (rw [hy105]; exact H) | exact H
         have Ny105 := Aside0.mk hy105
         clear hy105
         have H' := Aside0.mk H
         clear H
         have p104 : 0 ≤ (x9_1 : Int) := of_decide_eq_true (by first | (with_reducible assumption) | assumption)
         have q104 : x9_1 < (l0.length : Int) := of_decide_eq_true (by first | (with_reducible assumption) | assumption)
         obtain ⟨ad104, e104, hx104_0⟩ := Kd.at_int HR0.out x9_1 p104 q104
         cases e104
         (try replace hx104_0 := (HB.out.cell (World.block_lt_of_cell? w _ hx104_0)).trans hx104_0)
         replace p104 := eq_true p104
         replace q104 := eq_true q104
         have p9 : 0 ≤ ((rd l0 x9_1) : Int) := of_decide_eq_true (by first | (with_reducible assumption) | assumption)
         have q9 : (rd l0 x9_1) < (10 : Int) := of_decide_eq_true (by first | (with_reducible assumption) | assumption)
         have hx9 := bt_at (⟨#[48, 49, 50, 51, 52, 53, 54, 55, 56, 57]⟩ : ByteArray) (rd l0 x9_1)
         replace p9 := eq_true p9
         replace q9 := eq_true q9
         go_wp2_with (first | ((with_reducible refine gate_builtin (b := .append) (xs := #[.tmp 13, .tmp 16]) rfl ?_); at_builtin; refine Kd.R_append (Kd.int .u8) (w0 := w) w.heap.size rfl (.tmp 13) (.tmp 16) 61 5 (.int .u8 0) 1 rfl Tryd.underlying61 info5 rfl (by decide) (by omega) u3 x3_1 (bt (⟨#[48, 49, 50, 51, 52, 53, 54, 55, 56, 57]⟩ : ByteArray) (rd l0 x9_1)) [.int .u8 (bt (⟨#[48, 49, 50, 51, 52, 53, 54, 55, 56, 57]⟩ : ByteArray) (rd l0 x9_1))] (fun _ => True) (fun _ => False) rfl rfl ?aP (fun _ hk => hk.elim) ?aF ?aO ?aB ?aS ?aL ?_; (case aP => exact rfl); (case aB => exact (by repeat (first | (with_reducible first | exact HB.out | apply below_alloc | apply pw_below_drewN | apply below_drew1) | exact HB.out))); (case aF => exact (fun _ _ => trivial)); (case aO => exact (by (with_reducible repeat (first | apply Kd.R_alloc | apply Kd.R_drewN | apply Kd.R_drew)); exact HO_3.out)); (case aS => exact (below_size (by repeat (first | (with_reducible first | exact HB.out | apply below_alloc | apply pw_below_drewN | apply below_drew1) | exact HB.out)))); (case aL => have := LMc10.out; omega); intro v106 w11 ho hb hg hat; rw [← Ny105.out] at ho; have n0_ := Aside0.mk (hb); have n1_ := Aside0.mk (ho); clear HB; clear HO_3; have HB := n0_; have HO107 := n1_; clear n0_ n1_; clear ho hb hg hat))
         go_roundg k1
         case measure => have := HK1.out; omega
         case rel => exact ⟨(y105), (wrap64 (x9_1 + 1)), (by first | rfl | (simp; done) | (simp [*]; done)), H', ⟨by have := HK1.out; omega⟩, ⟨by (with_reducible repeat (first | apply Kd.R_alloc | apply Kd.R_drewN | apply Kd.R_drew)); exact HO107.out⟩, ⟨by repeat (first | (with_reducible first | exact HB.out | apply below_alloc | apply pw_below_drewN | apply below_drew1) | exact HB.out)⟩⟩
        ·
         rw [if_neg c10] at H
         exact absurd H (by simp)
       ·
        rw [if_neg c8] at H
        exact absurd H (by simp)
      ·
       rw [if_neg c7] at H
       exact absurd H (by simp)
     ·
      rw [if_neg c6] at H
      exact absurd H (by simp)
    ·
     rw [if_neg c5] at H
     exact absurd H (by simp)
   ·
    rw [if_neg c4] at H
    have c4b0 : decide (x9_1 < (l0.length : Int)) = false := decide_eq_false c4
    clear c4
    obtain rfl := Option.some.inj H
    have hcv12 := own_string (P := Tryd.prog) Tryd.underlying61 Tryd.underlying5 Tryd.underlying9 (Kd.own_of_R HO_3.out)
    go_wp2
    go_ret
    exact ⟨by first | rfl | (simp [errW_none, errW_some] <;> rfl) | (simp [*, errW_none, errW_some] <;> rfl), by repeat (first | (with_reducible first | exact HB.out | apply below_alloc | apply pw_below_drewN | apply below_drew1) | exact HB.out)⟩

end Go.Proofs.YtkbgfaeohmnjpaaDoor.P

-- printed by xprint.py
namespace Go.Proofs.YtkbgfaeohmnjpaaDoor.P
open Go.RowKit Go.Proofs.YtkbgfaeohmnjpaaDoorW.PrintWords Go.Proofs.YtkbgfaeohmnjpaaDoorW.PrintLast Go.Proofs.YtkbgfaeohmnjpaaDoorW.PrintMore
attribute [local go_sem] max2_int min2_int max_two min_two max_three min_three max_four min_four   -- for this text's walks alone
set_option linter.unusedVariables false
set_option linter.unusedSimpArgs false

/-! ### bits_Mul64: function 84 -/
def bits_Mul64.f (a0 : Int) (a1 : Int) : Option (Int × Int) := some (IntKind.u64.wrap ((IntKind.u64.wrap ((IntKind.u64.wrap ((a0 / 4294967296) * (a1 / 4294967296))) + ((IntKind.u64.wrap ((IntKind.u64.wrap ((a0 / 4294967296) * (Go.bits .and .u64 a1 4294967295))) + ((IntKind.u64.wrap ((Go.bits .and .u64 a0 4294967295) * (Go.bits .and .u64 a1 4294967295))) / 4294967296))) / 4294967296))) + ((IntKind.u64.wrap ((Go.bits .and .u64 (IntKind.u64.wrap ((IntKind.u64.wrap ((a0 / 4294967296) * (Go.bits .and .u64 a1 4294967295))) + ((IntKind.u64.wrap ((Go.bits .and .u64 a0 4294967295) * (Go.bits .and .u64 a1 4294967295))) / 4294967296))) 4294967295) + (IntKind.u64.wrap ((Go.bits .and .u64 a0 4294967295) * (a1 / 4294967296))))) / 4294967296)), IntKind.u64.wrap (a0 * a1))
set_option maxHeartbeats 8000000 in
set_option maxRecDepth 100000 in
theorem bits_Mul64.calls (a0 : Int) (a1 : Int) (r1 : Int) (r2 : Int) (w : World) (h : bits_Mul64.f a0 a1 = some (r1, r2)) :
  Calls Tryd.prog 84 #[.int .u64 a0, .int .u64 a1] w fun e w' => e = .returned (.tuple #[.int .u64 r1, .int .u64 r2]) ∧ Drawn0 w w' := by
 have H : (some (IntKind.u64.wrap ((IntKind.u64.wrap ((IntKind.u64.wrap ((a0 / 4294967296) * (a1 / 4294967296))) + ((IntKind.u64.wrap ((IntKind.u64.wrap ((a0 / 4294967296) * (Go.bits .and .u64 a1 4294967295))) + ((IntKind.u64.wrap ((Go.bits .and .u64 a0 4294967295) * (Go.bits .and .u64 a1 4294967295))) / 4294967296))) / 4294967296))) + ((IntKind.u64.wrap ((Go.bits .and .u64 (IntKind.u64.wrap ((IntKind.u64.wrap ((a0 / 4294967296) * (Go.bits .and .u64 a1 4294967295))) + ((IntKind.u64.wrap ((Go.bits .and .u64 a0 4294967295) * (Go.bits .and .u64 a1 4294967295))) / 4294967296))) 4294967295) + (IntKind.u64.wrap ((Go.bits .and .u64 a0 4294967295) * (a1 / 4294967296))))) / 4294967296)), IntKind.u64.wrap (a0 * a1))) = some (r1, r2) := h
 clear h
 simp only [Option.some.injEq, Prod.mk.injEq] at H
 obtain ⟨rfl, rfl⟩ := H
 go_enter Tryd.func84, Tryd.ntmps84
 go_wp2
 go_ret2
 exact ⟨by first | rfl | (simp; done) | (simp [*]; done), by repeat (first | exact Drawn0.refl _ | apply Drawn0.step)⟩

end Go.Proofs.YtkbgfaeohmnjpaaDoor.P

-- printed by xprint.py
namespace Go.Proofs.YtkbgfaeohmnjpaaDoor.P
open Go.RowKit Go.Proofs.YtkbgfaeohmnjpaaDoorW.PrintWords Go.Proofs.YtkbgfaeohmnjpaaDoorW.PrintLast Go.Proofs.YtkbgfaeohmnjpaaDoorW.PrintMore
attribute [local go_sem] max2_int min2_int max_two min_two max_three min_three max_four min_four   -- for this text's walks alone
set_option linter.unusedVariables false
set_option linter.unusedSimpArgs false

/-! ### bits_Mul: function 72 -/
def bits_Mul.f (a0 : Int) (a1 : Int) : Option (Int × Int) := (bits_Mul64.f a0 a1).bind fun bt101 => (some (bt101.1, bt101.2))
set_option maxHeartbeats 8000000 in
set_option maxRecDepth 100000 in
theorem bits_Mul.calls (a0 : Int) (a1 : Int) (r1 : Int) (r2 : Int) (w : World) (h : bits_Mul.f a0 a1 = some (r1, r2)) :
  Calls Tryd.prog 72 #[.int .u64 a0, .int .u64 a1] w fun e w' => e = .returned (.tuple #[.int .u64 r1, .int .u64 r2]) ∧ Drawn0 w w' := by
 have H : ((bits_Mul64.f a0 a1).bind fun bt101 => (some (bt101.1, bt101.2))) = some (r1, r2) := h
 clear h
 replace H := Option.bind_eq_some_iff.mp H
 obtain ⟨⟨t101, t102⟩, A30, H⟩ := H
 replace H : (some (t101, t102)) = some (r1, r2) := H
 have A3 := Aside0.mk A30
 clear A30
 simp only [Option.some.injEq, Prod.mk.injEq] at H
 obtain ⟨rfl, rfl⟩ := H
 go_enter Tryd.func72, Tryd.ntmps72
 go_wp2_with (first | ((with_reducible refine gate_callee (f := 84) rfl ?_); refine goesL_ (some 25) rfl rfl Tryd.func84 (by kernel_rfl) rfl #[.int .u64 a0, .int .u64 a1] rfl (by (try simp only [List.map_toArray, List.map_cons, List.map_nil]); first | done | rfl | (simp only [List.length_drop, List.length_take]; rfl)) ?_; (with_reducible refine (bits_Mul64.calls a0 a1 t101 t102 _ A3.out).mono ?_); rintro e w' ⟨rfl, ⟨nd, rfl⟩⟩; refine ⟨_, rfl, ?_⟩))
 go_ret2
 exact ⟨by first | rfl | (simp; done) | (simp [*]; done), by repeat (first | exact Drawn0.refl _ | apply Drawn0.step)⟩

end Go.Proofs.YtkbgfaeohmnjpaaDoor.P

-- printed by xprint.py
namespace Go.Proofs.YtkbgfaeohmnjpaaDoor.P
open Go.RowKit Go.Proofs.YtkbgfaeohmnjpaaDoorW.PrintWords Go.Proofs.YtkbgfaeohmnjpaaDoorW.PrintLast Go.Proofs.YtkbgfaeohmnjpaaDoorW.PrintMore
attribute [local go_sem] max2_int min2_int max_two min_two max_three min_three max_four min_four   -- for this text's walks alone
set_option linter.unusedVariables false
set_option linter.unusedSimpArgs false

/-! ### slices_Repeat_int_int: function 58 -/
def slices_Repeat_int_int.f (l0 : List Int) (a1 : Int) : Option (List Int) := match l0 with | [x] => if a1 = 10 then some (List.replicate 10 x) else none | _ => none
/-- Ten cells, the first n of them filled. -/
def repRow (x : Int) (n : Nat) : List Value := List.replicate n (.int .i64 x) ++ List.replicate (10 - n) (.int .i64 0)
theorem repRow_len (x : Int) (n : Nat) (h : n ≤ 10) : (repRow x n).length = 10 := by simp [repRow]; omega
theorem repRow_splice (x : Int) (n m : Nat) (h : n + m ≤ 10) : splice (repRow x n) n (List.replicate m (.int .i64 x)) = repRow x (n + m) := by
 unfold splice repRow
 rw [List.take_append_of_le_length (by simp), List.take_of_length_le (by simp), List.length_replicate, List.drop_append, List.drop_of_length_le (by simp), List.nil_append, List.length_replicate, List.drop_replicate, ← List.append_assoc, List.replicate_append_replicate]
 congr 2
 omega
theorem reps_rep (w : World) (base : Nat) (ok : Nat → Prop) (x : Int) : ∀ n, Reps ((Kd.int .i64).M w base ok) 1 (List.replicate n x) (List.replicate n (.int .i64 x))
 | 0 => Reps.none _ _
 | n + 1 => Reps.one rfl (reps_rep w base ok x n)
theorem made_zero (x : Int) : madeCells (Value.int IntKind.i64 0).cells (Int.toNat 10 * 1) = (repRow x 0).toArray := by
 apply Array.toList_inj.1
 unfold madeCells
 rw [Array.toList_map, Array.toList_range]
 rfl
theorem rep_copy (x : Int) (P : Program) (dT e : TypeId) (hu : P.underlying dT = some (.slice e)) (hs : (P.info? e).map (·.size) = some 1) (ty : TypeId) (w2 : World) (g n m dL sLen sCap : Nat) (ad : Addr) (hdL : dL = 10 - n) (hm : m = Nat.min sLen (10 - n)) (hg : w2.heap[g]? = some (.cells (repRow x n).toArray e (0, 0)))
  (hsrc : ∀ j, j < m → w2.cell? (ad.add j) = some (.int .i64 x)) (h : n + m ≤ 10) :
  (Builtin.copy_ #[dT, dT] ty #[.slice (some ⟨g, n, none⟩) dL dL, .slice (some ad) sLen sCap]).run P w2 = .ok (.int .i64 m) (w2.setRow g (repRow x (n + m)).toArray) := by
 subst hdL
 have := run_copy_row (P := P) w2 dT dT ty e g n (10 - n) (10 - n) ad sLen sCap (repRow x n).toArray e (List.replicate m (.int .i64 x)) hu hs hg (by rw [List.length_replicate]; exact hm)
  (fun j v hj => by
   have hlt : j < m := by have := (List.getElem?_eq_some_iff.1 hj).1; simpa using this
   rw [List.getElem?_replicate, if_pos hlt] at hj
   rw [← hj]; exact hsrc j hlt)
  (by simp [repRow_len x n (by omega)]; omega) (by intro v hv; rw [List.eq_of_mem_replicate hv]; rfl)
 rw [this, List.length_replicate]
 have e1 := repRow_splice x n m h
 unfold splice at e1
 rw [List.length_replicate] at e1
 rw [show (repRow x n).toArray.toList = repRow x n from rfl, List.append_assoc, e1]
 rfl
theorem rep_src (x : Int) (w2 : World) (g n : Nat) (e : TypeId) (hn : n ≤ 10) (hg : w2.heap[g]? = some (.cells (repRow x n).toArray e (0, 0))) (j : Nat) (hj : j < n) : w2.cell? (Addr.add ⟨g, 0, none⟩ j) = some (.int .i64 x) := by
 have h1 : (repRow x n).toArray[j]? = some (.int .i64 x) := by
  rw [List.getElem?_toArray, repRow, List.getElem?_append_left (by simpa using hj), List.getElem?_replicate, if_pos hj]
 by_cases h0 : j = 0
 ·
  subst h0; rw [show (Addr.add ⟨g, 0, none⟩ 0) = ⟨g, 0, none⟩ from rfl]; simp only [World.cell?, hg]; simpa using h1
 ·
  simp only [World.cell?, Addr.add, hg, if_neg h0, Nat.zero_add]; simpa using h1
set_option maxHeartbeats 8000000 in
set_option maxRecDepth 100000 in
theorem slices_Repeat_int_int.calls (A0 : Option Addr) (c0 : Nat) (l0 : List Int) (a1 : Int) (r : List Int) (w : World) (hr0 : Kd.C (Kd.int .i64) w A0 l0.length l0) (hc0 : l0.length ≤ c0) (h : slices_Repeat_int_int.f l0 a1 = some r) :
  Calls Tryd.prog 58 #[.slice A0 l0.length c0, .int .i64 a1] w fun e w' => ∃ v0_ : Value, e = .returned (v0_) ∧ Kd.R (Kd.int .i64) 3 w' w.heap.size (fun _ => True) v0_ r ∧ Below w.heap.size w w' := by
 match l0, h with
 | [x], h =>
  by_cases e10 : a1 = 10
  ·
   subst e10
   obtain rfl : List.replicate 10 x = r := Option.some.inj h
   clear h
   obtain ⟨ad, c, rfl, hcs, hk, hcell⟩ := Kd.C_get hr0 0 0 (by omega) (by simp)
   have HM := Aside0.mk (bits_Mul.calls 1 10 0 10)
   obtain ⟨i3, hi3, hz3⟩ := Option.map_eq_some_iff.1 info3
   simp only [Prod.mk.injEq] at hz3
   have hmk : ∀ w2 : World, (Instr.makeSlice 22 (.int .i64 10) (.int .i64 10)).run Tryd.prog w2 = .ok (.slice (some ⟨w2.heap.size, 0, none⟩) 10 10) (w2.alloc (.cells (repRow x 0).toArray 3)) := fun w2 => by
    rw [run_makeSlice (w := w2) _ _ i3 _ Tryd.underlying22 hi3 hz3.1 .i64 .i64 10 10 (by omega) (by omega) (by rw [hz3.2.1]; decide) (by rw [hz3.2.2]; decide) (by omega), hz3.2.1]
    have e0 : madeCells (Value.int IntKind.i64 0).cells (Int.toNat 10 * 1) = (repRow x 0).toArray := made_zero x
    rw [e0]; rfl
   have XC := Aside0.mk (And.intro hcs (And.intro hk hcell))
   clear hi3 hz3 hcs hk hcell hr0 hc0
   go_enter Tryd.func58, Tryd.ntmps58
   go_wp2_with fail
   refine (HM.out _ (by decide +kernel)).mono ?_
   rintro e w' ⟨rfl, ⟨n1, rfl⟩⟩
   have HB0 := Aside0.mk ((pw_below_drewN (Below.refl w.heap.size w) n1).alloc (Nat.le_refl _) (.cells (repRow x 0).toArray 3))
   have HG0 := Aside0.mk (show ((w.drewN n1).alloc (.cells (repRow x 0).toArray 3)).heap[w.heap.size]? = some (.cells (repRow x 0).toArray 3 (0, 0)) by simp [World.alloc, World.drewN])
   have hsz : (Tryd.prog.info? 3).map (·.size) = some 1 := by have h := info3; cases hq : Tryd.prog.info? 3 with | none => rw [hq] at h; cases h | some i => rw [hq] at h; simp at h; simp [h.2.1]
   have SRC := Aside0.mk (show ∀ j, j < 1 → ((w.drewN n1).alloc (.cells (repRow x 0).toArray 3)).cell? (ad.add j) = some (.int .i64 x) by
    obtain ⟨hcs, hk, hcell⟩ := XC.out
    have e : c = [.int .i64 x] := hk
    intro j hj
    have h1 := hcell j (.int .i64 x) (by rw [e, show j = 0 by omega]; rfl)
    rw [show (0 : Int).toNat * (Kd.int .i64).sz + j = j by simp] at h1
    exact (HB0.out.cell (World.block_lt_of_cell? w _ h1)).trans h1)
   have HSZ := Aside0.mk hsz
   clear hsz
   have hcp := rep_copy x Tryd.prog 22 3 Tryd.underlying22 HSZ.out 3 _ w.heap.size 0 1 10 1 c0 ad rfl rfl HG0.out SRC.out (by omega)
   have HB1 := Aside0.mk (below_setRow HB0.out (Nat.le_refl _) (repRow x (0 + 1)).toArray)
   have HG1 := Aside0.mk (setRow_heap _ w.heap.size _ (repRow x (0 + 1)).toArray _ _ HG0.out)
   generalize hw2 : ((w.drewN n1).alloc (.cells (repRow x 0).toArray 3)).setRow w.heap.size (repRow x (0 + 1)).toArray = w2 at hcp HB1 HG1
   clear hw2
   have HN := Aside0.mk (And.intro HG1.out HB1.out)
   clear HB0 HG0 SRC HB1 HG1
   go_wp2_with fail
   clear hcp hmk
   go_loopg [8] 10 (fun gg v8 w' => ∃ (x8 : Int), v8 = .int .i64 x8 ∧ Aside0 ((x8 = 1 ∨ x8 = 2 ∨ x8 = 4 ∨ x8 = 8 ∨ x8 = 10) ∧ 10 - x8.toNat ≤ gg ∧ w'.heap[w.heap.size]? = some (.cells (repRow x x8.toNat).toArray 3 (0, 0)) ∧ Below w.heap.size w w'))
   case atStart => exact ⟨1, rfl, ⟨.inl rfl, by decide, HN.out.1, HN.out.2⟩⟩
   case round =>
    obtain ⟨n, rfl, ⟨hn, hg, hrow, hbel⟩⟩ := hrel
    rcases hn with rfl | rfl | rfl | rfl | rfl
    all_goals (have HX := Aside0.mk (And.intro hrow hbel); have HGG := Aside0.mk hg; clear hrow hbel hg)
    ·
     have hcp := rep_copy x Tryd.prog 22 3 Tryd.underlying22 HSZ.out 3 wr.drew w.heap.size 1 1 9 1 10 ⟨w.heap.size, 0, none⟩ rfl rfl HX.out.1 (fun j hj => rep_src x _ _ 1 _ (by omega) HX.out.1 j (by omega)) (by omega)
     have HB2 := Aside0.mk (below_setRow (HX.out.2.trans (below_drew1 (Below.refl _ wr))) (Nat.le_refl _) (repRow x (1 + 1)).toArray)
     have HG2 := Aside0.mk (setRow_heap wr.drew w.heap.size _ (repRow x (1 + 1)).toArray _ _ HX.out.1)
     generalize hw2 : wr.drew.setRow w.heap.size (repRow x (1 + 1)).toArray = w2 at hcp HB2 HG2
     clear hw2
     go_wp2_with fail
     go_region_with fail
     all_goals (go_wp2_with fail; go_roundg (10 - 2))
     case measure => have := HGG.out; omega
     case rel => exact ⟨2, rfl, ⟨by decide, Nat.le_refl _, HG2.out, HB2.out⟩⟩
    ·
     have hcp := rep_copy x Tryd.prog 22 3 Tryd.underlying22 HSZ.out 3 wr.drew w.heap.size 2 2 8 2 10 ⟨w.heap.size, 0, none⟩ rfl rfl HX.out.1 (fun j hj => rep_src x _ _ 2 _ (by omega) HX.out.1 j (by omega)) (by omega)
     have HB2 := Aside0.mk (below_setRow (HX.out.2.trans (below_drew1 (Below.refl _ wr))) (Nat.le_refl _) (repRow x (2 + 2)).toArray)
     have HG2 := Aside0.mk (setRow_heap wr.drew w.heap.size _ (repRow x (2 + 2)).toArray _ _ HX.out.1)
     generalize hw2 : wr.drew.setRow w.heap.size (repRow x (2 + 2)).toArray = w2 at hcp HB2 HG2
     clear hw2
     go_wp2_with fail
     go_region_with fail
     all_goals (go_wp2_with fail; go_roundg (10 - 4))
     case measure => have := HGG.out; omega
     case rel => exact ⟨4, rfl, ⟨by decide, Nat.le_refl _, HG2.out, HB2.out⟩⟩
    ·
     have hcp := rep_copy x Tryd.prog 22 3 Tryd.underlying22 HSZ.out 3 wr.drew w.heap.size 4 4 6 4 10 ⟨w.heap.size, 0, none⟩ rfl rfl HX.out.1 (fun j hj => rep_src x _ _ 4 _ (by omega) HX.out.1 j (by omega)) (by omega)
     have HB2 := Aside0.mk (below_setRow (HX.out.2.trans (below_drew1 (Below.refl _ wr))) (Nat.le_refl _) (repRow x (4 + 4)).toArray)
     have HG2 := Aside0.mk (setRow_heap wr.drew w.heap.size _ (repRow x (4 + 4)).toArray _ _ HX.out.1)
     generalize hw2 : wr.drew.setRow w.heap.size (repRow x (4 + 4)).toArray = w2 at hcp HB2 HG2
     clear hw2
     go_wp2_with fail
     go_region_with fail
     all_goals (go_wp2_with fail; go_roundg (10 - 8))
     case measure => have := HGG.out; omega
     case rel => exact ⟨8, rfl, ⟨by decide, Nat.le_refl _, HG2.out, HB2.out⟩⟩
    ·
     have hcp := rep_copy x Tryd.prog 22 3 Tryd.underlying22 HSZ.out 3 wr.drew w.heap.size 8 2 2 8 10 ⟨w.heap.size, 0, none⟩ rfl rfl HX.out.1 (fun j hj => rep_src x _ _ 8 _ (by omega) HX.out.1 j (by omega)) (by omega)
     have HB2 := Aside0.mk (below_setRow (HX.out.2.trans (below_drew1 (Below.refl _ wr))) (Nat.le_refl _) (repRow x (8 + 2)).toArray)
     have HG2 := Aside0.mk (setRow_heap wr.drew w.heap.size _ (repRow x (8 + 2)).toArray _ _ HX.out.1)
     generalize hw2 : wr.drew.setRow w.heap.size (repRow x (8 + 2)).toArray = w2 at hcp HB2 HG2
     clear hw2
     go_wp2_with fail
     go_region_with fail
     all_goals (go_wp2_with fail; go_roundg (10 - 10))
     case measure => have := HGG.out; omega
     case rel => exact ⟨10, rfl, ⟨by decide, Nat.le_refl _, HG2.out, HB2.out⟩⟩
    ·
     go_wp2_with fail
     go_ret
     refine ⟨_, rfl, ⟨fun _ _ => trivial, List.replicate 10 (.int .i64 x), ⟨by simp [Kd.int, Kd.scalar], .inr ⟨w.heap.size, 10, _, rfl, Nat.le_refl _, HX.out.1, by simp, by decide, rfl, rfl⟩⟩, reps_rep _ _ _ _ _⟩, HX.out.2⟩
  ·
   rw [slices_Repeat_int_int.f, if_neg e10] at h; cases h
 | [], h => cases h
 | _ :: _ :: _, h => cases h

end Go.Proofs.YtkbgfaeohmnjpaaDoor.P

-- printed by xprint.py
namespace Go.Proofs.YtkbgfaeohmnjpaaDoor.P
open Go.RowKit Go.Proofs.YtkbgfaeohmnjpaaDoorW.PrintWords Go.Proofs.YtkbgfaeohmnjpaaDoorW.PrintLast Go.Proofs.YtkbgfaeohmnjpaaDoorW.PrintMore
attribute [local go_sem] max2_int min2_int max_two min_two max_three min_three max_four min_four   -- for this text's walks alone
set_option linter.unusedVariables false
set_option linter.unusedSimpArgs false

/-! ### impl_stepsTo: function 34 -/
mutual
def impl_stepsTo.l0 : Nat → List Int → List (List Int) → List Int → Option (List Int)
 | 0, _, _, _ => none
 | k + 1, x5, x6, x7 => if (x7.length : Int) > 0 then (if 0 < (x7.length : Int) then (if 0 ≤ (rd x7 0) then (if (rd x7 0) < (x6.length : Int) then (impl_stepsTo.l1 k x5 x6 x7 (rd_L3 x6 (rd x7 0)) ((rd_L3 x6 (rd x7 0)).length : Int) 0) else (none)) else (none)) else (none)) else (some x5)
def impl_stepsTo.l1 : Nat → List Int → List (List Int) → List Int → List Int → Int → Int → Option (List Int)
 | 0, _, _, _, _, _, _ => none
 | k + 1, x5, x6, x7, x29, x30, x31 => if x31 < x30 then (if 0 ≤ x31 then (if x31 < (x29.length : Int) then (if 0 ≤ (rd x29 x31) then (if (rd x29 x31) < (x5.length : Int) then (if (rd x5 (rd x29 x31)) < 0 then (if 0 < (x7.length : Int) then (if 0 ≤ (rd x7 0) then (if (rd x7 0) < (x5.length : Int) then (if x7.length < 17592186044416 then (impl_stepsTo.l1 k (x5.set ((rd x29 x31) : Int).toNat (wrap64 ((rd x5 (rd x7 0)) + 1))) x6 (x7 ++ [rd x29 x31]) x29 x30 (wrap64 (x31 + 1))) else (none)) else (none)) else (none)) else (none)) else (impl_stepsTo.l1 k x5 x6 x7 x29 x30 (wrap64 (x31 + 1)))) else (none)) else (none)) else (none)) else (none)) else (if 1 ≤ (x7.length : Int) then (impl_stepsTo.l0 k x5 x6 (x7.drop (1 : Int).toNat)) else (none))
end
def impl_stepsTo.f (k : Nat) (a0 : ByteArray) (a1 : Int) : Option (List Int) := (slices_Repeat_int_int.f (([(-1)] : List Int)) 10).bind fun t104 => ((impl_moves.f k a0).bind fun t107 => (if 0 ≤ a1 then (if a1 < (t104.length : Int) then (impl_stepsTo.l0 k (t104.set (a1 : Int).toNat 0) t107 (([a1] : List Int))) else (none)) else (none)))
theorem impl_stepsTo.mono_l : ∀ k, (∀ y0 y1 y2, LeO (impl_stepsTo.l0 k y0 y1 y2) (impl_stepsTo.l0 (k + 1) y0 y1 y2)) ∧ (∀ y0 y1 y2 y3 y4 y5, LeO (impl_stepsTo.l1 k y0 y1 y2 y3 y4 y5) (impl_stepsTo.l1 (k + 1) y0 y1 y2 y3 y4 y5))
 | 0 => ⟨fun _ _ _ r h => by simp [impl_stepsTo.l0] at h, fun _ _ _ _ _ _ r h => by simp [impl_stepsTo.l1] at h⟩
 | k + 1 => by
  obtain ⟨ih0, ih1⟩ := impl_stepsTo.mono_l k
  refine ⟨?_, ?_⟩
  ·
   intro y0 y1 y2
   unfold impl_stepsTo.l0
   repeat' first
   | (with_reducible exact ih0 _ _ _)
   | (with_reducible exact ih1 _ _ _ _ _ _)
   | (with_reducible exact impl_moves.mono _ _)
   | (with_reducible exact LeO.refl _)
   | (with_reducible exact LeO.none _)
   | (with_reducible refine LeO.ite ?_ ?_)
   | (with_reducible refine LeO.bind ?_ (fun _ => ?_))
   | exact ih0 _ _ _
   | exact ih1 _ _ _ _ _ _
   | exact impl_moves.mono _ _
   | exact LeO.none _
   | refine LeO.ite ?_ ?_
   | refine LeO.bind ?_ (fun _ => ?_)
  ·
   intro y0 y1 y2 y3 y4 y5
   unfold impl_stepsTo.l1
   repeat' first
   | (with_reducible exact ih0 _ _ _)
   | (with_reducible exact ih1 _ _ _ _ _ _)
   | (with_reducible exact impl_moves.mono _ _)
   | (with_reducible exact LeO.refl _)
   | (with_reducible exact LeO.none _)
   | (with_reducible refine LeO.ite ?_ ?_)
   | (with_reducible refine LeO.bind ?_ (fun _ => ?_))
   | exact ih0 _ _ _
   | exact ih1 _ _ _ _ _ _
   | exact impl_moves.mono _ _
   | exact LeO.none _
   | refine LeO.ite ?_ ?_
   | refine LeO.bind ?_ (fun _ => ?_)
theorem impl_stepsTo.mono : ∀ a0 a1 k, LeO (impl_stepsTo.f k a0 a1) (impl_stepsTo.f (k + 1) a0 a1) := by
 intro a0 a1 k
 obtain ⟨ih0, ih1⟩ := impl_stepsTo.mono_l k
 unfold impl_stepsTo.f
 repeat' first
   | (with_reducible exact ih0 _ _ _)
   | (with_reducible exact ih1 _ _ _ _ _ _)
   | (with_reducible exact impl_moves.mono _ _)
   | (with_reducible exact LeO.refl _)
   | (with_reducible exact LeO.none _)
   | (with_reducible refine LeO.ite ?_ ?_)
   | (with_reducible refine LeO.bind ?_ (fun _ => ?_))
   | exact ih0 _ _ _
   | exact ih1 _ _ _ _ _ _
   | exact impl_moves.mono _ _
   | exact LeO.none _
   | refine LeO.ite ?_ ?_
   | refine LeO.bind ?_ (fun _ => ?_)
set_option maxHeartbeats 8000000 in
set_option maxRecDepth 100000 in
theorem impl_stepsTo.calls (k : Nat) (a0 : ByteArray) (a1 : Int) (r : List Int) (w : World) (h : impl_stepsTo.f k a0 a1 = some r) :
  Calls Tryd.prog 34 #[.string a0, .int .i64 a1] w fun e w' => ∃ v0_ : Value, e = .returned (v0_) ∧ Kd.R (Kd.int .i64) 3 w' w.heap.size (fun _ => True) v0_ r ∧ Below w.heap.size w w' := by
 have HB := Aside0.mk (Below.refl w.heap.size w)
 have H : ((slices_Repeat_int_int.f (([(-1)] : List Int)) 10).bind fun t104 => ((impl_moves.f k a0).bind fun t107 => (if 0 ≤ a1 then (if a1 < (t104.length : Int) then (impl_stepsTo.l0 k (t104.set (a1 : Int).toNat 0) t107 (([a1] : List Int))) else (none)) else (none)))) = some r := h
 clear h
 obtain ⟨y101, hy101⟩ : ∃ y_ : List Int, y_ = (([(-1)] : List Int)) := ⟨_, rfl⟩
 replace H : ((slices_Repeat_int_int.f y101 10).bind fun t104 => ((impl_moves.f k a0).bind fun t107 => (if 0 ≤ a1 then (if a1 < (t104.length : Int) then (impl_stepsTo.l0 k (t104.set (a1 : Int).toNat 0) t107 (([a1] : List Int))) else (none)) else (none)))) = some r := by first | (rw [hy101]; with_reducible exact H) | (have H2_ := (Option.bind_some _ _).symm.trans H; rw [hy101]; with_reducible exact H2_) | (have H2_ := (Option.bind_some _ _).symm.trans H; with_reducible exact H2_) | with_reducible exact H | (rw [hy101]; exact H) | exact H
 have Ny101 := Aside0.mk hy101
 clear hy101
 replace H := Option.bind_eq_some_iff.mp H
 obtain ⟨t104, A30, H⟩ := H
 replace H : ((impl_moves.f k a0).bind fun t107 => (if 0 ≤ a1 then (if a1 < (t104.length : Int) then (impl_stepsTo.l0 k (t104.set (a1 : Int).toNat 0) t107 (([a1] : List Int))) else (none)) else (none))) = some r := H
 have A3 := Aside0.mk A30
 clear A30
 replace H := Option.bind_eq_some_iff.mp H
 obtain ⟨t107, A40, H⟩ := H
 replace H : (if 0 ≤ a1 then (if a1 < (t104.length : Int) then (impl_stepsTo.l0 k (t104.set (a1 : Int).toNat 0) t107 (([a1] : List Int))) else (none)) else (none)) = some r := H
 have A4 := Aside0.mk A40
 clear A40
 by_cases c5 : 0 ≤ a1
 ·
  rw [if_pos c5] at H
  have c5b0 : decide (0 ≤ a1) = true := decide_eq_true c5
  clear c5
  by_cases c6 : a1 < (t104.length : Int)
  ·
   rw [if_pos c6] at H
   have c6b0 : decide (a1 < (t104.length : Int)) = true := decide_eq_true c6
   clear c6
   obtain ⟨y110, hy110⟩ : ∃ y_ : List Int, y_ = (t104.set (a1 : Int).toNat 0) := ⟨_, rfl⟩
   replace H : (impl_stepsTo.l0 k y110 t107 (([a1] : List Int))) = some r := by first | (rw [hy110]; with_reducible exact H) | (have H2_ := (Option.bind_some _ _).symm.trans H; rw [hy110]; with_reducible exact H2_) | (have H2_ := (Option.bind_some _ _).symm.trans H; with_reducible exact H2_) | with_reducible exact H | (rw [hy110]; exact H) | exact H
   have Ny110 := Aside0.mk hy110
   clear hy110
   obtain ⟨y111, hy111⟩ : ∃ y_ : List Int, y_ = (([a1] : List Int)) := ⟨_, rfl⟩
   replace H : (impl_stepsTo.l0 k y110 t107 y111) = some r := by first | (rw [hy111]; with_reducible exact H) | (have H2_ := (Option.bind_some _ _).symm.trans H; rw [hy111]; with_reducible exact H2_) | (have H2_ := (Option.bind_some _ _).symm.trans H; with_reducible exact H2_) | with_reducible exact H | (rw [hy111]; exact H) | exact H
   have Ny111 := Aside0.mk hy111
   clear hy111
   have H' := Aside0.mk H
   clear H
   go_enter Tryd.func34, Tryd.ntmps34
   go_wp2_with (first | ((with_reducible refine gate_dst (N := 10) rfl ?_); refine Kd.R_lit (Kd.int .i64) _ 3 ?hg (N := 10) ?hd (xs := ([(-1)] : List Int)) (inner := [.int .i64 (-1)]) (ok := fun _ => True) (okp := fun _ => True) ?hr ?hp (fun _ hk => hk) trivial (Below.refl _ _) (Nat.le_refl _) (by simp) ?_; (case hd => rfl); (case hg => rfl); (case hr => first | (go_simp; done) | (go_simp; rfl)); (case hp => exact (Reps.one (show Kd.M (Kd.int .i64) _ _ _ (-1) [.int .i64 (-1)] from rfl) (Reps.none _ _))); intro v102 w8 ho9 hb hg_ hnew_; clear hg_ hnew_; (first | rw [← Ny101.out] at ho9 | (simp only [Int.reduceToNat] at ho9; rw [← Ny101.out] at ho9)); have n0_ := Aside0.mk (Kd.R_lower ho9 (below_size (by repeat (first | (with_reducible first | exact HB.out | apply below_alloc | apply pw_below_drewN | apply below_drew1) | exact HB.out)))); have n1_ := Aside0.mk (below_step (by repeat (first | (with_reducible first | exact HB.out | apply below_alloc | apply pw_below_drewN | apply below_drew1) | exact HB.out)) hb); clear HB; have HO103 := n0_; have HB := n1_; clear n0_ n1_; clear hb ho9; obtain ⟨Ao10, co10, eo10⟩ := Kd.R_slice HO103.out; subst eo10) | ((with_reducible refine gate_callee (f := 58) rfl ?_); refine goesL_ (some 11) rfl rfl Tryd.func58 (by kernel_rfl) rfl #[.slice Ao10 y101.length co10, .int .i64 10] rfl (by (try simp only [List.map_toArray, List.map_cons, List.map_nil]); first | done | rfl | (simp only [List.length_drop, List.length_take]; rfl)) ?_; (with_reducible refine (slices_Repeat_int_int.calls _ _ y101 10 t104 _ ?side1 ?side2 A3.out).mono ?_); (case side1 => repeat (first | exact (Kd.R_reads' HO103.out).2.2 | (with_reducible refine Kd.C_alloc ?_ _) | (with_reducible refine Kd.C_drewN ?_ _) | (with_reducible refine Kd.C_drew ?_))); (case side2 => exact (Kd.R_reads' HO103.out).2.1); rintro e w11 ⟨v105, rfl, ho0, hb⟩; refine ⟨_, rfl, ?_⟩; have n0_ := Aside0.mk (Kd.R_elder' (by (with_reducible repeat (first | apply Kd.R_alloc | apply Kd.R_drewN | apply Kd.R_drew)); exact HO103.out) (Kd.R_base ho0) hb); have n1_ := Aside0.mk (Kd.R_lower (Kd.R_new' ho0 (Kd.R_lt (by (with_reducible repeat (first | apply Kd.R_alloc | apply Kd.R_drewN | apply Kd.R_drew)); exact HO103.out))) (below_size (by repeat (first | (with_reducible first | exact HB.out | apply below_alloc | apply pw_below_drewN | apply below_drew1) | exact HB.out)))); have n2_ := Aside0.mk (below_step (by repeat (first | (with_reducible first | exact HB.out | apply below_alloc | apply pw_below_drewN | apply below_drew1) | exact HB.out)) hb); clear HO103; clear HB; have HO103 := n0_; have HO106 := n1_; have HB := n2_; clear n0_ n1_ n2_; (try clear hb); (try clear hb2); (try clear hk); (try clear hi); (try clear ho0)) | ((with_reducible refine gate_callee (f := 47) rfl ?_); refine goesL_ (some 13) rfl rfl Tryd.func47 (by kernel_rfl) rfl #[.string a0] rfl (by (try simp only [List.map_toArray, List.map_cons, List.map_nil]); first | done | rfl | (simp only [List.length_drop, List.length_take]; rfl)) ?_; (with_reducible refine (impl_moves.calls k a0 t107 _ A4.out).mono ?_); rintro e w12 ⟨v108, rfl, ho0, hb⟩; refine ⟨_, rfl, ?_⟩; have n0_ := Aside0.mk (Kd.R_below (by (with_reducible repeat (first | apply Kd.R_alloc | apply Kd.R_drewN | apply Kd.R_drew)); exact HO103.out) hb); have n1_ := Aside0.mk (Kd.R_below (by (with_reducible repeat (first | apply Kd.R_alloc | apply Kd.R_drewN | apply Kd.R_drew)); exact HO106.out) hb); have n2_ := Aside0.mk (Kd.S_lower (Kd.S_new' (Kd.S_new' ho0 (Kd.R_lt (by (with_reducible repeat (first | apply Kd.R_alloc | apply Kd.R_drewN | apply Kd.R_drew)); exact HO103.out))) (Kd.R_lt (by (with_reducible repeat (first | apply Kd.R_alloc | apply Kd.R_drewN | apply Kd.R_drew)); exact HO106.out))) (below_size (by repeat (first | (with_reducible first | exact HB.out | apply below_alloc | apply pw_below_drewN | apply below_drew1) | exact HB.out)))); have n3_ := Aside0.mk (below_step (by repeat (first | (with_reducible first | exact HB.out | apply below_alloc | apply pw_below_drewN | apply below_drew1) | exact HB.out)) hb); clear HO103; clear HO106; clear HB; have HO103 := n0_; have HO106 := n1_; have HO109 := n2_; have HB := n3_; clear n0_ n1_ n2_ n3_; (try clear hb); (try clear hb2); (try clear hk); (try clear hi); (try clear ho0); have p7 : 0 ≤ (a1 : Int) := of_decide_eq_true (by first | (with_reducible assumption) | assumption); have q7 : (a1 : Int) < ((t104.length : Int) : Int) := of_decide_eq_true (by first | (with_reducible assumption) | assumption); obtain ⟨go7, co7, eo7, gb7, gl7, cl7, HG7⟩ := Kd.R_form HO106.out (by omega); (first | cases eo7 | (injection eo7 with ea_ en_ ec_; (first | subst ea_ | (injection ea_ with ea_; subst ea_)); subst ec_; clear en_)); have GB7 := Aside0.mk gb7; have GG7 := Aside0.mk HG7; clear gb7 gl7 HG7; obtain ⟨hx7_0, hf7_0⟩ := Kd.R_celln 0 HO106.out (a1 : Int) p7 q7; replace p7 := eq_true p7; replace q7 := eq_true q7; have n_ := Aside0.mk (Kd.R_mono (ok' := (fun k_ => some k_ ≠ (.slice Ao10 y101.length co10 : Value).ownBlock)) HO106.out (fun k_ hk => hk.2)); clear HO106; have HO106 := n_; clear n_; obtain ⟨hy13_, hz13_⟩ := Kd.R_celln 0 HO106.out (a1 : Int) (of_decide_eq_true (by first | (with_reducible assumption) | assumption)) (of_decide_eq_true (by first | (with_reducible assumption) | assumption)); have HP13 := Kd.R_putg HO106.out (a1 : Int) 0) | ((with_reducible refine gate_store (t := 3) (p := 16) rfl ?_); refine store_event (t := 3) (p := 16) (v := ?vo_w14) (w1 := (w12.setCell ⟨go7, (a1 : Int).toNat, none⟩ (.int .i64 0))) ?hg ?ho ?hn ?hr ?_; (case ho => rfl); (case hg => rfl); (case hn => rfl); (case hr => first | (go_simp; done) | (go_simp; rfl)); intro w14 hw; have hg : w12.grownBy w14 (some go7) := (by rw [hw]; exact HP13.2); have hp_ : Kd.R (Kd.int .i64) 3 w14 w.heap.size (fun k_ => some k_ ≠ (.slice Ao10 y101.length co10 : Value).ownBlock) (.slice (some ⟨go7, 0, none⟩) t104.length co7) y110 := (by rw [hw, Ny110.out]; exact HP13.1); clear HP13; have n0_ := Aside0.mk (Kd.R_after (v := (.slice (some ⟨go7, 0, none⟩) t104.length co7)) (v1 := (.slice (some ⟨go7, 0, none⟩) t104.length co7)) (ok := (fun _ => True)) (by (with_reducible repeat (first | apply Kd.R_alloc | apply Kd.R_drewN | apply Kd.R_drew)); exact HO103.out) hg (.inl rfl)); have n1_ := Aside0.mk (hp_); have n2_ := Aside0.mk (Kd.S_after (v := (.slice (some ⟨go7, 0, none⟩) t104.length co7)) (v1 := (.slice (some ⟨go7, 0, none⟩) t104.length co7)) (ok := (fun k_ => some k_ ≠ (.slice Ao10 y101.length co10 : Value).ownBlock)) (by (with_reducible repeat (first | apply Kd.S_alloc | apply Kd.S_drewN | apply Kd.S_drew)); exact Kd.S_mono HO109.out (fun _ hk => ⟨hk.1.2, hk.2⟩)) hg (.inl rfl)); have n3_ := Aside0.mk ((by rw [hw]; exact below_set (HB.out) GB7.out : Below w.heap.size w w14)); clear HO103; clear HO106; clear HO109; clear HB; have HO103 := n0_; have HO106 := n1_; have HO109 := n2_; have HB := n3_; clear n0_ n1_ n2_ n3_; clear hg hw hp_) | ((with_reducible refine gate_dst (N := 18) rfl ?_); refine Kd.R_lit (Kd.int .i64) _ 3 ?hg (N := 18) ?hd (xs := ([a1] : List Int)) (inner := [.int .i64 a1]) (ok := fun _ => True) (okp := fun _ => True) ?hr ?hp (fun _ hk => hk) trivial (Below.refl _ _) (Nat.le_refl _) (by simp) ?_; (case hd => rfl); (case hg => rfl); (case hr => first | (go_simp; done) | (go_simp; rfl)); (case hp => exact (Reps.one (show Kd.M (Kd.int .i64) _ _ _ a1 [.int .i64 a1] from rfl) (Reps.none _ _))); intro v112 w15 ho16 hb hg_ hnew_; clear hg_ hnew_; (first | rw [← Ny111.out] at ho16 | (simp only [Int.reduceToNat] at ho16; rw [← Ny111.out] at ho16)); have n0_ := Aside0.mk (Kd.R_elder' (by (with_reducible repeat (first | apply Kd.R_alloc | apply Kd.R_drewN | apply Kd.R_drew)); exact HO103.out) (Kd.R_base ho16) hb); have n1_ := Aside0.mk (Kd.R_elder' (by (with_reducible repeat (first | apply Kd.R_alloc | apply Kd.R_drewN | apply Kd.R_drew)); exact HO106.out) (Kd.R_base ho16) hb); have n2_ := Aside0.mk (Kd.S_elder' (by (with_reducible repeat (first | apply Kd.S_alloc | apply Kd.S_drewN | apply Kd.S_drew)); exact HO109.out) (Kd.R_base ho16) hb); have n3_ := Aside0.mk (Kd.R_lower (Kd.R_new' (Kd.R_new' ho16 (Kd.R_lt (by (with_reducible repeat (first | apply Kd.R_alloc | apply Kd.R_drewN | apply Kd.R_drew)); exact HO103.out))) (Kd.R_lt (by (with_reducible repeat (first | apply Kd.R_alloc | apply Kd.R_drewN | apply Kd.R_drew)); exact HO106.out))) (below_size (by repeat (first | (with_reducible first | exact HB.out | apply below_alloc | apply pw_below_drewN | apply below_drew1) | exact HB.out)))); have n4_ := Aside0.mk (below_step (by repeat (first | (with_reducible first | exact HB.out | apply below_alloc | apply pw_below_drewN | apply below_drew1) | exact HB.out)) hb); clear HO103; clear HO106; clear HO109; clear HB; have HO103 := n0_; have HO106 := n1_; have HO109 := n2_; have HO113 := n3_; have HB := n4_; clear n0_ n1_ n2_ n3_ n4_; clear hb ho16))
   go_loopg [7] k (fun kq v7 w' => ∃ (x5_1 : List Int) (x7_1 : List Int), Aside0 (impl_stepsTo.l0 kq x5_1 t107 x7_1 = some r) ∧ Aside0 (kq ≤ k) ∧ Aside0 (Kd.R (Kd.int .i64) 3 w' w.heap.size (fun k_ => some k_ ≠ (v7 : Value).ownBlock) (.slice (some ⟨go7, 0, none⟩) t104.length co7) x5_1) ∧ Aside0 (Kd.S (Kd.slice 3 (Kd.int .i64)) 22 w' w.heap.size (fun k_ => some k_ ≠ ((.slice (some ⟨go7, 0, none⟩) t104.length co7) : Value).ownBlock ∧ some k_ ≠ (v7 : Value).ownBlock) v108 t107) ∧ Aside0 (Kd.Q (Kd.int .i64) 3 w' w.heap.size (fun k_ => some k_ ≠ ((.slice (some ⟨go7, 0, none⟩) t104.length co7) : Value).ownBlock) v7 x7_1) ∧ Aside0 (Below w.heap.size w w'))
   case atStart => exact ⟨(y110), (y111), H', ⟨Nat.le_refl _⟩, ⟨by (with_reducible repeat (first | apply Kd.R_alloc | apply Kd.R_drewN | apply Kd.R_drew)); exact Kd.R_mono HO106.out (fun _ hk => hk.2)⟩, ⟨by (with_reducible repeat (first | apply Kd.S_alloc | apply Kd.S_drewN | apply Kd.S_drew)); exact Kd.S_mono HO109.out (fun _ hk => ⟨hk.1.2, hk.2⟩)⟩, ⟨Kd.Q_of_R (by (with_reducible repeat (first | apply Kd.R_alloc | apply Kd.R_drewN | apply Kd.R_drew)); exact Kd.R_mono HO113.out (fun _ hk => hk.2))⟩, ⟨by repeat (first | (with_reducible first | exact HB.out | apply below_alloc | apply pw_below_drewN | apply below_drew1) | exact HB.out)⟩⟩
   case round =>
    clear H'
    try clear p2
    try clear c3
    try clear c4
    try clear c5
    try clear c5b0
    try clear c6
    try clear c6b0
    try clear p7
    try clear q7
    try clear hx7
    try clear hf7
    try clear hx7_0
    try clear p7
    try clear q7
    obtain ⟨x5_1, x7_1, HA, HK1, HO_5, HO_6, HO_7, HB⟩ := hrel
    have hl5_1 := (Kd.R_reads' HO_5.out).1
    rw [hl5_1] at HO_5
    (try simp only [hl5_1])
    (try simp only [hl5_1] at HO_6)
    (try simp only [hl5_1] at HO_7)
    cases gk with
    | zero => exact absurd HA.out (by simp [impl_stepsTo.l0])
    | succ k1 =>
     have H := HA.out
     clear HA
     simp only [impl_stepsTo.l0] at H
     by_cases c17 : (x7_1.length : Int) > 0
     ·
      rw [if_pos c17] at H
      have c17b0 : decide (0 < (x7_1.length : Int)) = true := decide_eq_true c17
      (try (have c17b0_ := c17b0; rw [hl5_1] at c17b0_))
      have c17b1 : decide (0 < x7_1.length) = true := decide_eq_true (by omega)
      clear c17
      by_cases c18 : 0 < (x7_1.length : Int)
      ·
       rw [if_pos c18] at H
       have c18b0 : decide (0 < (x7_1.length : Int)) = true := decide_eq_true c18
       (try (have c18b0_ := c18b0; rw [hl5_1] at c18b0_))
       have c18b1 : decide (0 < x7_1.length) = true := decide_eq_true (by omega)
       clear c18
       by_cases c19 : 0 ≤ (rd x7_1 0)
       ·
        rw [if_pos c19] at H
        have c19b0 : decide (0 ≤ (rd x7_1 0)) = true := decide_eq_true c19
        clear c19
        by_cases c20 : (rd x7_1 0) < (t107.length : Int)
        ·
         rw [if_pos c20] at H
         have c20b0 : decide ((rd x7_1 0) < (t107.length : Int)) = true := decide_eq_true c20
         (try (have c20b0_ := c20b0; rw [hl5_1] at c20b0_))
         clear c20
         have H' := Aside0.mk H
         clear H
         obtain ⟨Ao21, co21, eo21, _⟩ := Kd.Q_slice HO_7.out
         subst eo21
         have p114 : 0 ≤ (0 : Int) := (by omega)
         have q114 : 0 < (x7_1.length : Int) := of_decide_eq_true (by first | (with_reducible assumption) | assumption)
         obtain ⟨ad114, e114, hx114_0⟩ := Kd.at_int (Kd.Q_reads' HO_7.out).2.2 0 p114 q114
         cases e114
         have qi114 : (0 < x7_1.length) = True := eq_true (by omega)
         (try rw [show ((0 : Int)).toNat = 0 from rfl] at hx114_0)
         (try rw [Addr.add_zero'] at hx114_0)
         replace p114 := eq_true p114
         replace q114 := eq_true q114
         obtain ⟨Ao22, co22, eo22⟩ := Kd.S_slice HO_6.out
         subst eo22
         have p115 : 0 ≤ ((rd x7_1 0) : Int) := of_decide_eq_true (by first | (with_reducible assumption) | assumption)
         have q115 : (rd x7_1 0) < (t107.length : Int) := of_decide_eq_true (by first | (with_reducible assumption) | assumption)
         obtain ⟨ad115, A115_0, c115_0, e115, hx115_0, hl115_0, hi115_0⟩ := at_L3 (Kd.S_reads' HO_6.out).2.2 (rd x7_1 0) p115 q115
         cases e115
         obtain ⟨ce115, hce115, hMe115, hcc115⟩ := Kd.S_get HO_6.out [] (rd x7_1 0) p115 (by first | exact q115 | exact of_decide_eq_true (by first | (with_reducible assumption) | assumption) | (have e_ := (Kd.S_reads' HO_6.out).1; omega))
         obtain ⟨ve115_0, rfl, ge115_0⟩ := hMe115
         have hv115_0 := hcc115 0 _ rfl
         rw [Nat.add_zero, show ((Kd.slice 3 (Kd.int .i64))).sz = 1 from rfl, Nat.mul_one] at hv115_0
         replace hv115_0 := Option.some.inj (hv115_0.symm.trans hx115_0)
         rw [hv115_0] at ge115_0
         have HL115_0 := Aside0.mk (show Kd.R (Kd.int .i64) 3 _ _ _ _ (rd_L3 t107 (rd x7_1 0)) from ge115_0)
         clear hv115_0 ge115_0
         clear hcc115 hce115
         have HR115_0 := Aside0.mk hi115_0
         have HC115_0 := Aside0.mk hl115_0
         clear hi115_0 hl115_0
         replace p115 := eq_true p115
         replace q115 := eq_true q115
         go_wp2
         go_loopg [7, 31] k1 (fun kq v7 v31 w' => ∃ (x5_2 : List Int) (x7_2 : List Int) (x31_2 : Int), v31 = .int .i64 x31_2 ∧ Aside0 (impl_stepsTo.l1 kq x5_2 t107 x7_2 (rd_L3 t107 (rd x7_1 0)) ((rd_L3 t107 (rd x7_1 0)).length : Int) x31_2 = some r) ∧ Aside0 (kq ≤ k1) ∧ Aside0 (Kd.R (Kd.int .i64) 3 w' w.heap.size (fun k_ => some k_ ≠ (v7 : Value).ownBlock) (.slice (some ⟨go7, 0, none⟩) x5_1.length co7) x5_2) ∧ Aside0 (Kd.S (Kd.slice 3 (Kd.int .i64)) 22 w' w.heap.size (fun k_ => some k_ ≠ ((.slice (some ⟨go7, 0, none⟩) x5_1.length co7) : Value).ownBlock ∧ some k_ ≠ (v7 : Value).ownBlock) (.slice (some ad115) t107.length co22) t107) ∧ Aside0 (Kd.R (Kd.int .i64) 3 w' w.heap.size (fun k_ => some k_ ≠ ((.slice (some ⟨go7, 0, none⟩) x5_1.length co7) : Value).ownBlock ∧ some k_ ≠ (v7 : Value).ownBlock) (.slice A115_0 (rd_L3 t107 (rd x7_1 0)).length c115_0) (rd_L3 t107 (rd x7_1 0))) ∧ Aside0 (Kd.Q (Kd.int .i64) 3 w' w.heap.size (fun k_ => some k_ ≠ ((.slice (some ⟨go7, 0, none⟩) x5_1.length co7) : Value).ownBlock) v7 x7_2) ∧ Aside0 (Below w.heap.size w w'))
         case atStart => exact ⟨(x5_1), (x7_1), (0), (by first | rfl | (simp; done) | (simp [*]; done)), H', ⟨Nat.le_refl _⟩, ⟨by (try simp only [hl5_1]); (with_reducible repeat (first | apply Kd.R_alloc | apply Kd.R_drewN | apply Kd.R_drew)); exact HO_5.out⟩, ⟨by (try simp only [hl5_1]); (with_reducible repeat (first | apply Kd.S_alloc | apply Kd.S_drewN | apply Kd.S_drew)); exact HO_6.out⟩, ⟨by (try simp only [hl5_1]); (with_reducible repeat (first | apply Kd.R_alloc | apply Kd.R_drewN | apply Kd.R_drew)); exact Kd.R_mono HL115_0.out (fun _ hk => hk.1)⟩, ⟨by (try simp only [hl5_1]); (with_reducible repeat (first | apply Kd.Q_alloc | apply Kd.Q_drewN | apply Kd.Q_drew)); exact HO_7.out⟩, ⟨by repeat (first | (with_reducible first | exact HB.out | apply below_alloc | apply pw_below_drewN | apply below_drew1) | exact HB.out)⟩⟩
         case round =>
          clear H'
          try clear c1
          try clear p1
          try clear q1
          try clear hx1
          try clear qi1
          try clear c2
          try clear p2
          try clear c3
          try clear c4
          try clear c5
          try clear c5b0
          try clear c6
          try clear c6b0
          try clear p7
          try clear q7
          try clear hx7
          try clear hf7
          try clear c11
          try clear p11
          try clear q11
          try clear hx11
          try clear qi11
          try clear c17
          try clear c17b0
          try clear c17b1
          try clear c18
          try clear c18b0
          try clear c18b1
          try clear c19
          try clear c19b0
          try clear c20
          try clear c20b0
          try clear hx114_0
          try clear hx115_0
          try clear hx7_0
          try clear p114
          try clear p115
          try clear p2
          try clear p7
          try clear q114
          try clear q115
          try clear q7
          obtain ⟨x5_2, x7_2, x31_2, rfl, HA, HK2, HO_5, HO_6, HL115_0, HO_7, HB⟩ := hrel
          have hl5_2 := (Kd.R_reads' HO_5.out).1
          rw [hl5_2] at HO_5
          (try simp only [hl5_2])
          (try simp only [hl5_2] at HO_6)
          (try simp only [hl5_2] at HL115_0)
          (try simp only [hl5_2] at HO_7)
          cases gk with
          | zero => exact absurd HA.out (by simp [impl_stepsTo.l1])
          | succ k2 =>
           have H := HA.out
           clear HA
           simp only [impl_stepsTo.l1] at H
           by_cases c23 : x31_2 < ((rd_L3 t107 (rd x7_1 0)).length : Int)
           ·
            rw [if_pos c23] at H
            have c23b0 : decide (x31_2 < ((rd_L3 t107 (rd x7_1 0)).length : Int)) = true := decide_eq_true c23
            (try (have c23b0_ := c23b0; rw [hl5_1] at c23b0_))
            (try (have c23b0_ := c23b0; rw [hl5_2] at c23b0_))
            clear c23
            by_cases c24 : 0 ≤ x31_2
            ·
             rw [if_pos c24] at H
             have c24b0 : decide (0 ≤ x31_2) = true := decide_eq_true c24
             clear c24
             by_cases c25 : x31_2 < ((rd_L3 t107 (rd x7_1 0)).length : Int)
             ·
              rw [if_pos c25] at H
              have c25b0 : decide (x31_2 < ((rd_L3 t107 (rd x7_1 0)).length : Int)) = true := decide_eq_true c25
              (try (have c25b0_ := c25b0; rw [hl5_1] at c25b0_))
              (try (have c25b0_ := c25b0; rw [hl5_2] at c25b0_))
              clear c25
              by_cases c26 : 0 ≤ (rd (rd_L3 t107 (rd x7_1 0)) x31_2)
              ·
               rw [if_pos c26] at H
               have c26b0 : decide (0 ≤ (rd (rd_L3 t107 (rd x7_1 0)) x31_2)) = true := decide_eq_true c26
               clear c26
               by_cases c27 : (rd (rd_L3 t107 (rd x7_1 0)) x31_2) < (x5_2.length : Int)
               ·
                rw [if_pos c27] at H
                have c27b0 : decide ((rd (rd_L3 t107 (rd x7_1 0)) x31_2) < (x5_2.length : Int)) = true := decide_eq_true c27
                (try (have c27b0_ := c27b0; rw [hl5_1] at c27b0_))
                (try (have c27b0_ := c27b0; rw [hl5_2] at c27b0_))
                clear c27
                by_cases c28 : (rd x5_2 (rd (rd_L3 t107 (rd x7_1 0)) x31_2)) < 0
                ·
                 rw [if_pos c28] at H
                 have c28b0 : decide ((rd x5_2 (rd (rd_L3 t107 (rd x7_1 0)) x31_2)) < 0) = true := decide_eq_true c28
                 clear c28
                 by_cases c29 : 0 < (x7_2.length : Int)
                 ·
                  rw [if_pos c29] at H
                  have c29b0 : decide (0 < (x7_2.length : Int)) = true := decide_eq_true c29
                  (try (have c29b0_ := c29b0; rw [hl5_1] at c29b0_))
                  (try (have c29b0_ := c29b0; rw [hl5_2] at c29b0_))
                  have c29b1 : decide (0 < x7_2.length) = true := decide_eq_true (by omega)
                  clear c29
                  by_cases c30 : 0 ≤ (rd x7_2 0)
                  ·
                   rw [if_pos c30] at H
                   have c30b0 : decide (0 ≤ (rd x7_2 0)) = true := decide_eq_true c30
                   clear c30
                   by_cases c31 : (rd x7_2 0) < (x5_2.length : Int)
                   ·
                    rw [if_pos c31] at H
                    have c31b0 : decide ((rd x7_2 0) < (x5_2.length : Int)) = true := decide_eq_true c31
                    (try (have c31b0_ := c31b0; rw [hl5_1] at c31b0_))
                    (try (have c31b0_ := c31b0; rw [hl5_2] at c31b0_))
                    clear c31
                    obtain ⟨y120, hy120⟩ : ∃ y_ : List Int, y_ = (x5_2.set ((rd (rd_L3 t107 (rd x7_1 0)) x31_2) : Int).toNat (wrap64 ((rd x5_2 (rd x7_2 0)) + 1))) := ⟨_, rfl⟩
                    replace H : (if x7_2.length < 17592186044416 then (impl_stepsTo.l1 k2 y120 t107 (x7_2 ++ [rd (rd_L3 t107 (rd x7_1 0)) x31_2]) (rd_L3 t107 (rd x7_1 0)) ((rd_L3 t107 (rd x7_1 0)).length : Int) (wrap64 (x31_2 + 1))) else (none)) = some r := by first | (rw [hy120]; with_reducible exact H) | (have H2_ := (Option.bind_some _ _).symm.trans H; rw [hy120]; with_reducible exact H2_) | (have H2_ := (Option.bind_some _ _).symm.trans H; with_reducible exact H2_) | with_reducible exact H | (rw [hy120]; exact H) | exact H
                    have Ny120 := Aside0.mk hy120
                    clear hy120
                    by_cases c33 : x7_2.length < 17592186044416
                    ·
                     rw [if_pos c33] at H
                     have LMc33 := Aside0.mk c33
                     clear c33
                     obtain ⟨y121, hy121⟩ : ∃ y_ : List Int, y_ = (x7_2 ++ [rd (rd_L3 t107 (rd x7_1 0)) x31_2]) := ⟨_, rfl⟩
                     replace H : (impl_stepsTo.l1 k2 y120 t107 y121 (rd_L3 t107 (rd x7_1 0)) ((rd_L3 t107 (rd x7_1 0)).length : Int) (wrap64 (x31_2 + 1))) = some r := by first | (rw [hy121]; with_reducible exact H) | (have H2_ := (Option.bind_some _ _).symm.trans H; rw [hy121]; with_reducible exact H2_) | (have H2_ := (Option.bind_some _ _).symm.trans H; with_reducible exact H2_) | with_reducible exact H | (rw [hy121]; exact H) | exact H
                     have Ny121 := Aside0.mk hy121
                     clear hy121
                     have H' := Aside0.mk H
                     clear H
                     have p116 : 0 ≤ (x31_2 : Int) := of_decide_eq_true (by first | (with_reducible assumption) | assumption)
                     have q116 : x31_2 < ((rd_L3 t107 (rd x7_1 0)).length : Int) := of_decide_eq_true (by first | (with_reducible assumption) | assumption)
                     obtain ⟨ad116, e116, hx116_0⟩ := Kd.at_int (Kd.R_reads' HL115_0.out).2.2 x31_2 p116 q116
                     cases e116
                     (try replace hx116_0 := (HB.out.cell (World.block_lt_of_cell? w _ hx116_0)).trans hx116_0)
                     replace p116 := eq_true p116
                     replace q116 := eq_true q116
                     have p117 : 0 ≤ ((rd (rd_L3 t107 (rd x7_1 0)) x31_2) : Int) := of_decide_eq_true (by first | (with_reducible assumption) | assumption)
                     have q117 : (rd (rd_L3 t107 (rd x7_1 0)) x31_2) < (x5_2.length : Int) := of_decide_eq_true (by first | (with_reducible assumption) | assumption)
                     obtain ⟨ad117, e117, hx117_0⟩ := Kd.at_int (Kd.R_reads' HO_5.out).2.2 (rd (rd_L3 t107 (rd x7_1 0)) x31_2) p117 q117
                     obtain rfl : (⟨go7, 0, none⟩ : Addr) = ad117 := (by injection e117)
                     (first | simp only [add_plain] at hx117_0 | simp only [add_at] at hx117_0 | simp only [Addr.add, Nat.zero_add] at hx117_0 | skip)
                     replace p117 := eq_true p117
                     replace q117 := eq_true q117
                     obtain ⟨Ao34, co34, eo34, _⟩ := Kd.Q_slice HO_7.out
                     subst eo34
                     have p118 : 0 ≤ (0 : Int) := (by omega)
                     have q118 : 0 < (x7_2.length : Int) := of_decide_eq_true (by first | (with_reducible assumption) | assumption)
                     obtain ⟨ad118, e118, hx118_0⟩ := Kd.at_int (Kd.Q_reads' HO_7.out).2.2 0 p118 q118
                     cases e118
                     have qi118 : (0 < x7_2.length) = True := eq_true (by omega)
                     (try rw [show ((0 : Int)).toNat = 0 from rfl] at hx118_0)
                     (try rw [Addr.add_zero'] at hx118_0)
                     replace p118 := eq_true p118
                     replace q118 := eq_true q118
                     have p119 : 0 ≤ ((rd x7_2 0) : Int) := of_decide_eq_true (by first | (with_reducible assumption) | assumption)
                     have q119 : (rd x7_2 0) < (x5_2.length : Int) := of_decide_eq_true (by first | (with_reducible assumption) | assumption)
                     obtain ⟨ad119, e119, hx119_0⟩ := Kd.at_int (Kd.R_reads' HO_5.out).2.2 (rd x7_2 0) p119 q119
                     obtain rfl : (⟨go7, 0, none⟩ : Addr) = ad119 := (by injection e119)
                     (first | simp only [add_plain] at hx119_0 | simp only [add_at] at hx119_0 | simp only [Addr.add, Nat.zero_add] at hx119_0 | skip)
                     replace p119 := eq_true p119
                     replace q119 := eq_true q119
                     have p32 : 0 ≤ ((rd (rd_L3 t107 (rd x7_1 0)) x31_2) : Int) := of_decide_eq_true (by first | (with_reducible assumption) | assumption)
                     have q32 : ((rd (rd_L3 t107 (rd x7_1 0)) x31_2) : Int) < ((x5_2.length : Int) : Int) := of_decide_eq_true (by first | (with_reducible assumption) | assumption)
                     obtain ⟨hx32_0, hf32_0⟩ := Kd.R_celln 0 HO_5.out ((rd (rd_L3 t107 (rd x7_1 0)) x31_2) : Int) p32 q32
                     replace p32 := eq_true p32
                     replace q32 := eq_true q32
                     have HP35 := Kd.R_putg HO_5.out ((rd (rd_L3 t107 (rd x7_1 0)) x31_2) : Int) (wrap64 ((rd x5_2 (rd x7_2 0)) + 1))
                     go_wp2_with (first | ((with_reducible refine gate_store (t := 3) (p := 49) rfl ?_); refine store_event (t := 3) (p := 49) (v := ?vo_w36) (w1 := (wr.setCell ⟨go7, ((rd (rd_L3 t107 (rd x7_1 0)) x31_2) : Int).toNat, none⟩ (.int .i64 (wrap64 ((rd x5_2 (rd x7_2 0)) + 1))))) ?hg ?ho ?hn ?hr ?_; (case ho => rfl); (case hg => rfl); (case hn => rfl); (case hr => first | (go_simp; done) | (go_simp; rfl)); intro w36 hw; have hg : wr.grownBy w36 (some go7) := (by rw [hw]; exact HP35.2); have hp_ : Kd.R (Kd.int .i64) 3 w36 w.heap.size (fun k_ => some k_ ≠ (.slice (some ad118) x7_2.length co34 : Value).ownBlock) (.slice (some ⟨go7, 0, none⟩) x5_2.length co7) y120 := (by rw [hw, Ny120.out]; exact HP35.1); clear HP35; have n0_ := Aside0.mk (hp_); have n1_ := Aside0.mk (Kd.S_after (v := (.slice (some ⟨go7, 0, none⟩) x5_2.length co7)) (v1 := (.slice (some ⟨go7, 0, none⟩) x5_2.length co7)) (ok := (fun k_ => some k_ ≠ (.slice (some ad118) x7_2.length co34 : Value).ownBlock)) (by (with_reducible repeat (first | apply Kd.S_alloc | apply Kd.S_drewN | apply Kd.S_drew)); exact Kd.S_mono HO_6.out (fun _ hk => ⟨hk.2, hk.1⟩)) hg (.inl rfl)); have nL_ := Aside0.mk (Kd.R_after (v := (.slice (some ⟨go7, 0, none⟩) x5_2.length co7)) (v1 := (.slice (some ⟨go7, 0, none⟩) x5_2.length co7)) (ok := (fun k_ => some k_ ≠ (.slice (some ad118) x7_2.length co34 : Value).ownBlock)) (by (with_reducible repeat (first | apply Kd.R_alloc | apply Kd.R_drewN | apply Kd.R_drew)); exact Kd.R_mono HL115_0.out (fun _ hk => ⟨hk.2, hk.1⟩)) hg (.inl rfl)); clear HL115_0; have HL115_0 := nL_; clear nL_; have n2_ := Aside0.mk (Kd.Q_after (v := (.slice (some ⟨go7, 0, none⟩) x5_2.length co7)) (v1 := (.slice (some ⟨go7, 0, none⟩) x5_2.length co7)) (ok := (fun _ => True)) (by (with_reducible repeat (first | apply Kd.Q_alloc | apply Kd.Q_drewN | apply Kd.Q_drew)); exact Kd.Q_mono HO_7.out (fun _ hk => ⟨trivial, hk⟩)) hg (.inl rfl)); have n3_ := Aside0.mk ((by rw [hw]; exact below_set (HB.out) GB7.out : Below w.heap.size w w36)); clear HO_5; clear HO_6; clear HO_7; clear HB; have HO_5 := n0_; have HO_6 := n1_; have HO_7 := n2_; have HB := n3_; clear n0_ n1_ n2_ n3_; clear hg hw hp_) | ((with_reducible refine gate_builtin (b := .append) (xs := #[.tmp 50, .tmp 52]) rfl ?_); at_builtin; refine Kd.Q_append (Kd.int .i64) (w0 := w) w.heap.size rfl (.tmp 50) (.tmp 52) 22 3 (.int .i64 0) 8 rfl Tryd.underlying22 info3 rfl (by decide) (by omega) (.slice (some ad118) x7_2.length co34) x7_2 (rd (rd_L3 t107 (rd x7_1 0)) x31_2) [.int .i64 (rd (rd_L3 t107 (rd x7_1 0)) x31_2)] (fun k_ => some k_ ≠ (.slice (some ⟨go7, 0, none⟩) x5_2.length co7 : Value).ownBlock) (fun _ => False) rfl rfl ?aP (fun _ hk => hk.elim) ?aF ?aO ?aB ?aS ?aL ?_; (case aP => exact rfl); (case aB => exact (by repeat (first | (with_reducible first | exact HB.out | apply below_alloc | apply pw_below_drewN | apply below_drew1) | exact HB.out))); (case aF => exact (fun k_ hk => Kd.fresh' (Kd.R_lt (by (with_reducible repeat (first | apply Kd.R_alloc | apply Kd.R_drewN | apply Kd.R_drew)); exact HO_5.out)) k_ hk)); (case aO => exact (by (with_reducible repeat (first | apply Kd.Q_alloc | apply Kd.Q_drewN | apply Kd.Q_drew)); exact Kd.Q_mono HO_7.out (fun _ hk => hk.2))); (case aS => exact (below_size (by repeat (first | (with_reducible first | exact HB.out | apply below_alloc | apply pw_below_drewN | apply below_drew1) | exact HB.out)))); (case aL => have := LMc33.out; omega); intro v122 w37 ho hb hg hat; rw [← Ny121.out] at ho; have n0_ := Aside0.mk (Kd.R_after (ok := (fun _ => True)) (by (with_reducible repeat (first | apply Kd.R_alloc | apply Kd.R_drewN | apply Kd.R_drew)); exact Kd.R_mono HO_5.out (fun _ hk => ⟨trivial, hk⟩)) hg hat); have n1_ := Aside0.mk (Kd.S_after (ok := (fun k_ => some k_ ≠ (.slice (some ⟨go7, 0, none⟩) x5_2.length co7 : Value).ownBlock)) (by (with_reducible repeat (first | apply Kd.S_alloc | apply Kd.S_drewN | apply Kd.S_drew)); exact Kd.S_mono HO_6.out (fun _ hk => ⟨hk.2, hk.1⟩)) hg hat); have nL_ := Aside0.mk (Kd.R_after (ok := (fun k_ => some k_ ≠ (.slice (some ⟨go7, 0, none⟩) x5_2.length co7 : Value).ownBlock)) (by (with_reducible repeat (first | apply Kd.R_alloc | apply Kd.R_drewN | apply Kd.R_drew)); exact Kd.R_mono HL115_0.out (fun _ hk => ⟨hk.2, hk.1⟩)) hg hat); clear HL115_0; have HL115_0 := nL_; clear nL_; have n2_ := Aside0.mk (hb); have n3_ := Aside0.mk (ho); clear HO_5; clear HO_6; clear HB; clear HO_7; have HO_5 := n0_; have HO_6 := n1_; have HB := n2_; have HO123 := n3_; clear n0_ n1_ n2_ n3_; clear ho hb hg hat))
                     (try simp only [← hl5_2])
                     go_roundg k2
                     case measure => have := HK1.out; have := HK2.out; omega
                     case rel => exact ⟨(y120), (y121), (wrap64 (x31_2 + 1)), (by first | rfl | (simp; done) | (simp [*]; done)), H', ⟨by have := HK1.out; have := HK2.out; omega⟩, ⟨by (try simp only [hl5_1]); (try simp only [hl5_2]); (with_reducible repeat (first | apply Kd.R_alloc | apply Kd.R_drewN | apply Kd.R_drew)); exact Kd.R_mono HO_5.out (fun _ hk => hk.2)⟩, ⟨by (try simp only [hl5_1]); (try simp only [hl5_2]); (with_reducible repeat (first | apply Kd.S_alloc | apply Kd.S_drewN | apply Kd.S_drew)); exact HO_6.out⟩, ⟨by (try simp only [hl5_1]); (try simp only [hl5_2]); (with_reducible repeat (first | apply Kd.R_alloc | apply Kd.R_drewN | apply Kd.R_drew)); exact HL115_0.out⟩, ⟨by (try simp only [hl5_1]); (try simp only [hl5_2]); (with_reducible repeat (first | apply Kd.Q_alloc | apply Kd.Q_drewN | apply Kd.Q_drew)); exact HO123.out⟩, ⟨by repeat (first | (with_reducible first | exact HB.out | apply below_alloc | apply pw_below_drewN | apply below_drew1) | exact HB.out)⟩⟩
                    ·
                     rw [if_neg c33] at H
                     exact absurd H (by simp)
                   ·
                    rw [if_neg c31] at H
                    exact absurd H (by simp)
                  ·
                   rw [if_neg c30] at H
                   exact absurd H (by simp)
                 ·
                  rw [if_neg c29] at H
                  exact absurd H (by simp)
                ·
                 rw [if_neg c28] at H
                 have c28b0 : decide ((rd x5_2 (rd (rd_L3 t107 (rd x7_1 0)) x31_2)) < 0) = false := decide_eq_false c28
                 clear c28
                 have H' := Aside0.mk H
                 clear H
                 have p116 : 0 ≤ (x31_2 : Int) := of_decide_eq_true (by first | (with_reducible assumption) | assumption)
                 have q116 : x31_2 < ((rd_L3 t107 (rd x7_1 0)).length : Int) := of_decide_eq_true (by first | (with_reducible assumption) | assumption)
                 obtain ⟨ad116, e116, hx116_0⟩ := Kd.at_int (Kd.R_reads' HL115_0.out).2.2 x31_2 p116 q116
                 cases e116
                 (try replace hx116_0 := (HB.out.cell (World.block_lt_of_cell? w _ hx116_0)).trans hx116_0)
                 replace p116 := eq_true p116
                 replace q116 := eq_true q116
                 have p117 : 0 ≤ ((rd (rd_L3 t107 (rd x7_1 0)) x31_2) : Int) := of_decide_eq_true (by first | (with_reducible assumption) | assumption)
                 have q117 : (rd (rd_L3 t107 (rd x7_1 0)) x31_2) < (x5_2.length : Int) := of_decide_eq_true (by first | (with_reducible assumption) | assumption)
                 obtain ⟨ad117, e117, hx117_0⟩ := Kd.at_int (Kd.R_reads' HO_5.out).2.2 (rd (rd_L3 t107 (rd x7_1 0)) x31_2) p117 q117
                 obtain rfl : (⟨go7, 0, none⟩ : Addr) = ad117 := (by injection e117)
                 (first | simp only [add_plain] at hx117_0 | simp only [add_at] at hx117_0 | simp only [Addr.add, Nat.zero_add] at hx117_0 | skip)
                 replace p117 := eq_true p117
                 replace q117 := eq_true q117
                 go_wp2
                 (try simp only [← hl5_2])
                 go_roundg k2
                 case measure => have := HK1.out; have := HK2.out; omega
                 case rel => exact ⟨(x5_2), (x7_2), (wrap64 (x31_2 + 1)), (by first | rfl | (simp; done) | (simp [*]; done)), H', ⟨by have := HK1.out; have := HK2.out; omega⟩, ⟨by (try simp only [hl5_1]); (try simp only [hl5_2]); (with_reducible repeat (first | apply Kd.R_alloc | apply Kd.R_drewN | apply Kd.R_drew)); exact HO_5.out⟩, ⟨by (try simp only [hl5_1]); (try simp only [hl5_2]); (with_reducible repeat (first | apply Kd.S_alloc | apply Kd.S_drewN | apply Kd.S_drew)); exact HO_6.out⟩, ⟨by (try simp only [hl5_1]); (try simp only [hl5_2]); (with_reducible repeat (first | apply Kd.R_alloc | apply Kd.R_drewN | apply Kd.R_drew)); exact HL115_0.out⟩, ⟨by (try simp only [hl5_1]); (try simp only [hl5_2]); (with_reducible repeat (first | apply Kd.Q_alloc | apply Kd.Q_drewN | apply Kd.Q_drew)); exact HO_7.out⟩, ⟨by repeat (first | (with_reducible first | exact HB.out | apply below_alloc | apply pw_below_drewN | apply below_drew1) | exact HB.out)⟩⟩
               ·
                rw [if_neg c27] at H
                exact absurd H (by simp)
              ·
               rw [if_neg c26] at H
               exact absurd H (by simp)
             ·
              rw [if_neg c25] at H
              exact absurd H (by simp)
            ·
             rw [if_neg c24] at H
             exact absurd H (by simp)
           ·
            rw [if_neg c23] at H
            have c23b0 : decide (x31_2 < ((rd_L3 t107 (rd x7_1 0)).length : Int)) = false := decide_eq_false c23
            (try (have c23b0_ := c23b0; rw [hl5_1] at c23b0_))
            (try (have c23b0_ := c23b0; rw [hl5_2] at c23b0_))
            clear c23
            by_cases c38 : 1 ≤ (x7_2.length : Int)
            ·
             rw [if_pos c38] at H
             have c38b0 := eq_true c38
             have c38b1 : decide (1 ≤ (x7_2.length : Int)) = true := decide_eq_true c38
             clear c38
             obtain ⟨y124, hy124⟩ : ∃ y_ : List Int, y_ = (x7_2.drop (1 : Int).toNat) := ⟨_, rfl⟩
             replace H : (impl_stepsTo.l0 k2 x5_2 t107 y124) = some r := by first | (rw [hy124]; with_reducible exact H) | (have H2_ := (Option.bind_some _ _).symm.trans H; rw [hy124]; with_reducible exact H2_) | (have H2_ := (Option.bind_some _ _).symm.trans H; with_reducible exact H2_) | with_reducible exact H | (rw [hy124]; exact H) | exact H
             have Ny124 := Aside0.mk hy124
             clear hy124
             have H' := Aside0.mk H
             clear H
             obtain ⟨Ao39, co39, eo39, _⟩ := Kd.Q_slice HO_7.out
             subst eo39
             have q40 : (1 : Int) ≤ ((x7_2.length : Int) : Int) := of_decide_eq_true (by first | (with_reducible assumption) | assumption)
             obtain ⟨i040, hi040, _, hsz40, _⟩ := info_parts info3
             have hcut40 := cut_from (P := Tryd.prog) 22 3 .i64 Tryd.underlying22 hi040 1 hsz40 Ao39 x7_2.length co39 1 (by omega) q40
             have hr40 := Kd.Q_drop (k := (1 : Int).toNat) HO_7.out (by omega)
             obtain ⟨A40, hA40⟩ : ∃ A1, A1 = (if co39 = (1 : Int).toNat then Ao39 else (Ao39 : Option Addr).map (·.add ((1 : Int).toNat * 1))) := ⟨_, rfl⟩
             obtain ⟨c40, hc40⟩ : ∃ c1, c1 = co39 - (1 : Int).toNat := ⟨_, rfl⟩
             have hy40 : y124.length = x7_2.length - (1 : Int).toNat := (by rw [Ny124.out, List.length_drop])
             rw [← Ny124.out] at hr40
             rw [← hy40, ← hA40, ← hc40] at hcut40
             replace hr40 : Kd.Q (Kd.int .i64) 3 wr w.heap.size (fun k_ => some k_ ≠ (.slice (some ⟨go7, 0, none⟩) x5_2.length co7 : Value).ownBlock) (.slice A40 y124.length c40) y124 := (by rw [hA40, hc40, hy40]; exact hr40)
             have HE40 : Aside0 ((Value.slice A40 y124.length c40).ownBlock = (.slice Ao39 x7_2.length co39 : Value).ownBlock) := ⟨by rw [hA40]; split <;> (cases (Ao39 : Option Addr) <;> rfl)⟩
             clear hy40 hi040 hsz40 HO_7 hA40 hc40
             have HO126 := Aside0.mk hr40
             clear hr40
             replace q40 := eq_true q40
             have n_ := Aside0.mk (Kd.R_mono (ok' := fun k_ => some k_ ≠ (.slice A40 y124.length c40 : Value).ownBlock) HO_5.out (fun k_ hk => (by rw [HE40.out]; exact hk)))
             clear HO_5
             have HO_5 := n_
             clear n_
             have n_ := Aside0.mk (Kd.S_mono (ok' := fun k_ => (some k_ ≠ (.slice (some ⟨go7, 0, none⟩) x5_2.length co7 : Value).ownBlock ∧ some k_ ≠ (.slice A40 y124.length c40 : Value).ownBlock)) HO_6.out (fun k_ hk => ⟨hk.1, (by rw [HE40.out]; exact hk.2)⟩))
             clear HO_6
             have HO_6 := n_
             clear n_
             go_wp2
             (try simp only [← hl5_1, ← hl5_2])
             go_roundg k2
             case measure => have := HK1.out; have := HK2.out; omega
             case rel => exact ⟨(x5_2), (y124), H', ⟨by have := HK1.out; have := HK2.out; omega⟩, ⟨by (try simp only [hl5_1]); (try simp only [hl5_2]); (with_reducible repeat (first | apply Kd.R_alloc | apply Kd.R_drewN | apply Kd.R_drew)); exact HO_5.out⟩, ⟨by (try simp only [hl5_1]); (try simp only [hl5_2]); (with_reducible repeat (first | apply Kd.S_alloc | apply Kd.S_drewN | apply Kd.S_drew)); exact HO_6.out⟩, ⟨by (try simp only [hl5_1]); (try simp only [hl5_2]); (with_reducible repeat (first | apply Kd.Q_alloc | apply Kd.Q_drewN | apply Kd.Q_drew)); exact HO126.out⟩, ⟨by repeat (first | (with_reducible first | exact HB.out | apply below_alloc | apply pw_below_drewN | apply below_drew1) | exact HB.out)⟩⟩
            ·
             rw [if_neg c38] at H
             exact absurd H (by simp)
        ·
         rw [if_neg c20] at H
         exact absurd H (by simp)
       ·
        rw [if_neg c19] at H
        exact absurd H (by simp)
      ·
       rw [if_neg c18] at H
       exact absurd H (by simp)
     ·
      rw [if_neg c17] at H
      have c17b0 : decide (0 < (x7_1.length : Int)) = false := decide_eq_false c17
      (try (have c17b0_ := c17b0; rw [hl5_1] at c17b0_))
      have c17b1 : decide (0 < x7_1.length) = false := decide_eq_false (by omega)
      clear c17
      obtain rfl := Option.some.inj H
      obtain ⟨Ao41, co41, eo41, _⟩ := Kd.Q_slice HO_7.out
      subst eo41
      go_wp2
      go_ret
      exact ⟨_, by first | rfl | (simp [errW_none, errW_some] <;> rfl) | (simp [*, errW_none, errW_some] <;> rfl), by (with_reducible repeat (first | apply Kd.R_alloc | apply Kd.R_drewN | apply Kd.R_drew)); exact Kd.R_mono HO_5.out (fun _ hk => trivial), by repeat (first | (with_reducible first | exact HB.out | apply below_alloc | apply pw_below_drewN | apply below_drew1) | exact HB.out)⟩
  ·
   rw [if_neg c6] at H
   exact absurd H (by simp)
 ·
  rw [if_neg c5] at H
  exact absurd H (by simp)

end Go.Proofs.YtkbgfaeohmnjpaaDoor.P

