/- Part 2 of 4 of the proof of: FnExactFirstCommonCardSaid: the law 'FnExactFirstCommon' answers true for every input, and leaves its arguments as they were. The row and its tied card, over the walk of its calls and the pure statement. -/
import Derived.Test.YtamhlbdjjfdbiaaDoorMFnExactFirstCommon1
import Derived.Test.YtamhlbdjjfdbiaaDoorWWords
import Derived.Test.YtamhlbdjjfdbiaaDoorWMore
import Derived.Laws.Strings
import Derived.Lib.SlTrimSet
import Derived.Lib.Bytealg
-- printed by xprint.py
namespace Go.Proofs.YtamhlbdjjfdbiaaDoor.P
open Go.RowKit Go.Proofs.YtamhlbdjjfdbiaaDoorW.PrintWords Go.Proofs.YtamhlbdjjfdbiaaDoorW.PrintLast Go.Proofs.YtamhlbdjjfdbiaaDoorW.PrintMore
attribute [local go_sem] max2_int min2_int max_two min_two max_three min_three max_four min_four   -- for this text's walks alone
set_option linter.unusedVariables false
set_option linter.unusedSimpArgs false

/-! ### spec_bkCommon: function 42 -/
mutual
def spec_bkCommon.l0 : Nat → ByteArray → ByteArray → List (List Int) → Int → Option ((List (List Int)))
 | 0, _, _, _, _ => none
 | k + 1, x0, x1, x5, x6 => if x6 ≤ (x0.size : Int) then (if 0 ≤ (wrap64 ((x1.size : Int) + 1)) then (if (wrap64 ((x1.size : Int) + 1) : Int).toNat ≤ 35184372088832 then (if x5.length < 5864062014805 then (spec_bkCommon.l0 k x0 x1 (x5 ++ [(List.replicate (wrap64 ((x1.size : Int) + 1) : Int).toNat 0)]) (wrap64 (x6 + 1))) else (none)) else (none)) else (none)) else (spec_bkCommon.l1 k x0 x1 x5 (wrap64 ((x0.size : Int) - 1)))
def spec_bkCommon.l1 : Nat → ByteArray → ByteArray → List (List Int) → Int → Option ((List (List Int)))
 | 0, _, _, _, _ => none
 | k + 1, x0, x1, x5, x7 => if x7 ≥ 0 then (if 0 ≤ x7 then (if x7 < (x5.length : Int) then (spec_bkCommon.l2 k x0 x1 x5 x7 (wrap64 ((x1.size : Int) - 1))) else (none)) else (none)) else (some x5)
def spec_bkCommon.l2 : Nat → ByteArray → ByteArray → List (List Int) → Int → Int → Option ((List (List Int)))
 | 0, _, _, _, _, _ => none
 | k + 1, x0, x1, x5, x7, x9 => if x9 ≥ 0 then (if 0 ≤ x7 then (if x7 < (x5.length : Int) then (if 0 ≤ (wrap64 (x7 + 1)) then (if (wrap64 (x7 + 1)) < (x5.length : Int) then (if 0 ≤ x9 then (if x9 < ((rd_L1 x5 (wrap64 (x7 + 1))).length : Int) then (if 0 ≤ (wrap64 (x9 + 1)) then (if (wrap64 (x9 + 1)) < ((rd_L1 x5 x7).length : Int) then ((spec_l1Most.f (rd (rd_L1 x5 (wrap64 (x7 + 1))) x9) (rd (rd_L1 x5 x7) (wrap64 (x9 + 1)))).bind fun t113 => (if x9 < ((rd_L1 x5 x7).length : Int) then ((some (x5.set (x7 : Int).toNat ((rd_L1 x5 x7).set (x9 : Int).toNat t113) : List (List Int))).bind fun y116 => (if x7 < (x0.size : Int) then (if x9 < (x1.size : Int) then (if (bt x0 x7) = (bt x1 x9) then (if x9 < ((rd_L1 y116 x7).length : Int) then (if (wrap64 (x9 + 1)) < ((rd_L1 y116 (wrap64 (x7 + 1))).length : Int) then ((spec_l1Most.f (rd (rd_L1 y116 x7) x9) (wrap64 ((rd (rd_L1 y116 (wrap64 (x7 + 1))) (wrap64 (x9 + 1))) + 1))).bind fun t122 => (spec_bkCommon.l2 k x0 x1 (y116.set (x7 : Int).toNat ((rd_L1 y116 x7).set (x9 : Int).toNat t122)) x7 (wrap64 (x9 - 1)))) else (none)) else (none)) else (spec_bkCommon.l2 k x0 x1 y116 x7 (wrap64 (x9 - 1)))) else (none)) else (none))) else (none))) else (none)) else (none)) else (none)) else (none)) else (none)) else (none)) else (none)) else (none)) else (spec_bkCommon.l1 k x0 x1 x5 (wrap64 (x7 - 1)))
end
def spec_bkCommon.f (k : Nat) (a0 : ByteArray) (a1 : ByteArray) : Option ((List (List Int))) := spec_bkCommon.l0 k a0 a1 ([] : List (List Int)) 0
theorem spec_bkCommon.mono_l : ∀ k, (∀ y0 y1 y2 y3, LeO (spec_bkCommon.l0 k y0 y1 y2 y3) (spec_bkCommon.l0 (k + 1) y0 y1 y2 y3)) ∧ (∀ y0 y1 y2 y3, LeO (spec_bkCommon.l1 k y0 y1 y2 y3) (spec_bkCommon.l1 (k + 1) y0 y1 y2 y3)) ∧ (∀ y0 y1 y2 y3 y4, LeO (spec_bkCommon.l2 k y0 y1 y2 y3 y4) (spec_bkCommon.l2 (k + 1) y0 y1 y2 y3 y4))
 | 0 => ⟨by intros; intro r h; simp [spec_bkCommon.l0] at h, by intros; intro r h; simp [spec_bkCommon.l1] at h, by intros; intro r h; simp [spec_bkCommon.l2] at h⟩
 | k + 1 => by
  obtain ⟨ih0, ih1, ih2⟩ := spec_bkCommon.mono_l k
  refine ⟨?_, ?_, ?_⟩
  ·
   intro y0 y1 y2 y3
   unfold spec_bkCommon.l0
   repeat' first
   | (with_reducible exact ih0 _ _ _ _)
   | (with_reducible exact ih1 _ _ _ _)
   | (with_reducible exact ih2 _ _ _ _ _)
   | (with_reducible exact LeO.refl _)
   | (with_reducible exact LeO.none _)
   | (with_reducible refine LeO.ite ?_ ?_)
   | (with_reducible refine LeO.bind ?_ (fun _ => ?_))
   | exact ih0 _ _ _ _
   | exact ih1 _ _ _ _
   | exact ih2 _ _ _ _ _
   | exact LeO.none _
   | refine LeO.ite ?_ ?_
   | refine LeO.bind ?_ (fun _ => ?_)
  ·
   intro y0 y1 y2 y3
   unfold spec_bkCommon.l1
   repeat' first
   | (with_reducible exact ih0 _ _ _ _)
   | (with_reducible exact ih1 _ _ _ _)
   | (with_reducible exact ih2 _ _ _ _ _)
   | (with_reducible exact LeO.refl _)
   | (with_reducible exact LeO.none _)
   | (with_reducible refine LeO.ite ?_ ?_)
   | (with_reducible refine LeO.bind ?_ (fun _ => ?_))
   | exact ih0 _ _ _ _
   | exact ih1 _ _ _ _
   | exact ih2 _ _ _ _ _
   | exact LeO.none _
   | refine LeO.ite ?_ ?_
   | refine LeO.bind ?_ (fun _ => ?_)
  ·
   intro y0 y1 y2 y3 y4
   unfold spec_bkCommon.l2
   repeat' first
   | (with_reducible exact ih0 _ _ _ _)
   | (with_reducible exact ih1 _ _ _ _)
   | (with_reducible exact ih2 _ _ _ _ _)
   | (with_reducible exact LeO.refl _)
   | (with_reducible exact LeO.none _)
   | (with_reducible refine LeO.ite ?_ ?_)
   | (with_reducible refine LeO.bind ?_ (fun _ => ?_))
   | exact ih0 _ _ _ _
   | exact ih1 _ _ _ _
   | exact ih2 _ _ _ _ _
   | exact LeO.none _
   | refine LeO.ite ?_ ?_
   | refine LeO.bind ?_ (fun _ => ?_)
theorem spec_bkCommon.mono : ∀ y0 y1 k, LeO (spec_bkCommon.f k y0 y1) (spec_bkCommon.f (k + 1) y0 y1) := by
 intro y0 y1 k
 obtain ⟨ih0, ih1, ih2⟩ := spec_bkCommon.mono_l k
 unfold spec_bkCommon.f
 repeat' first
   | (with_reducible exact ih0 _ _ _ _)
   | (with_reducible exact ih1 _ _ _ _)
   | (with_reducible exact ih2 _ _ _ _ _)
   | (with_reducible exact LeO.refl _)
   | (with_reducible exact LeO.none _)
   | (with_reducible refine LeO.ite ?_ ?_)
   | (with_reducible refine LeO.bind ?_ (fun _ => ?_))
   | exact ih0 _ _ _ _
   | exact ih1 _ _ _ _
   | exact ih2 _ _ _ _ _
   | exact LeO.none _
   | refine LeO.ite ?_ ?_
   | refine LeO.bind ?_ (fun _ => ?_)
def spec_bkCommon.T13 : Bool × List (List Nat × List Nat) := (true, [([], []), ([], []), ([], []), ([], []), ([3], [3]), ([2, 4], [2, 4]), ([5], [5]), ([], []), ([6, 7], [6, 7]), ([8], [8]), ([], []), ([], []), ([11], [11]), ([10, 12], [10, 12]), ([13], [13]), ([9, 14], [9, 14]), ([0, 1, 0, 1, 2, 3, 4, 5, 6, 7, 8, 9, 10, 11, 12, 13, 14, 15], [0, 1]), ([16, 15, 15, 0, 1, 2, 3, 4, 5, 6, 7, 8, 9, 10, 11, 12, 13, 14, 15], [15, 16])])
def spec_bkCommon.B13 : List Nat := [0, 0, 0, 0, 8, 28, 60, 0, 252, 508, 0, 0, 2048, 7168, 15360, 32764, 65535, 131071]
theorem spec_bkCommon.tab13 : rtab .any (opsOf Tryd.f42 13) = spec_bkCommon.T13 := by kernel_rfl
theorem spec_bkCommon.bits13 : waitsOk spec_bkCommon.T13.2 spec_bkCommon.B13 = true := by kernel_rfl
def spec_bkCommon.T15 : Bool × List (List Nat × List Nat) := (true, [([], []), ([], []), ([], []), ([], []), ([2, 3], [2, 3]), ([4], [4]), ([], []), ([], []), ([7], [7]), ([6, 8], [6, 8]), ([9], [9]), ([], []), ([11], [11]), ([10, 12], [10, 12]), ([13], [13]), ([14], [14]), ([5, 15], [5, 15]), ([0, 1, 0, 1, 2, 3, 4, 5, 6, 7, 8, 9, 10, 11, 12, 13, 14, 15, 16], [0, 1]), ([17, 16, 16, 0, 1, 2, 3, 4, 5, 6, 7, 8, 9, 10, 11, 12, 13, 14, 15, 16], [16, 17])])
def spec_bkCommon.B15 : List Nat := [0, 0, 0, 0, 12, 28, 0, 0, 128, 448, 960, 0, 2048, 8128, 16320, 32704, 65532, 131071, 262143]
theorem spec_bkCommon.tab15 : rtab .any (opsOf Tryd.f42 15) = spec_bkCommon.T15 := by kernel_rfl
theorem spec_bkCommon.bits15 : waitsOk spec_bkCommon.T15.2 spec_bkCommon.B15 = true := by kernel_rfl
theorem spec_bkCommon_alkeep {W w1 : World} {a : Addr} {v : Value} {g : Nat} (hg : W.grownBy w1 (some g)) (hne : a.block ≠ g) (h : W.cell? a = some v) : w1.cell? a = some v := by
 have hb := hg.block a.block (World.block_lt_of_cell? W _ h) (by simpa using hne)
 unfold World.cell? at h ⊢
 rw [hb]; exact h
theorem spec_bkCommon_aldc {w : World} {p a : Addr} {v x : Value} {m : Nat} (h : (w.setCell p v).cell? a = some x) : ((w.drewN m).setCell p v).cell? a = some x := h
theorem spec_bkCommon_aldw {w : World} {a : Addr} {v : Option Value} (h : w.cell? a = v) : w.drew.cell? a = v := h
theorem spec_bkCommon_alfr {w w' : World} {m : Nat} {a : Addr} {b : Bool} (hq : w.drewN m = w') (h : w.frozen? a = b) : w'.frozen? a = b := by subst hq; exact h
theorem spec_bkCommon_alne {ad : Addr} {n cap g j : Nat} (h : some g ≠ (Value.slice (some ad) n cap).ownBlock) : (ad.add j).block ≠ g := by
 intro e
 apply h
 rw [add_block] at e
 simp [Value.ownBlock, e]
theorem spec_bkCommon_alst {W : World} {base : Nat} {ad : Addr} {n cap : Nat} {xs : List (List Int)} {i : Int} {g c : Nat} {k x : Int} (h : Kd.S (Kd.slice 3 (Kd.int .i64)) 43 W base (fun _ => True) (.slice (some ad) n cap) xs) (h0 : 0 ≤ i) (h1 : i < n) (hc : W.cell? (ad.add i.toNat) = some (.slice (some ⟨g, 0, none⟩) (rd_L1 xs i).length c)) :
  Kd.S (Kd.slice 3 (Kd.int .i64)) 43 (W.setCell ⟨g, k.toNat, none⟩ (.int .i64 x)) base (fun _ => True) (.slice (some ad) n cap) (xs.set i.toNat ((rd_L1 xs i).set k.toNat x)) ∧ (W.setCell ⟨g, k.toNat, none⟩ (.int .i64 x)).cell? (ad.add i.toNat) = some (.slice (some ⟨g, 0, none⟩) (rd_L1 xs i).length c) ∧ base ≤ g := by
 obtain ⟨oki, c_, hcl, hM, hcc, hok, hbk⟩ := Kd.S_borrow h [] i h0 h1
 obtain ⟨ve, rfl, ge⟩ := hM
 have hv := hcc 0 _ rfl
 rw [Nat.add_zero, show ((Kd.slice 3 (Kd.int .i64))).sz = 1 from rfl, Nat.mul_one] at hv
 replace hv := Option.some.inj (hv.symm.trans hc)
 subst hv
 replace ge := (show Kd.R (Kd.int .i64) 3 _ _ _ _ (rd_L1 xs i) from ge)
 have HP := Kd.R_putg ge k x
 exact ⟨hbk HP.2 (fun k_ e_ => by injection e_ with e_; subst e_; exact ge.1 _ rfl) (Kd.M_row HP.1), spec_bkCommon_alkeep HP.2 (spec_bkCommon_alne (hok _ (ge.1 _ rfl)).2) hc, Kd.R_base ge _ rfl⟩
set_option maxHeartbeats 8000000 in
set_option maxRecDepth 100000 in
theorem spec_bkCommon.calls (k : Nat) (a0 : ByteArray) (a1 : ByteArray) (r : List (List Int)) (w : World) (h : spec_bkCommon.f k a0 a1 = some r) :
  Calls Tryd.prog 42 #[.string a0, .string a1] w fun e w' => ∃ v0_ : Value, e = .returned (v0_) ∧ Kd.S (Kd.slice 3 (Kd.int .i64)) 43 w' w.heap.size (fun _ => True) v0_ r ∧ Below w.heap.size w w' := by
 have HB := Aside0.mk (Below.refl w.heap.size w)
 have H : (spec_bkCommon.l0 k a0 a1 ([] : List (List Int)) 0) = some r := h
 clear h
 have H' := Aside0.mk H
 clear H
 go_enter Tryd.func42, Tryd.ntmps42
 go_wp2
 go_loopg [5, 6] k (fun kq v5 v6 w' => ∃ (x5_1 : List (List Int)) (x6_1 : Int), v6 = .int .i64 x6_1 ∧ Aside0 (spec_bkCommon.l0 kq a0 a1 x5_1 x6_1 = some r) ∧ Aside0 (kq ≤ k) ∧ Aside0 (Kd.S (Kd.slice 3 (Kd.int .i64)) 43 w' w.heap.size (fun _ => True) v5 x5_1) ∧ Aside0 (Below w.heap.size w w'))
 case atStart => exact ⟨(([] : List (List Int))), (0), (by first | rfl | (simp; done) | (simp [*]; done)), H', ⟨Nat.le_refl _⟩, ⟨by first | exact Kd.S_nil _ _ _ _ _ | exact Kd.N_nil _ _ _ _ _ | exact Kd.V_nil _ _ _ _ _ | exact Kd.Q_nil _ _ _ _ _ | exact Kd.R_nil _ _ _ _ _⟩, ⟨by repeat (first | (with_reducible first | exact HB.out | apply below_alloc | apply pw_below_drewN | apply below_drew1) | exact HB.out)⟩⟩
 case round =>
  clear H'
  try clear p2
  obtain ⟨x5_1, x6_1, rfl, HA, HK1, HO_5, HB⟩ := hrel
  cases gk with
  | zero => exact absurd HA.out (by simp [spec_bkCommon.l0])
  | succ k1 =>
   have H := HA.out
   clear HA
   simp only [spec_bkCommon.l0] at H
   by_cases c3 : x6_1 ≤ (a0.size : Int)
   ·
    rw [if_pos c3] at H
    have c3b0 : decide (x6_1 ≤ (a0.size : Int)) = true := decide_eq_true c3
    clear c3
    obtain ⟨ji4, hji4⟩ : ∃ j_ : Int, (wrap64 ((a1.size : Int) + 1)) = j_ := ⟨_, rfl⟩
    replace H : (if 0 ≤ (ji4) then (if (ji4 : Int).toNat ≤ 35184372088832 then (if x5_1.length < 5864062014805 then (spec_bkCommon.l0 k1 a0 a1 (x5_1 ++ [(List.replicate (ji4 : Int).toNat 0)]) (wrap64 (x6_1 + 1))) else (none)) else (none)) else (none)) = some r := by first | (rw [hji4] at H; exact H) | (simp only [hji4] at H ⊢; exact H)
    have hji4w : (IntKind.i64.wrap ((a1.size : Int) + 1)) = ji4 := (i64_w _).trans hji4
    by_cases c5 : 0 ≤ (ji4)
    ·
     rw [if_pos c5] at H
     have c5b0 := eq_true c5
     have c5b1 : decide (0 ≤ (ji4)) = true := decide_eq_true c5
     clear c5
     by_cases c6 : (ji4 : Int).toNat ≤ 35184372088832
     ·
      rw [if_pos c6] at H
      have c6b0 := eq_true c6
      have c6b1 : decide ((ji4 : Int).toNat ≤ 35184372088832) = true := decide_eq_true c6
      clear c6
      obtain ⟨y101, hy101⟩ : ∃ y_ : List Int, y_ = (List.replicate (ji4 : Int).toNat 0) := ⟨_, rfl⟩
      replace H : (if x5_1.length < 5864062014805 then (spec_bkCommon.l0 k1 a0 a1 (x5_1 ++ [y101]) (wrap64 (x6_1 + 1))) else (none)) = some r := by first | (rw [hy101]; with_reducible exact H) | (have H2_ := (Option.bind_some _ _).symm.trans H; rw [hy101]; with_reducible exact H2_) | (have H2_ := (Option.bind_some _ _).symm.trans H; with_reducible exact H2_) | with_reducible exact H | (rw [hy101]; exact H) | exact H
      have Ny101 := Aside0.mk hy101
      clear hy101
      by_cases c7 : x5_1.length < 5864062014805
      ·
       rw [if_pos c7] at H
       have LMc7 := Aside0.mk c7
       clear c7
       obtain ⟨y104, hy104⟩ : ∃ y_ : List (List Int), y_ = (x5_1 ++ [y101]) := ⟨_, rfl⟩
       replace H : (spec_bkCommon.l0 k1 a0 a1 y104 (wrap64 (x6_1 + 1))) = some r := by first | (rw [hy104]; with_reducible exact H) | (have H2_ := (Option.bind_some _ _).symm.trans H; rw [hy104]; with_reducible exact H2_) | (have H2_ := (Option.bind_some _ _).symm.trans H; with_reducible exact H2_) | with_reducible exact H | (rw [hy104]; exact H) | exact H
       have Ny104 := Aside0.mk hy104
       clear hy104
       have H' := Aside0.mk H
       clear H
       go_wp2_with (first | ((with_reducible refine gate_dst (N := 20) rfl ?_); refine Kd.R_make (Kd.int .i64) _ 3 rfl (N := 20) rfl 43 _ _ rfl ji4 rfl rfl Tryd.underlying43 (.int .i64 0) 8 info3 rfl (by decide) (by omega) 0 (ok := fun _ => True) (okp := fun _ => True) rfl (fun _ hk => hk) trivial (of_decide_eq_true (by first | (with_reducible assumption) | assumption)) (Nat.le_trans (Nat.mul_le_mul_right _ (of_decide_eq_true (by first | (with_reducible assumption) | assumption) : ji4.toNat ≤ 35184372088832)) (by omega)) (Below.refl _ _) (Nat.le_refl _) ?_; intro v102 w8 ho9 hb hg_ hnew_; clear hg_ hnew_; (first | rw [← Ny101.out] at ho9 | (simp only [Int.reduceToNat] at ho9; rw [← Ny101.out] at ho9)); have n0_ := Aside0.mk (Kd.S_elder' (by (with_reducible repeat (first | apply Kd.S_alloc | apply Kd.S_drewN | apply Kd.S_drew)); exact HO_5.out) (Kd.R_base ho9) hb); have n1_ := Aside0.mk (Kd.R_lower ho9 (below_size (by repeat (first | (with_reducible first | exact HB.out | apply below_alloc | apply pw_below_drewN | apply below_drew1) | exact HB.out)))); have n2_ := Aside0.mk (below_step (by repeat (first | (with_reducible first | exact HB.out | apply below_alloc | apply pw_below_drewN | apply below_drew1) | exact HB.out)) hb); clear HO_5; clear HB; have HO_5 := n0_; have HO103 := n1_; have HB := n2_; clear n0_ n1_ n2_; clear hb ho9; obtain ⟨Ao11, co11, eo11⟩ := Kd.R_slice HO103.out; subst eo11) | ((with_reducible refine gate_builtin (b := .append) (xs := #[.tmp 16, .tmp 21]) rfl ?_); at_builtin; refine Kd.S_append (Kd.slice 3 (Kd.int .i64)) (w0 := w) w.heap.size rfl (.tmp 16) (.tmp 21) 44 43 (.slice none 0 0) 24 rfl Tryd.underlying44 info43 rfl (by decide) (by omega) u5 x5_1 y101 [.slice Ao11 y101.length co11] (fun _ => True) (fun k_ => some k_ = (.slice Ao11 y101.length co11 : Value).ownBlock) rfl rfl ?aP (fun k_ hk_ => ((Kd.R_mono (ok' := fun k_ => ((fun _ => True)) k_ ∧ some k_ ≠ (u5 : Value).ownBlock) (Kd.R_apart' (HO103.out) (Kd.S_typed HO_5.out) (by decide)) (fun k_ hk => ⟨trivial, hk.2⟩))).1 k_ hk_.symm) ?aF ?aO ?aB ?aS ?aL ?_; (case aP => exact Kd.M_row (Kd.R_mono (Kd.R_tight rfl (Kd.R_mono (ok' := fun k_ => ((fun _ => True)) k_ ∧ some k_ ≠ (u5 : Value).ownBlock) (Kd.R_apart' (HO103.out) (Kd.S_typed HO_5.out) (by decide)) (fun k_ hk => ⟨trivial, hk.2⟩))) (fun _ h_ => h_))); (case aB => exact (by repeat (first | (with_reducible first | exact HB.out | apply below_alloc | apply pw_below_drewN | apply below_drew1) | exact HB.out))); (case aF => exact (fun _ _ => trivial)); (case aO => exact (by (with_reducible repeat (first | apply Kd.S_alloc | apply Kd.S_drewN | apply Kd.S_drew)); exact Kd.S_mono HO_5.out (fun k_ hk => ⟨trivial, fun e_ => hk.2 e_⟩))); (case aS => exact (below_size (by repeat (first | (with_reducible first | exact HB.out | apply below_alloc | apply pw_below_drewN | apply below_drew1) | exact HB.out)))); (case aL => have := LMc7.out; omega); intro v105 w10 ho hb hg hat; rw [← Ny104.out] at ho; have n0_ := Aside0.mk (hb); have n1_ := Aside0.mk (ho); clear HB; clear HO_5; clear HO103; have HB := n0_; have HO106 := n1_; clear n0_ n1_; clear ho hb hg hat))
       go_roundg k1
       case measure => have := HK1.out; omega
       case rel => exact ⟨(y104), (wrap64 (x6_1 + 1)), (by first | rfl | (simp; done) | (simp [*]; done)), H', ⟨by have := HK1.out; omega⟩, ⟨by (with_reducible repeat (first | apply Kd.S_alloc | apply Kd.S_drewN | apply Kd.S_drew)); exact HO106.out⟩, ⟨by repeat (first | (with_reducible first | exact HB.out | apply below_alloc | apply pw_below_drewN | apply below_drew1) | exact HB.out)⟩⟩
      ·
       rw [if_neg c7] at H
       exact absurd H (by simp)
     ·
      rw [if_neg c6] at H
      exact absurd H (by simp)
    ·
     rw [if_neg c5] at H
     exact absurd H (by simp)
   ·
    rw [if_neg c3] at H
    have c3b0 : decide (x6_1 ≤ (a0.size : Int)) = false := decide_eq_false c3
    clear c3
    have H' := Aside0.mk H
    clear H
    go_wp2
    go_loopg [7] k1 (fun kq v7 w' => ∃ (x5_2 : List (List Int)) (x7_2 : Int), v7 = .int .i64 x7_2 ∧ Aside0 (spec_bkCommon.l1 kq a0 a1 x5_2 x7_2 = some r) ∧ Aside0 (kq ≤ k1) ∧ Aside0 (Kd.S (Kd.slice 3 (Kd.int .i64)) 43 w' w.heap.size (fun _ => True) u5 x5_2) ∧ Aside0 (Below w.heap.size w w'))
    case atStart => exact ⟨(x5_1), (wrap64 ((a0.size : Int) - 1)), (by first | rfl | (simp; done) | (simp [*]; done)), H', ⟨Nat.le_refl _⟩, ⟨by (with_reducible repeat (first | apply Kd.S_alloc | apply Kd.S_drewN | apply Kd.S_drew)); exact HO_5.out⟩, ⟨by repeat (first | (with_reducible first | exact HB.out | apply below_alloc | apply pw_below_drewN | apply below_drew1) | exact HB.out)⟩⟩
    case round =>
     clear H'
     try clear p2
     try clear c3
     try clear c3b0
     try clear c4
     try clear c5
     try clear c5b0
     try clear c5b1
     try clear c6
     try clear c6b0
     try clear c6b1
     try clear p6
     try clear c7
     try clear p2
     obtain ⟨x5_2, x7_2, rfl, HA, HK2, HO_5, HB⟩ := hrel
     cases gk with
     | zero => exact absurd HA.out (by simp [spec_bkCommon.l1])
     | succ k2 =>
      have H := HA.out
      clear HA
      simp only [spec_bkCommon.l1] at H
      by_cases c12 : x7_2 ≥ 0
      ·
       rw [if_pos c12] at H
       have c12b0 : decide (0 ≤ x7_2) = true := decide_eq_true c12
       clear c12
       by_cases c13 : 0 ≤ x7_2
       ·
        rw [if_pos c13] at H
        have c13b0 : decide (0 ≤ x7_2) = true := decide_eq_true c13
        clear c13
        by_cases c14 : x7_2 < (x5_2.length : Int)
        ·
         rw [if_pos c14] at H
         have c14b0 : decide (x7_2 < (x5_2.length : Int)) = true := decide_eq_true c14
         clear c14
         have H' := Aside0.mk H
         clear H
         obtain ⟨Ao15, co15, eo15⟩ := Kd.S_slice HO_5.out
         subst eo15
         have p107 : 0 ≤ (x7_2 : Int) := of_decide_eq_true (by first | (with_reducible assumption) | assumption)
         have q107 : x7_2 < (x5_2.length : Int) := of_decide_eq_true (by first | (with_reducible assumption) | assumption)
         obtain ⟨ad107, A107_0, c107_0, e107, hx107_0, hl107_0, hi107_0⟩ := at_L1 (Kd.S_reads' HO_5.out).2.2 x7_2 p107 q107
         cases e107
         obtain ⟨ce107, hce107, hMe107, hcc107⟩ := Kd.S_get HO_5.out [] x7_2 p107 (by first | exact q107 | exact of_decide_eq_true (by first | (with_reducible assumption) | assumption) | (have e_ := (Kd.S_reads' HO_5.out).1; omega))
         obtain ⟨ve107_0, rfl, ge107_0⟩ := hMe107
         have hv107_0 := hcc107 0 _ rfl
         rw [Nat.add_zero, show ((Kd.slice 3 (Kd.int .i64))).sz = 1 from rfl, Nat.mul_one] at hv107_0
         replace hv107_0 := Option.some.inj (hv107_0.symm.trans hx107_0)
         rw [hv107_0] at ge107_0
         have HL107_0 := Aside0.mk (show Kd.R (Kd.int .i64) 3 _ _ _ _ (rd_L1 x5_2 x7_2) from ge107_0)
         clear hv107_0 ge107_0
         have HX107_0 := Aside0.mk hx107_0
         clear hcc107 hce107
         have HR107_0 := Aside0.mk hi107_0
         have HC107_0 := Aside0.mk hl107_0
         clear hi107_0 hl107_0
         replace p107 := eq_true p107
         replace q107 := eq_true q107
         go_wp2
         generalize hu8_ : (Value.slice A107_0 (rd_L1 x5_2 x7_2).length c107_0) = ual8
         have HE8 := Aside0.mk (HX107_0.out.trans (congrArg some hu8_))
         clear hu8_
         go_loopg [9] k2 (fun kq v9 w' => ∃ (x5_3 : List (List Int)) (x9_3 : Int), v9 = .int .i64 x9_3 ∧ Aside0 (spec_bkCommon.l2 kq a0 a1 x5_3 x7_2 x9_3 = some r) ∧ Aside0 (kq ≤ k2) ∧ Aside0 (Kd.S (Kd.slice 3 (Kd.int .i64)) 43 w' w.heap.size (fun _ => True) (.slice (some ad107) x5_2.length co15) x5_3) ∧ Aside0 (Below w.heap.size w w') ∧ Aside0 (w'.cell? (ad107.add (x7_2 : Int).toNat) = some ual8))
         case atStart => exact ⟨(x5_2), (wrap64 ((a1.size : Int) - 1)), (by first | rfl | (simp; done) | (simp [*]; done)), H', ⟨Nat.le_refl _⟩, ⟨by (with_reducible repeat (first | apply Kd.S_alloc | apply Kd.S_drewN | apply Kd.S_drew)); exact HO_5.out⟩, ⟨by repeat (first | (with_reducible first | exact HB.out | apply below_alloc | apply pw_below_drewN | apply below_drew1) | exact HB.out)⟩, ⟨by exact HE8.out⟩⟩
         case round =>
          clear H'
          try clear c1
          try clear p1
          try clear q1
          try clear hx1
          try clear p2
          try clear c3
          try clear c3b0
          try clear c4
          try clear c5
          try clear c5b0
          try clear c5b1
          try clear c6
          try clear c6b0
          try clear c6b1
          try clear p6
          try clear c7
          try clear c10
          try clear p10
          try clear q10
          try clear hx10
          try clear c12
          try clear c12b0
          try clear c13
          try clear c13b0
          try clear c14
          try clear c14b0
          try clear hx107_0
          try clear p107
          try clear p2
          try clear p6
          try clear q107
          obtain ⟨x5_3, x9_3, rfl, HA, HK3, HO_5, HB, HE8⟩ := hrel
          have hl5_3 := (Kd.S_reads' HO_5.out).1
          rw [hl5_3] at HO_5
          (try simp only [hl5_3])
          cases gk with
          | zero => exact absurd HA.out (by simp [spec_bkCommon.l2])
          | succ k3 =>
           have H := HA.out
           clear HA
           simp only [spec_bkCommon.l2] at H
           by_cases c16 : x9_3 ≥ 0
           ·
            rw [if_pos c16] at H
            have c16b0 : decide (0 ≤ x9_3) = true := decide_eq_true c16
            clear c16
            by_cases c17 : 0 ≤ x7_2
            ·
             rw [if_pos c17] at H
             have c17b0 : decide (0 ≤ x7_2) = true := decide_eq_true c17
             clear c17
             by_cases c18 : x7_2 < (x5_3.length : Int)
             ·
              rw [if_pos c18] at H
              have c18b0 : decide (x7_2 < (x5_3.length : Int)) = true := decide_eq_true c18
              (try (have c18b0_ := c18b0; rw [hl5_3] at c18b0_))
              clear c18
              obtain ⟨ji19, hji19⟩ : ∃ j_ : Int, (wrap64 (x7_2 + 1)) = j_ := ⟨_, rfl⟩
              replace H : (if 0 ≤ (ji19) then (if (ji19) < (x5_3.length : Int) then (if 0 ≤ x9_3 then (if x9_3 < ((rd_L1 x5_3 (ji19)).length : Int) then (if 0 ≤ (wrap64 (x9_3 + 1)) then (if (wrap64 (x9_3 + 1)) < ((rd_L1 x5_3 x7_2).length : Int) then ((spec_l1Most.f (rd (rd_L1 x5_3 (ji19)) x9_3) (rd (rd_L1 x5_3 x7_2) (wrap64 (x9_3 + 1)))).bind fun t113 => (if x9_3 < ((rd_L1 x5_3 x7_2).length : Int) then ((some (x5_3.set (x7_2 : Int).toNat ((rd_L1 x5_3 x7_2).set (x9_3 : Int).toNat t113) : List (List Int))).bind fun y116 => (if x7_2 < (a0.size : Int) then (if x9_3 < (a1.size : Int) then (if (bt a0 x7_2) = (bt a1 x9_3) then (if x9_3 < ((rd_L1 y116 x7_2).length : Int) then (if (wrap64 (x9_3 + 1)) < ((rd_L1 y116 (ji19)).length : Int) then ((spec_l1Most.f (rd (rd_L1 y116 x7_2) x9_3) (wrap64 ((rd (rd_L1 y116 (ji19)) (wrap64 (x9_3 + 1))) + 1))).bind fun t122 => (spec_bkCommon.l2 k3 a0 a1 (y116.set (x7_2 : Int).toNat ((rd_L1 y116 x7_2).set (x9_3 : Int).toNat t122)) x7_2 (wrap64 (x9_3 - 1)))) else (none)) else (none)) else (spec_bkCommon.l2 k3 a0 a1 y116 x7_2 (wrap64 (x9_3 - 1)))) else (none)) else (none))) else (none))) else (none)) else (none)) else (none)) else (none)) else (none)) else (none)) = some r := by first | (rw [hji19] at H; exact H) | (simp only [hji19] at H ⊢; exact H)
              have hji19w : (IntKind.i64.wrap (x7_2 + 1)) = ji19 := (i64_w _).trans hji19
              by_cases c20 : 0 ≤ (ji19)
              ·
               rw [if_pos c20] at H
               have c20b0 : decide (0 ≤ (ji19)) = true := decide_eq_true c20
               clear c20
               by_cases c21 : (ji19) < (x5_3.length : Int)
               ·
                rw [if_pos c21] at H
                have c21b0 : decide ((ji19) < (x5_3.length : Int)) = true := decide_eq_true c21
                (try (have c21b0_ := c21b0; rw [hl5_3] at c21b0_))
                clear c21
                by_cases c22 : 0 ≤ x9_3
                ·
                 rw [if_pos c22] at H
                 have c22b0 : decide (0 ≤ x9_3) = true := decide_eq_true c22
                 clear c22
                 by_cases c23 : x9_3 < ((rd_L1 x5_3 (ji19)).length : Int)
                 ·
                  rw [if_pos c23] at H
                  have c23b0 : decide (x9_3 < ((rd_L1 x5_3 (ji19)).length : Int)) = true := decide_eq_true c23
                  (try (have c23b0_ := c23b0; rw [hl5_3] at c23b0_))
                  clear c23
                  obtain ⟨ji24, hji24⟩ : ∃ j_ : Int, (wrap64 (x9_3 + 1)) = j_ := ⟨_, rfl⟩
                  replace H : (if 0 ≤ (ji24) then (if (ji24) < ((rd_L1 x5_3 x7_2).length : Int) then ((spec_l1Most.f (rd (rd_L1 x5_3 (ji19)) x9_3) (rd (rd_L1 x5_3 x7_2) (ji24))).bind fun t113 => (if x9_3 < ((rd_L1 x5_3 x7_2).length : Int) then ((some (x5_3.set (x7_2 : Int).toNat ((rd_L1 x5_3 x7_2).set (x9_3 : Int).toNat t113) : List (List Int))).bind fun y116 => (if x7_2 < (a0.size : Int) then (if x9_3 < (a1.size : Int) then (if (bt a0 x7_2) = (bt a1 x9_3) then (if x9_3 < ((rd_L1 y116 x7_2).length : Int) then (if (ji24) < ((rd_L1 y116 (ji19)).length : Int) then ((spec_l1Most.f (rd (rd_L1 y116 x7_2) x9_3) (wrap64 ((rd (rd_L1 y116 (ji19)) (ji24)) + 1))).bind fun t122 => (spec_bkCommon.l2 k3 a0 a1 (y116.set (x7_2 : Int).toNat ((rd_L1 y116 x7_2).set (x9_3 : Int).toNat t122)) x7_2 (wrap64 (x9_3 - 1)))) else (none)) else (none)) else (spec_bkCommon.l2 k3 a0 a1 y116 x7_2 (wrap64 (x9_3 - 1)))) else (none)) else (none))) else (none))) else (none)) else (none)) = some r := by first | (rw [hji24] at H; exact H) | (simp only [hji24] at H ⊢; exact H)
                  have hji24w : (IntKind.i64.wrap (x9_3 + 1)) = ji24 := (i64_w _).trans hji24
                  by_cases c25 : 0 ≤ (ji24)
                  ·
                   rw [if_pos c25] at H
                   have c25b0 : decide (0 ≤ (ji24)) = true := decide_eq_true c25
                   clear c25
                   by_cases c26 : (ji24) < ((rd_L1 x5_3 x7_2).length : Int)
                   ·
                    rw [if_pos c26] at H
                    have c26b0 : decide ((ji24) < ((rd_L1 x5_3 x7_2).length : Int)) = true := decide_eq_true c26
                    (try (have c26b0_ := c26b0; rw [hl5_3] at c26b0_))
                    clear c26
                    replace H := Option.bind_eq_some_iff.mp H
                    obtain ⟨t113, A270, H⟩ := H
                    replace H : (if x9_3 < ((rd_L1 x5_3 x7_2).length : Int) then ((some (x5_3.set (x7_2 : Int).toNat ((rd_L1 x5_3 x7_2).set (x9_3 : Int).toNat t113) : List (List Int))).bind fun y116 => (if x7_2 < (a0.size : Int) then (if x9_3 < (a1.size : Int) then (if (bt a0 x7_2) = (bt a1 x9_3) then (if x9_3 < ((rd_L1 y116 x7_2).length : Int) then (if (ji24) < ((rd_L1 y116 (ji19)).length : Int) then ((spec_l1Most.f (rd (rd_L1 y116 x7_2) x9_3) (wrap64 ((rd (rd_L1 y116 (ji19)) (ji24)) + 1))).bind fun t122 => (spec_bkCommon.l2 k3 a0 a1 (y116.set (x7_2 : Int).toNat ((rd_L1 y116 x7_2).set (x9_3 : Int).toNat t122)) x7_2 (wrap64 (x9_3 - 1)))) else (none)) else (none)) else (spec_bkCommon.l2 k3 a0 a1 y116 x7_2 (wrap64 (x9_3 - 1)))) else (none)) else (none))) else (none)) = some r := H
                    have A27 := Aside0.mk A270
                    clear A270
                    by_cases c28 : x9_3 < ((rd_L1 x5_3 x7_2).length : Int)
                    ·
                     rw [if_pos c28] at H
                     have c28b0 : decide (x9_3 < ((rd_L1 x5_3 x7_2).length : Int)) = true := decide_eq_true c28
                     (try (have c28b0_ := c28b0; rw [hl5_3] at c28b0_))
                     clear c28
                     obtain ⟨y114, hy114⟩ : ∃ y_ : List Int, y_ = ((rd_L1 x5_3 x7_2).set (x9_3 : Int).toNat t113) := ⟨_, rfl⟩
                     replace H : ((some (x5_3.set (x7_2 : Int).toNat y114 : List (List Int))).bind fun y116 => (if x7_2 < (a0.size : Int) then (if x9_3 < (a1.size : Int) then (if (bt a0 x7_2) = (bt a1 x9_3) then (if x9_3 < ((rd_L1 y116 x7_2).length : Int) then (if (ji24) < ((rd_L1 y116 (ji19)).length : Int) then ((spec_l1Most.f (rd (rd_L1 y116 x7_2) x9_3) (wrap64 ((rd (rd_L1 y116 (ji19)) (ji24)) + 1))).bind fun t122 => (spec_bkCommon.l2 k3 a0 a1 (y116.set (x7_2 : Int).toNat ((rd_L1 y116 x7_2).set (x9_3 : Int).toNat t122)) x7_2 (wrap64 (x9_3 - 1)))) else (none)) else (none)) else (spec_bkCommon.l2 k3 a0 a1 y116 x7_2 (wrap64 (x9_3 - 1)))) else (none)) else (none))) = some r := by first | (rw [hy114]; with_reducible exact H) | (have H2_ := (Option.bind_some _ _).symm.trans H; rw [hy114]; with_reducible exact H2_) | (have H2_ := (Option.bind_some _ _).symm.trans H; with_reducible exact H2_) | with_reducible exact H | (rw [hy114]; exact H) | exact H
                     have Ny114 := Aside0.mk hy114
                     clear hy114
                     obtain ⟨y116, hy116⟩ : ∃ y_ : List (List Int), y_ = (x5_3.set (x7_2 : Int).toNat y114) := ⟨_, rfl⟩
                     replace H : (if x7_2 < (a0.size : Int) then (if x9_3 < (a1.size : Int) then (if (bt a0 x7_2) = (bt a1 x9_3) then (if x9_3 < ((rd_L1 y116 x7_2).length : Int) then (if (ji24) < ((rd_L1 y116 (ji19)).length : Int) then ((spec_l1Most.f (rd (rd_L1 y116 x7_2) x9_3) (wrap64 ((rd (rd_L1 y116 (ji19)) (ji24)) + 1))).bind fun t122 => (spec_bkCommon.l2 k3 a0 a1 (y116.set (x7_2 : Int).toNat ((rd_L1 y116 x7_2).set (x9_3 : Int).toNat t122)) x7_2 (wrap64 (x9_3 - 1)))) else (none)) else (none)) else (spec_bkCommon.l2 k3 a0 a1 y116 x7_2 (wrap64 (x9_3 - 1)))) else (none)) else (none)) = some r := by first | (rw [hy116]; with_reducible exact H) | (have H2_ := (Option.bind_some _ _).symm.trans H; rw [hy116]; with_reducible exact H2_) | (have H2_ := (Option.bind_some _ _).symm.trans H; with_reducible exact H2_) | with_reducible exact H | (rw [hy116]; exact H) | exact H
                     have Ny116 := Aside0.mk hy116
                     clear hy116
                     by_cases c30 : x7_2 < (a0.size : Int)
                     ·
                      rw [if_pos c30] at H
                      have c30b0 : decide (x7_2 < (a0.size : Int)) = true := decide_eq_true c30
                      clear c30
                      by_cases c32 : x9_3 < (a1.size : Int)
                      ·
                       rw [if_pos c32] at H
                       have c32b0 : decide (x9_3 < (a1.size : Int)) = true := decide_eq_true c32
                       clear c32
                       by_cases c34 : (bt a0 x7_2) = (bt a1 x9_3)
                       ·
                        rw [if_pos c34] at H
                        have c34b0 : ((bt a0 x7_2) == (bt a1 x9_3)) = true := beq_iff_eq.mpr c34
                        have c34b1 : ((bt a0 x7_2) != (bt a1 x9_3)) = false := bne_eq_false_iff_eq.mpr c34
                        clear c34
                        by_cases c35 : x9_3 < ((rd_L1 y116 x7_2).length : Int)
                        ·
                         rw [if_pos c35] at H
                         have c35b0 : decide (x9_3 < ((rd_L1 y116 x7_2).length : Int)) = true := decide_eq_true c35
                         (try (have c35b0_ := c35b0; rw [hl5_3] at c35b0_))
                         clear c35
                         by_cases c36 : (ji24) < ((rd_L1 y116 (ji19)).length : Int)
                         ·
                          rw [if_pos c36] at H
                          have c36b0 : decide ((ji24) < ((rd_L1 y116 (ji19)).length : Int)) = true := decide_eq_true c36
                          (try (have c36b0_ := c36b0; rw [hl5_3] at c36b0_))
                          clear c36
                          replace H := Option.bind_eq_some_iff.mp H
                          obtain ⟨t122, A370, H⟩ := H
                          replace H : (spec_bkCommon.l2 k3 a0 a1 (y116.set (x7_2 : Int).toNat ((rd_L1 y116 x7_2).set (x9_3 : Int).toNat t122)) x7_2 (wrap64 (x9_3 - 1))) = some r := H
                          have A37 := Aside0.mk A370
                          clear A370
                          obtain ⟨y123, hy123⟩ : ∃ y_ : List Int, y_ = ((rd_L1 y116 x7_2).set (x9_3 : Int).toNat t122) := ⟨_, rfl⟩
                          replace H : (spec_bkCommon.l2 k3 a0 a1 (y116.set (x7_2 : Int).toNat y123) x7_2 (wrap64 (x9_3 - 1))) = some r := by first | (rw [hy123]; with_reducible exact H) | (have H2_ := (Option.bind_some _ _).symm.trans H; rw [hy123]; with_reducible exact H2_) | (have H2_ := (Option.bind_some _ _).symm.trans H; with_reducible exact H2_) | with_reducible exact H | (rw [hy123]; exact H) | exact H
                          have Ny123 := Aside0.mk hy123
                          clear hy123
                          obtain ⟨y125, hy125⟩ : ∃ y_ : List (List Int), y_ = (y116.set (x7_2 : Int).toNat y123) := ⟨_, rfl⟩
                          replace H : (spec_bkCommon.l2 k3 a0 a1 y125 x7_2 (wrap64 (x9_3 - 1))) = some r := by first | (rw [hy125]; with_reducible exact H) | (have H2_ := (Option.bind_some _ _).symm.trans H; rw [hy125]; with_reducible exact H2_) | (have H2_ := (Option.bind_some _ _).symm.trans H; with_reducible exact H2_) | with_reducible exact H | (rw [hy125]; exact H) | exact H
                          have Ny125 := Aside0.mk hy125
                          clear hy125
                          have H' := Aside0.mk H
                          clear H
                          try go_wp2
                          have n0_ := Aside0.mk (Kd.S_drew HO_5.out)
                          have n1_ := Aside0.mk (below_drew1 HB.out)
                          clear HO_5
                          clear HB
                          have HO_5 := n0_
                          have HB := n1_
                          clear n0_ n1_
                          have p108 : 0 ≤ (x7_2 : Int) := of_decide_eq_true (by first | (with_reducible assumption) | assumption)
                          have q108 : x7_2 < (x5_3.length : Int) := of_decide_eq_true (by first | (with_reducible assumption) | assumption)
                          obtain ⟨ad108, A108_0, c108_0, e108, hx108_0, hl108_0, hi108_0⟩ := at_L1 (Kd.S_reads' HO_5.out).2.2 x7_2 p108 q108
                          obtain rfl : ad107 = ad108 := (by injection e108)
                          obtain ⟨ce108, hce108, hMe108, hcc108⟩ := Kd.S_get HO_5.out [] x7_2 p108 (by first | exact q108 | exact of_decide_eq_true (by first | (with_reducible assumption) | assumption) | (have e_ := (Kd.S_reads' HO_5.out).1; omega))
                          obtain ⟨ve108_0, rfl, ge108_0⟩ := hMe108
                          have hv108_0 := hcc108 0 _ rfl
                          rw [Nat.add_zero, show ((Kd.slice 3 (Kd.int .i64))).sz = 1 from rfl, Nat.mul_one] at hv108_0
                          replace hv108_0 := Option.some.inj (hv108_0.symm.trans hx108_0)
                          rw [hv108_0] at ge108_0
                          have HL108_0 := Aside0.mk (show Kd.R (Kd.int .i64) 3 _ _ _ _ (rd_L1 x5_3 x7_2) from ge108_0)
                          clear hv108_0 ge108_0
                          have HX108_0 := Aside0.mk hx108_0
                          (try (have eal_ := Option.some.inj (HE8.out.symm.trans hx108_0)))
                          (first | subst eal_ | (injection eal_ with e1_ e2_ e3_; subst e1_; subst e3_; (try simp only [e2_] at HE8 ⊢)) | skip)
                          clear hcc108 hce108
                          have HR108_0 := Aside0.mk hi108_0
                          have HC108_0 := Aside0.mk hl108_0
                          clear hi108_0 hl108_0
                          replace p108 := eq_true p108
                          replace q108 := eq_true q108
                          have p109 : 0 ≤ ((ji19) : Int) := of_decide_eq_true (by first | (with_reducible assumption) | assumption)
                          have q109 : (ji19) < (x5_3.length : Int) := of_decide_eq_true (by first | (with_reducible assumption) | assumption)
                          obtain ⟨ad109, A109_0, c109_0, e109, hx109_0, hl109_0, hi109_0⟩ := at_L1 (Kd.S_reads' HO_5.out).2.2 (ji19) p109 q109
                          obtain rfl : ad107 = ad109 := (by injection e109)
                          obtain ⟨ce109, hce109, hMe109, hcc109⟩ := Kd.S_get HO_5.out [] (ji19) p109 (by first | exact q109 | exact of_decide_eq_true (by first | (with_reducible assumption) | assumption) | (have e_ := (Kd.S_reads' HO_5.out).1; omega))
                          obtain ⟨ve109_0, rfl, ge109_0⟩ := hMe109
                          have hv109_0 := hcc109 0 _ rfl
                          rw [Nat.add_zero, show ((Kd.slice 3 (Kd.int .i64))).sz = 1 from rfl, Nat.mul_one] at hv109_0
                          replace hv109_0 := Option.some.inj (hv109_0.symm.trans hx109_0)
                          rw [hv109_0] at ge109_0
                          have HL109_0 := Aside0.mk (show Kd.R (Kd.int .i64) 3 _ _ _ _ (rd_L1 x5_3 (ji19)) from ge109_0)
                          clear hv109_0 ge109_0
                          have HX109_0 := Aside0.mk hx109_0
                          clear hcc109 hce109
                          have HR109_0 := Aside0.mk hi109_0
                          have HC109_0 := Aside0.mk hl109_0
                          clear hi109_0 hl109_0
                          replace p109 := eq_true p109
                          replace q109 := eq_true q109
                          have p110 : 0 ≤ (x9_3 : Int) := of_decide_eq_true (by first | (with_reducible assumption) | assumption)
                          have q110 : x9_3 < ((rd_L1 x5_3 (ji19)).length : Int) := of_decide_eq_true (by first | (with_reducible assumption) | assumption)
                          obtain ⟨ad110, e110, hx110_0⟩ := Kd.at_int (by repeat (first | (with_reducible exact HR109_0.out) | (with_reducible refine Kd.C_alloc ?_ _) | (with_reducible refine Kd.C_drewN ?_ _) | (with_reducible refine Kd.C_drew ?_) | exact HR109_0.out)) x9_3 p110 q110
                          cases e110
                          replace p110 := eq_true p110
                          replace q110 := eq_true q110
                          have p111 : 0 ≤ (x7_2 : Int) := of_decide_eq_true (by first | (with_reducible assumption) | assumption)
                          have q111 : x7_2 < (x5_3.length : Int) := of_decide_eq_true (by first | (with_reducible assumption) | assumption)
                          obtain ⟨ad111, A111_0, c111_0, e111, hx111_0, hl111_0, hi111_0⟩ := at_L1 (Kd.S_reads' HO_5.out).2.2 x7_2 p111 q111
                          obtain rfl : ad107 = ad111 := (by injection e111)
                          obtain ⟨ce111, hce111, hMe111, hcc111⟩ := Kd.S_get HO_5.out [] x7_2 p111 (by first | exact q111 | exact of_decide_eq_true (by first | (with_reducible assumption) | assumption) | (have e_ := (Kd.S_reads' HO_5.out).1; omega))
                          obtain ⟨ve111_0, rfl, ge111_0⟩ := hMe111
                          have hv111_0 := hcc111 0 _ rfl
                          rw [Nat.add_zero, show ((Kd.slice 3 (Kd.int .i64))).sz = 1 from rfl, Nat.mul_one] at hv111_0
                          replace hv111_0 := Option.some.inj (hv111_0.symm.trans hx111_0)
                          rw [hv111_0] at ge111_0
                          have HL111_0 := Aside0.mk (show Kd.R (Kd.int .i64) 3 _ _ _ _ (rd_L1 x5_3 x7_2) from ge111_0)
                          clear hv111_0 ge111_0
                          have HX111_0 := Aside0.mk hx111_0
                          (try (have eal_ := Option.some.inj (HE8.out.symm.trans hx111_0)))
                          (try subst eal_)
                          clear hcc111 hce111
                          have HR111_0 := Aside0.mk hi111_0
                          have HC111_0 := Aside0.mk hl111_0
                          clear hi111_0 hl111_0
                          replace p111 := eq_true p111
                          replace q111 := eq_true q111
                          have ea_ := Option.some.inj (hx108_0.symm.trans hx111_0)
                          injection ea_ with ea_ en_ ec_
                          subst ea_
                          subst ec_
                          clear en_
                          have p112 : 0 ≤ ((ji24) : Int) := of_decide_eq_true (by first | (with_reducible assumption) | assumption)
                          have q112 : (ji24) < ((rd_L1 x5_3 x7_2).length : Int) := of_decide_eq_true (by first | (with_reducible assumption) | assumption)
                          obtain ⟨ad112, e112, hx112_0⟩ := Kd.at_int (by repeat (first | (with_reducible exact HR111_0.out) | (with_reducible refine Kd.C_alloc ?_ _) | (with_reducible refine Kd.C_drewN ?_ _) | (with_reducible refine Kd.C_drew ?_) | exact HR111_0.out)) (ji24) p112 q112
                          cases e112
                          replace p112 := eq_true p112
                          replace q112 := eq_true q112
                          refine start_ (n := 18) (S := fun w' => w'.cell? (ad107.add (x7_2).toNat) = some (.slice (some ad112) (rd_L1 x5_3 x7_2).length c108_0) ∧ w'.cell? (ad107.add ((ji19)).toNat) = some (.slice (some ad110) (rd_L1 x5_3 (ji19)).length c109_0) ∧ w'.cell? (ad110.add (x9_3).toNat) = some (.int .i64 (rd (rd_L1 x5_3 (ji19)) x9_3)) ∧ w'.cell? (ad107.add (x7_2).toNat) = some (.slice (some ad112) (rd_L1 x5_3 x7_2).length c108_0) ∧ w'.cell? (ad112.add ((ji24)).toNat) = some (.int .i64 (rd (rd_L1 x5_3 x7_2) (ji24)))) (ds := [17]) #[false, false, false, false, false, false, false, false, false, false, false, false, false, false, false, false, false, false] (by kernel_rfl) rfl rfl ⟨hx108_0, hx109_0, hx110_0, hx111_0, hx112_0⟩ (fun hHeld => ?_); refine with_tabW spec_bkCommon.tab13 spec_bkCommon.bits13 (fun HT_ HW_ => ?_)
                          have ne8_ := Aside0.mk (spec_bkCommon_aldw HE8.out)
                          clear HE8
                          have HE8 := ne8_
                          clear ne8_
                          generalize wr.drew = w39 at HE8 HO_5 HB HL108_0 HL109_0 HL111_0 HR108_0 HR109_0 HR111_0 HX108_0 HX109_0 HX111_0 hx108_0 hx109_0 hx110_0 hx111_0 hx112_0 hHeld ⊢
                          refine pure_ (i := 0) (N := some 41) (v := ?_) (a' := ?_) #[true, false, false, false, false, false, false, false, false, false, false, false, false, false, false, false, false, false] rfl rfl (any_of HT_.out (by kernel_rfl)) (fun _ _ _ h => h) (Or.inl ⟨by rfl, ?_⟩) ?_ ?_
                          rotate_left
                          ·
                           intro w'
                           go_simp
                           with_reducible rfl
                          rotate_left
                          ·
                           simp only [Act.put, List.setIfInBounds_toArray, List.set_cons_zero, List.set_cons_succ, i64_w, i32_w]
                           rfl
                          refine pure_ (i := 1) (N := some 42) (v := ?_) (a' := ?_) #[true, true, false, false, false, false, false, false, false, false, false, false, false, false, false, false, false, false] rfl rfl (any_of HT_.out (by kernel_rfl)) (fun _ _ _ h => h) (Or.inl ⟨by rfl, ?_⟩) ?_ ?_
                          rotate_left
                          ·
                           intro w'
                           go_simp
                           with_reducible rfl
                          rotate_left
                          ·
                           simp only [Act.put, List.setIfInBounds_toArray, List.set_cons_zero, List.set_cons_succ, i64_w, i32_w]
                           rfl
                          refine pure_ (i := 2) (N := some 43) (v := ?_) (a' := ?_) #[true, true, true, false, false, false, false, false, false, false, false, false, false, false, false, false, false, false] rfl rfl (any_of HT_.out (by kernel_rfl)) (fun _ _ _ h => h) (Or.inl ⟨by rfl, ?_⟩) ?_ ?_
                          rotate_left
                          ·
                           intro w'
                           go_simp
                           with_reducible rfl
                          rotate_left
                          ·
                           simp only [Act.put, List.setIfInBounds_toArray, List.set_cons_zero, List.set_cons_succ, i64_w, i32_w]
                           rfl
                          refine pure_ (i := 3) (N := some 44) (v := ?_) (a' := ?_) #[true, true, true, true, false, false, false, false, false, false, false, false, false, false, false, false, false, false] rfl rfl (any_of HT_.out (by kernel_rfl)) (fun _ _ _ h => h) (Or.inl ⟨by rfl, ?_⟩) ?_ ?_
                          rotate_left
                          ·
                           intro w'
                           go_simp
                           with_reducible rfl
                          rotate_left
                          ·
                           simp only [Act.put, List.setIfInBounds_toArray, List.set_cons_zero, List.set_cons_succ, i64_w, i32_w]
                           rfl
                          refine pure_ (i := 4) (N := some 45) (v := ?_) (a' := ?_) #[true, true, true, true, true, false, false, false, false, false, false, false, false, false, false, false, false, false] rfl rfl (any_of HT_.out (by kernel_rfl)) (fun _ _ _ h => h) (Or.inl ⟨by rfl, ?_⟩) ?_ ?_
                          rotate_left
                          ·
                           intro w'
                           go_simp
                           with_reducible rfl
                          rotate_left
                          ·
                           simp only [Act.put, List.setIfInBounds_toArray, List.set_cons_zero, List.set_cons_succ, i64_w, i32_w]
                           rfl
                          refine pure_ (i := 5) (N := some 46) (v := ?_) (a' := ?_) #[true, true, true, true, true, true, false, false, false, false, false, false, false, false, false, false, false, false] rfl rfl (any_of HT_.out (by kernel_rfl)) (fun _ _ _ h => h) (Or.inl ⟨by rfl, ?_⟩) ?_ ?_
                          rotate_left
                          ·
                           intro w'
                           go_simp
                           with_reducible rfl
                          rotate_left
                          ·
                           simp only [Act.put, List.setIfInBounds_toArray, List.set_cons_zero, List.set_cons_succ, i64_w, i32_w]
                           rfl
                          refine pure_ (i := 7) (N := some 48) (v := ?_) (a' := ?_) #[true, true, true, true, true, true, false, true, false, false, false, false, false, false, false, false, false, false] rfl rfl (any_of HT_.out (by kernel_rfl)) (fun _ _ _ h => h) (Or.inl ⟨by rfl, ?_⟩) ?_ ?_
                          rotate_left
                          ·
                           intro w'
                           go_simp
                           with_reducible rfl
                          rotate_left
                          ·
                           simp only [Act.put, List.setIfInBounds_toArray, List.set_cons_zero, List.set_cons_succ, i64_w, i32_w]
                           rfl
                          refine pure_ (i := 10) (N := some 51) (v := ?_) (a' := ?_) #[true, true, true, true, true, true, false, true, false, false, true, false, false, false, false, false, false, false] rfl rfl (any_of HT_.out (by kernel_rfl)) (fun _ _ _ h => h) (Or.inl ⟨by rfl, ?_⟩) ?_ ?_
                          rotate_left
                          ·
                           intro w'
                           go_simp
                           with_reducible rfl
                          rotate_left
                          ·
                           simp only [Act.put, List.setIfInBounds_toArray, List.set_cons_zero, List.set_cons_succ, i64_w, i32_w]
                           rfl
                          refine pure_ (i := 11) (N := some 52) (v := ?_) (a' := ?_) #[true, true, true, true, true, true, false, true, false, false, true, true, false, false, false, false, false, false] rfl rfl (any_of HT_.out (by kernel_rfl)) (fun _ _ _ h => h) (Or.inl ⟨by rfl, ?_⟩) ?_ ?_
                          rotate_left
                          ·
                           intro w'
                           go_simp
                           with_reducible rfl
                          rotate_left
                          ·
                           simp only [Act.put, List.setIfInBounds_toArray, List.set_cons_zero, List.set_cons_succ, i64_w, i32_w]
                           rfl
                          refine pure_ (i := 12) (N := some 53) (v := ?_) (a' := ?_) #[true, true, true, true, true, true, false, true, false, false, true, true, true, false, false, false, false, false] rfl rfl (any_of HT_.out (by kernel_rfl)) (fun _ _ _ h => h) (Or.inl ⟨by rfl, ?_⟩) ?_ ?_
                          rotate_left
                          ·
                           intro w'
                           go_simp
                           with_reducible rfl
                          rotate_left
                          ·
                           simp only [Act.put, List.setIfInBounds_toArray, List.set_cons_zero, List.set_cons_succ, i64_w, i32_w]
                           rfl
                          refine pure_ (i := 13) (N := some 54) (v := ?_) (a' := ?_) #[true, true, true, true, true, true, false, true, false, false, true, true, true, true, false, false, false, false] rfl rfl (any_of HT_.out (by kernel_rfl)) (fun _ _ _ h => h) (Or.inl ⟨by rfl, ?_⟩) ?_ ?_
                          rotate_left
                          ·
                           intro w'
                           go_simp
                           with_reducible rfl
                          rotate_left
                          ·
                           simp only [Act.put, List.setIfInBounds_toArray, List.set_cons_zero, List.set_cons_succ, i64_w, i32_w]
                           rfl
                          refine take_ (i := 6) (N := some 47) (v := ?_) (a' := ?_) #[true, true, true, true, true, true, true, true, false, false, true, true, true, true, false, false, false, false] rfl rfl (take_ofW HT_.out HW_.out (by kernel_rfl)) (fun _ _ _ h => h) (Or.inl ⟨by rfl, ?_⟩) hHeld ?_ ?_
                          rotate_left
                          ·
                           rintro w' ⟨s0, s1, s2, s3, s4⟩
                           go_simp
                           with_reducible rfl
                          rotate_left
                          ·
                           simp only [Act.put, List.setIfInBounds_toArray, List.set_cons_zero, List.set_cons_succ, i64_w, i32_w]
                           rfl
                          refine pure_ (i := 8) (N := some 49) (v := ?_) (a' := ?_) #[true, true, true, true, true, true, true, true, true, false, true, true, true, true, false, false, false, false] rfl rfl (any_of HT_.out (by kernel_rfl)) (fun _ _ _ h => h) (Or.inl ⟨by rfl, ?_⟩) ?_ ?_
                          rotate_left
                          ·
                           intro w'
                           go_simp
                           with_reducible rfl
                          rotate_left
                          ·
                           simp only [Act.put, List.setIfInBounds_toArray, List.set_cons_zero, List.set_cons_succ, i64_w, i32_w]
                           rfl
                          refine take_ (i := 9) (N := some 50) (v := ?_) (a' := ?_) #[true, true, true, true, true, true, true, true, true, true, true, true, true, true, false, false, false, false] rfl rfl (take_ofW HT_.out HW_.out (by kernel_rfl)) (fun _ _ _ h => h) (Or.inl ⟨by rfl, ?_⟩) hHeld ?_ ?_
                          rotate_left
                          ·
                           rintro w' ⟨s0, s1, s2, s3, s4⟩
                           go_simp
                           with_reducible rfl
                          rotate_left
                          ·
                           simp only [Act.put, List.setIfInBounds_toArray, List.set_cons_zero, List.set_cons_succ, i64_w, i32_w]
                           rfl
                          refine take_ (i := 14) (N := some 55) (v := ?_) (a' := ?_) #[true, true, true, true, true, true, true, true, true, true, true, true, true, true, true, false, false, false] rfl rfl (take_ofW HT_.out HW_.out (by kernel_rfl)) (fun _ _ _ h => h) (Or.inl ⟨by rfl, ?_⟩) hHeld ?_ ?_
                          rotate_left
                          ·
                           rintro w' ⟨s0, s1, s2, s3, s4⟩
                           go_simp
                           with_reducible rfl
                          rotate_left
                          ·
                           simp only [Act.put, List.setIfInBounds_toArray, List.set_cons_zero, List.set_cons_succ, i64_w, i32_w]
                           rfl
                          refine one_ (i := 15) (N := some 56) #[true, true, true, true, true, true, true, true, true, true, true, true, true, true, true, true, false, false] rfl rfl (one_of HT_.out (by kernel_rfl)) (by decide) (fun K hK => ?_)
                          refine goes_ Tryd.func62 (by kernel_rfl) rfl #[.int .i64 (rd (rd_L1 x5_3 (ji19)) x9_3), .int .i64 (rd (rd_L1 x5_3 x7_2) (ji24))] (by rfl) rfl rfl (by (try simp only [List.map_toArray, List.map_cons, List.map_nil]); first | done | (simp only [hji19, hji24]; rfl) | rfl | (simp only [List.length_drop, List.length_take]; rfl)) ?_
                          with_reducible refine (spec_l1Most.calls (rd (rd_L1 x5_3 (ji19)) x9_3) (rd (rd_L1 x5_3 x7_2) (ji24)) t113 _ A27.out).mono ?_
                          rintro e w' ⟨rfl, ⟨nd, rfl⟩⟩
                          refine ⟨_, rfl, ?_⟩
                          have p29 : 0 ≤ (x9_3 : Int) := of_decide_eq_true (by first | (with_reducible assumption) | assumption)
                          have q29 : (x9_3 : Int) < (((rd_L1 x5_3 x7_2).length : Int) : Int) := of_decide_eq_true (by first | (with_reducible assumption) | assumption)
                          obtain ⟨go29, co29, eo29, gb29, gl29, cl29, HG29⟩ := Kd.R_form HL108_0.out (by omega)
                          (first | cases eo29 | (injection eo29 with ea_ en_ ec_; (first | subst ea_ | (injection ea_ with ea_; subst ea_)); subst ec_; clear en_))
                          have GB29 := Aside0.mk gb29
                          have GG29 := Aside0.mk HG29
                          clear gb29 gl29 HG29
                          (first | simp only [add_plain] at hx112_0 | skip)
                          obtain ⟨hx29_0, hf29_0⟩ := Kd.R_celln 0 HL108_0.out (x9_3 : Int) p29 q29
                          replace p29 := eq_true p29
                          replace q29 := eq_true q29
                          have hq40 : (x7_2 : Int) < (x5_3.length : Int) := (by have h_ : (x7_2 : Int) < ((x5_3.length : Int) : Int) := of_decide_eq_true (by first | (with_reducible assumption) | assumption); first | exact h_ | (have e_ := (Kd.S_reads' HO_5.out).1; omega) | simpa only [List.length_set, List.length_set] using h_)
                          obtain ⟨oki40, ce40, hcl40, hM40, hcc40, hok40, hbk40⟩ := Kd.S_borrow HO_5.out [] (x7_2 : Int) (of_decide_eq_true (by first | (with_reducible assumption) | assumption)) hq40
                          obtain ⟨ve40_0, rfl, ge40_0⟩ := hM40
                          have hv40 := hcc40 0 _ rfl
                          rw [Nat.add_zero, show ((Kd.slice 3 (Kd.int .i64))).sz = 1 from rfl, Nat.mul_one] at hv40
                          replace hv40 := Option.some.inj (hv40.symm.trans HX108_0.out)
                          subst hv40
                          clear hcc40 hcl40
                          replace ge40_0 := (show Kd.R (Kd.int .i64) 3 _ _ _ _ (rd_L1 x5_3 x7_2) from ge40_0)
                          have HP40 := Kd.R_putg ge40_0 (x9_3 : Int) t113
                          rw [← Ny114.out] at HP40
                          have HS40 := hbk40 HP40.2 (fun k_ e_ => by injection e_ with e_; subst e_; exact ge40_0.1 _ rfl) (x' := y114) (Kd.M_row HP40.1)
                          rw [← Ny116.out] at HS40
                          have HQ40 := Aside0.mk HS40
                          have HE9 := Aside0.mk (spec_bkCommon_alkeep HP40.2 (spec_bkCommon_alne (hok40 _ (ge40_0.1 _ rfl)).2) HE8.out)
                          clear HP40 HS40 hbk40 hok40
                          refine hK.out _ _ ⟨hHeld.1, hHeld.2.1, hHeld.2.2.1, hHeld.2.2.2.1, hHeld.2.2.2.2⟩ (fun hHeld => ?_)
                          clear hK K
                          refine norm_ (a' := ?_) ?_ ?_
                          rotate_left
                          ·
                           show Act.put _ (some 56) _ = _
                           simp only [Act.put, List.setIfInBounds_toArray, List.set_cons_zero, List.set_cons_succ, i64_w, i32_w]
                           rfl
                          refine pure_ (i := 16) (N := some 57) (v := ?_) (a' := ?_) #[true, true, true, true, true, true, true, true, true, true, true, true, true, true, true, true, true, false] rfl rfl (any_of HT_.out (by kernel_rfl)) (fun _ _ _ h => h) (Or.inl ⟨by rfl, ?_⟩) ?_ ?_
                          rotate_left
                          ·
                           intro w'
                           go_simp
                           with_reducible rfl
                          rotate_left
                          ·
                           simp only [Act.put, List.setIfInBounds_toArray, List.set_cons_zero, List.set_cons_succ, i64_w, i32_w]
                           rfl
                          refine last_ (i := 17) (N := none) #[true, true, true, true, true, true, true, true, true, true, true, true, true, true, true, true, true, true] rfl rfl (one_of HT_.out (by kernel_rfl)) (by decide) (fun K hK => ?_)
                          refine skip_ (w1 := ?_) (by rfl) rfl ?_ ?_
                          rotate_left
                          ·
                           go_simp
                           rfl
                          refine hK.out _ _ ?_
                          clear hK K
                          refine done_ (done_of HT_.out (by kernel_rfl)) ?_
                          try go_wp2
                          have n0_ : Aside0 (Kd.S (Kd.slice 3 (Kd.int .i64)) 43 ((w39.drewN nd).setCell ⟨go29, (x9_3 : Int).toNat, none⟩ (.int .i64 t113)) w.heap.size (fun _ => True) (.slice (some ad107) x5_3.length co15) y116) := ⟨by (with_reducible repeat (first | apply Kd.S_alloc | apply Kd.S_drewN | apply Kd.S_drew)); exact HQ40.out⟩
                          have n1_ : Aside0 (Below w.heap.size w ((w39.drewN nd).setCell ⟨go29, (x9_3 : Int).toNat, none⟩ (.int .i64 t113))) := ⟨by repeat (first | (with_reducible first | exact HB.out | apply below_alloc | apply pw_below_drewN | apply below_drew1 | refine below_set ?_ GB29.out) | exact HB.out)⟩
                          (try clear HO_5)
                          (try clear HB)
                          have ne8_ := Aside0.mk (spec_bkCommon_aldc (m := nd) HE9.out)
                          generalize ((w39.drewN nd).setCell ⟨go29, (x9_3 : Int).toNat, none⟩ (.int .i64 t113)) = w42 at n0_ n1_ ne8_ ⊢
                          clear HE8
                          have HE8 := ne8_
                          clear ne8_ HE9
                          have HO_5 := n0_
                          have HB := n1_
                          clear n0_ n1_
                          (try (rw [drewN_self w42]; generalize hq_ : World.drewN w42 _ = w42; have n0_ : Aside0 (Kd.S (Kd.slice 3 (Kd.int .i64)) 43 w42 w.heap.size (fun _ => True) (.slice (some ad107) x5_3.length co15) y116) := ⟨by rw [← hq_]; exact (by (with_reducible repeat (first | apply Kd.S_alloc | apply Kd.S_drewN | apply Kd.S_drew)); exact HO_5.out)⟩; have n1_ : Aside0 (Below w.heap.size w w42) := ⟨by rw [← hq_]; exact (by repeat (first | (with_reducible first | exact HB.out | apply below_alloc | apply pw_below_drewN | apply below_drew1) | exact HB.out))⟩; have ne8_ := Aside0.mk (cell_at hq_ HE8.out); clear HE8; have HE8 := ne8_; clear ne8_; clear HO_5 HB hq_; have HO_5 := n0_; have HB := n1_; clear n0_ n1_))
                          have n0_ := Aside0.mk (Kd.S_drew HO_5.out)
                          have n1_ := Aside0.mk (below_drew1 HB.out)
                          clear HO_5
                          clear HB
                          have HO_5 := n0_
                          have HB := n1_
                          clear n0_ n1_
                          have p31 : 0 ≤ (x7_2 : Int) := of_decide_eq_true (by first | (with_reducible assumption) | assumption)
                          have q31 : x7_2 < (a0.size : Int) := of_decide_eq_true (by first | (with_reducible assumption) | assumption)
                          have hx31 := bt_at a0 x7_2
                          replace p31 := eq_true p31
                          replace q31 := eq_true q31
                          have p33 : 0 ≤ (x9_3 : Int) := of_decide_eq_true (by first | (with_reducible assumption) | assumption)
                          have q33 : x9_3 < (a1.size : Int) := of_decide_eq_true (by first | (with_reducible assumption) | assumption)
                          have hx33 := bt_at a1 x9_3
                          replace p33 := eq_true p33
                          replace q33 := eq_true q33
                          refine start_ (n := 7) (S := fun w' => True) (ds := []) #[false, false, false, false, false, false, false] (by kernel_rfl) rfl rfl trivial (fun hHeld => ?_)
                          have ne8_ := Aside0.mk (spec_bkCommon_aldw HE8.out)
                          clear HE8
                          have HE8 := ne8_
                          clear ne8_
                          generalize w42.drew = w43 at HE8 HO_5 HB HQ40 hHeld ⊢
                          refine pure_ (i := 0) (N := some 58) (v := ?_) (a' := ?_) #[true, false, false, false, false, false, false] rfl rfl (by kernel_rfl) (fun _ _ _ h => h) (Or.inl ⟨by rfl, ?_⟩) ?_ ?_
                          rotate_left
                          ·
                           intro w'
                           go_simp
                           with_reducible rfl
                          rotate_left
                          ·
                           simp only [Act.put, List.setIfInBounds_toArray, List.set_cons_zero, List.set_cons_succ, i64_w, i32_w]
                           rfl
                          refine pure_ (i := 1) (N := some 59) (v := ?_) (a' := ?_) #[true, true, false, false, false, false, false] rfl rfl (by kernel_rfl) (fun _ _ _ h => h) (Or.inl ⟨by rfl, ?_⟩) ?_ ?_
                          rotate_left
                          ·
                           intro w'
                           go_simp
                           with_reducible rfl
                          rotate_left
                          ·
                           simp only [Act.put, List.setIfInBounds_toArray, List.set_cons_zero, List.set_cons_succ, i64_w, i32_w]
                           rfl
                          refine pure_ (i := 3) (N := some 61) (v := ?_) (a' := ?_) #[true, true, false, true, false, false, false] rfl rfl (by kernel_rfl) (fun _ _ _ h => h) (Or.inl ⟨by rfl, ?_⟩) ?_ ?_
                          rotate_left
                          ·
                           intro w'
                           go_simp
                           with_reducible rfl
                          rotate_left
                          ·
                           simp only [Act.put, List.setIfInBounds_toArray, List.set_cons_zero, List.set_cons_succ, i64_w, i32_w]
                           rfl
                          refine pure_ (i := 4) (N := some 62) (v := ?_) (a' := ?_) #[true, true, false, true, true, false, false] rfl rfl (by kernel_rfl) (fun _ _ _ h => h) (Or.inl ⟨by rfl, ?_⟩) ?_ ?_
                          rotate_left
                          ·
                           intro w'
                           go_simp
                           with_reducible rfl
                          rotate_left
                          ·
                           simp only [Act.put, List.setIfInBounds_toArray, List.set_cons_zero, List.set_cons_succ, i64_w, i32_w]
                           rfl
                          refine take_ (i := 2) (N := some 60) (v := ?_) (a' := ?_) #[true, true, true, true, true, false, false] rfl rfl (by kernel_rfl) (fun _ _ _ h => h) (Or.inl ⟨by rfl, ?_⟩) hHeld ?_ ?_
                          rotate_left
                          ·
                           intro w' _
                           go_simp
                           with_reducible rfl
                          rotate_left
                          ·
                           simp only [Act.put, List.setIfInBounds_toArray, List.set_cons_zero, List.set_cons_succ, i64_w, i32_w]
                           rfl
                          refine take_ (i := 5) (N := some 63) (v := ?_) (a' := ?_) #[true, true, true, true, true, true, false] rfl rfl (by kernel_rfl) (fun _ _ _ h => h) (Or.inl ⟨by rfl, ?_⟩) hHeld ?_ ?_
                          rotate_left
                          ·
                           intro w' _
                           go_simp
                           with_reducible rfl
                          rotate_left
                          ·
                           simp only [Act.put, List.setIfInBounds_toArray, List.set_cons_zero, List.set_cons_succ, i64_w, i32_w]
                           rfl
                          refine pure_ (i := 6) (N := some 64) (v := ?_) (a' := ?_) #[true, true, true, true, true, true, true] rfl rfl (by kernel_rfl) (fun _ _ _ h => h) (Or.inl ⟨by rfl, ?_⟩) ?_ ?_
                          rotate_left
                          ·
                           intro w'
                           go_simp
                           with_reducible rfl
                          rotate_left
                          ·
                           simp only [Act.put, List.setIfInBounds_toArray, List.set_cons_zero, List.set_cons_succ, i64_w, i32_w]
                           rfl
                          refine done_ (by kernel_rfl) ?_
                          try go_wp2
                          have n0_ := Aside0.mk (Kd.S_drew HO_5.out)
                          have n1_ := Aside0.mk (below_drew1 HB.out)
                          clear HO_5
                          clear HB
                          have HO_5 := n0_
                          have HB := n1_
                          clear n0_ n1_
                          have p117 : 0 ≤ (x7_2 : Int) := of_decide_eq_true (by first | (with_reducible assumption) | assumption)
                          have q117 : x7_2 < (y116.length : Int) := (by have h_ : (x7_2 : Int) < ((x5_3.length : Int) : Int) := of_decide_eq_true (by first | (with_reducible assumption) | assumption); first | (have e_ := (Kd.S_reads' HO_5.out).1; omega) | simpa only [Ny116.out, List.length_set] using h_)
                          have ql117 : ((x7_2 : Int) < ((x5_3.length : Int) : Int)) = True := eq_true (of_decide_eq_true (by first | (with_reducible assumption) | assumption))
                          obtain ⟨ad117, A117_0, c117_0, e117, hx117_0, hl117_0, hi117_0⟩ := at_L1 (Kd.S_reads' HO_5.out).2.2 x7_2 p117 q117
                          obtain rfl : ad107 = ad117 := (by injection e117)
                          obtain ⟨ce117, hce117, hMe117, hcc117⟩ := Kd.S_get HO_5.out [] x7_2 p117 (by first | exact q117 | exact of_decide_eq_true (by first | (with_reducible assumption) | assumption) | (have e_ := (Kd.S_reads' HO_5.out).1; omega))
                          obtain ⟨ve117_0, rfl, ge117_0⟩ := hMe117
                          have hv117_0 := hcc117 0 _ rfl
                          rw [Nat.add_zero, show ((Kd.slice 3 (Kd.int .i64))).sz = 1 from rfl, Nat.mul_one] at hv117_0
                          replace hv117_0 := Option.some.inj (hv117_0.symm.trans hx117_0)
                          rw [hv117_0] at ge117_0
                          have HL117_0 := Aside0.mk (show Kd.R (Kd.int .i64) 3 _ _ _ _ (rd_L1 y116 x7_2) from ge117_0)
                          clear hv117_0 ge117_0
                          have HX117_0 := Aside0.mk hx117_0
                          (try (have eal_ := Option.some.inj (HE8.out.symm.trans hx117_0)))
                          (first | subst eal_ | (injection eal_ with e1_ e2_ e3_; subst e1_; subst e3_; (try simp only [e2_] at HE8 ⊢)) | skip)
                          clear hcc117 hce117
                          have HR117_0 := Aside0.mk hi117_0
                          have HC117_0 := Aside0.mk hl117_0
                          clear hi117_0 hl117_0
                          replace p117 := eq_true p117
                          replace q117 := eq_true q117
                          have p118 : 0 ≤ (x7_2 : Int) := of_decide_eq_true (by first | (with_reducible assumption) | assumption)
                          have q118 : x7_2 < (y116.length : Int) := (by have h_ : (x7_2 : Int) < ((x5_3.length : Int) : Int) := of_decide_eq_true (by first | (with_reducible assumption) | assumption); first | (have e_ := (Kd.S_reads' HO_5.out).1; omega) | simpa only [Ny116.out, List.length_set] using h_)
                          have ql118 : ((x7_2 : Int) < ((x5_3.length : Int) : Int)) = True := eq_true (of_decide_eq_true (by first | (with_reducible assumption) | assumption))
                          obtain ⟨ad118, A118_0, c118_0, e118, hx118_0, hl118_0, hi118_0⟩ := at_L1 (Kd.S_reads' HO_5.out).2.2 x7_2 p118 q118
                          obtain rfl : ad107 = ad118 := (by injection e118)
                          obtain ⟨ce118, hce118, hMe118, hcc118⟩ := Kd.S_get HO_5.out [] x7_2 p118 (by first | exact q118 | exact of_decide_eq_true (by first | (with_reducible assumption) | assumption) | (have e_ := (Kd.S_reads' HO_5.out).1; omega))
                          obtain ⟨ve118_0, rfl, ge118_0⟩ := hMe118
                          have hv118_0 := hcc118 0 _ rfl
                          rw [Nat.add_zero, show ((Kd.slice 3 (Kd.int .i64))).sz = 1 from rfl, Nat.mul_one] at hv118_0
                          replace hv118_0 := Option.some.inj (hv118_0.symm.trans hx118_0)
                          rw [hv118_0] at ge118_0
                          have HL118_0 := Aside0.mk (show Kd.R (Kd.int .i64) 3 _ _ _ _ (rd_L1 y116 x7_2) from ge118_0)
                          clear hv118_0 ge118_0
                          have HX118_0 := Aside0.mk hx118_0
                          (try (have eal_ := Option.some.inj (HE8.out.symm.trans hx118_0)))
                          (try subst eal_)
                          clear hcc118 hce118
                          have HR118_0 := Aside0.mk hi118_0
                          have HC118_0 := Aside0.mk hl118_0
                          clear hi118_0 hl118_0
                          replace p118 := eq_true p118
                          replace q118 := eq_true q118
                          have ea_ := Option.some.inj (hx117_0.symm.trans hx118_0)
                          injection ea_ with ea_ en_ ec_
                          subst ea_
                          subst ec_
                          clear en_
                          have p119 : 0 ≤ (x9_3 : Int) := of_decide_eq_true (by first | (with_reducible assumption) | assumption)
                          have q119 : x9_3 < ((rd_L1 y116 x7_2).length : Int) := of_decide_eq_true (by first | (with_reducible assumption) | assumption)
                          obtain ⟨ad119, e119, hx119_0⟩ := Kd.at_int (by repeat (first | (with_reducible exact HR118_0.out) | (with_reducible refine Kd.C_alloc ?_ _) | (with_reducible refine Kd.C_drewN ?_ _) | (with_reducible refine Kd.C_drew ?_) | exact HR118_0.out)) x9_3 p119 q119
                          cases e119
                          replace p119 := eq_true p119
                          replace q119 := eq_true q119
                          have p120 : 0 ≤ ((ji19) : Int) := of_decide_eq_true (by first | (with_reducible assumption) | assumption)
                          have q120 : (ji19) < (y116.length : Int) := (by have h_ : ((ji19) : Int) < ((x5_3.length : Int) : Int) := of_decide_eq_true (by first | (with_reducible assumption) | assumption); first | (have e_ := (Kd.S_reads' HO_5.out).1; omega) | simpa only [Ny116.out, List.length_set] using h_)
                          have ql120 : (((ji19) : Int) < ((x5_3.length : Int) : Int)) = True := eq_true (of_decide_eq_true (by first | (with_reducible assumption) | assumption))
                          obtain ⟨ad120, A120_0, c120_0, e120, hx120_0, hl120_0, hi120_0⟩ := at_L1 (Kd.S_reads' HO_5.out).2.2 (ji19) p120 q120
                          obtain rfl : ad107 = ad120 := (by injection e120)
                          obtain ⟨ce120, hce120, hMe120, hcc120⟩ := Kd.S_get HO_5.out [] (ji19) p120 (by first | exact q120 | exact of_decide_eq_true (by first | (with_reducible assumption) | assumption) | (have e_ := (Kd.S_reads' HO_5.out).1; omega))
                          obtain ⟨ve120_0, rfl, ge120_0⟩ := hMe120
                          have hv120_0 := hcc120 0 _ rfl
                          rw [Nat.add_zero, show ((Kd.slice 3 (Kd.int .i64))).sz = 1 from rfl, Nat.mul_one] at hv120_0
                          replace hv120_0 := Option.some.inj (hv120_0.symm.trans hx120_0)
                          rw [hv120_0] at ge120_0
                          have HL120_0 := Aside0.mk (show Kd.R (Kd.int .i64) 3 _ _ _ _ (rd_L1 y116 (ji19)) from ge120_0)
                          clear hv120_0 ge120_0
                          have HX120_0 := Aside0.mk hx120_0
                          clear hcc120 hce120
                          have HR120_0 := Aside0.mk hi120_0
                          have HC120_0 := Aside0.mk hl120_0
                          clear hi120_0 hl120_0
                          replace p120 := eq_true p120
                          replace q120 := eq_true q120
                          have p121 : 0 ≤ ((ji24) : Int) := of_decide_eq_true (by first | (with_reducible assumption) | assumption)
                          have q121 : (ji24) < ((rd_L1 y116 (ji19)).length : Int) := of_decide_eq_true (by first | (with_reducible assumption) | assumption)
                          obtain ⟨ad121, e121, hx121_0⟩ := Kd.at_int (by repeat (first | (with_reducible exact HR120_0.out) | (with_reducible refine Kd.C_alloc ?_ _) | (with_reducible refine Kd.C_drewN ?_ _) | (with_reducible refine Kd.C_drew ?_) | exact HR120_0.out)) (ji24) p121 q121
                          cases e121
                          replace p121 := eq_true p121
                          replace q121 := eq_true q121
                          (try simp only [add_plain] at hx119_0)
                          refine start_ (n := 19) (S := fun w' => w'.cell? (ad107.add (x7_2).toNat) = some (.slice (some ⟨go29, 0, none⟩) (rd_L1 y116 x7_2).length c108_0) ∧ w'.cell? (ad107.add (x7_2).toNat) = some (.slice (some ⟨go29, 0, none⟩) (rd_L1 y116 x7_2).length c108_0) ∧ w'.cell? ⟨go29, (x9_3).toNat, none⟩ = some (.int .i64 (rd (rd_L1 y116 x7_2) x9_3)) ∧ w'.cell? (ad107.add ((ji19)).toNat) = some (.slice (some ad121) (rd_L1 y116 (ji19)).length c120_0) ∧ w'.cell? (ad121.add ((ji24)).toNat) = some (.int .i64 (rd (rd_L1 y116 (ji19)) (ji24)))) (ds := [18]) #[false, false, false, false, false, false, false, false, false, false, false, false, false, false, false, false, false, false, false] (by kernel_rfl) rfl rfl ⟨hx117_0, hx118_0, hx119_0, hx120_0, hx121_0⟩ (fun hHeld => ?_); refine with_tabW spec_bkCommon.tab15 spec_bkCommon.bits15 (fun HT_ HW_ => ?_)
                          have ne8_ := Aside0.mk (spec_bkCommon_aldw HE8.out)
                          clear HE8
                          have HE8 := ne8_
                          clear ne8_
                          generalize w43.drew = w44 at HE8 HO_5 HB HL117_0 HL118_0 HL120_0 HR117_0 HR118_0 HR120_0 HX117_0 HX118_0 HX120_0 hx117_0 hx118_0 hx119_0 hx120_0 hx121_0 hHeld ⊢
                          refine pure_ (i := 0) (N := some 65) (v := ?_) (a' := ?_) #[true, false, false, false, false, false, false, false, false, false, false, false, false, false, false, false, false, false, false] rfl rfl (any_of HT_.out (by kernel_rfl)) (fun _ _ _ h => h) (Or.inl ⟨by rfl, ?_⟩) ?_ ?_
                          rotate_left
                          ·
                           intro w'
                           go_simp
                           with_reducible rfl
                          rotate_left
                          ·
                           simp only [Act.put, List.setIfInBounds_toArray, List.set_cons_zero, List.set_cons_succ, i64_w, i32_w]
                           rfl
                          refine pure_ (i := 1) (N := some 66) (v := ?_) (a' := ?_) #[true, true, false, false, false, false, false, false, false, false, false, false, false, false, false, false, false, false, false] rfl rfl (any_of HT_.out (by kernel_rfl)) (fun _ _ _ h => h) (Or.inl ⟨by rfl, ?_⟩) ?_ ?_
                          rotate_left
                          ·
                           intro w'
                           go_simp
                           with_reducible rfl
                          rotate_left
                          ·
                           simp only [Act.put, List.setIfInBounds_toArray, List.set_cons_zero, List.set_cons_succ, i64_w, i32_w]
                           rfl
                          refine pure_ (i := 2) (N := some 67) (v := ?_) (a' := ?_) #[true, true, true, false, false, false, false, false, false, false, false, false, false, false, false, false, false, false, false] rfl rfl (any_of HT_.out (by kernel_rfl)) (fun _ _ _ h => h) (Or.inl ⟨by rfl, ?_⟩) ?_ ?_
                          rotate_left
                          ·
                           intro w'
                           go_simp
                           with_reducible rfl
                          rotate_left
                          ·
                           simp only [Act.put, List.setIfInBounds_toArray, List.set_cons_zero, List.set_cons_succ, i64_w, i32_w]
                           rfl
                          refine pure_ (i := 3) (N := some 68) (v := ?_) (a' := ?_) #[true, true, true, true, false, false, false, false, false, false, false, false, false, false, false, false, false, false, false] rfl rfl (any_of HT_.out (by kernel_rfl)) (fun _ _ _ h => h) (Or.inl ⟨by rfl, ?_⟩) ?_ ?_
                          rotate_left
                          ·
                           intro w'
                           go_simp
                           with_reducible rfl
                          rotate_left
                          ·
                           simp only [Act.put, List.setIfInBounds_toArray, List.set_cons_zero, List.set_cons_succ, i64_w, i32_w]
                           rfl
                          refine pure_ (i := 4) (N := some 69) (v := ?_) (a' := ?_) #[true, true, true, true, true, false, false, false, false, false, false, false, false, false, false, false, false, false, false] rfl rfl (any_of HT_.out (by kernel_rfl)) (fun _ _ _ h => h) (Or.inl ⟨by rfl, ?_⟩) ?_ ?_
                          rotate_left
                          ·
                           intro w'
                           go_simp
                           with_reducible rfl
                          rotate_left
                          ·
                           simp only [Act.put, List.setIfInBounds_toArray, List.set_cons_zero, List.set_cons_succ, i64_w, i32_w]
                           rfl
                          refine pure_ (i := 6) (N := some 71) (v := ?_) (a' := ?_) #[true, true, true, true, true, false, true, false, false, false, false, false, false, false, false, false, false, false, false] rfl rfl (any_of HT_.out (by kernel_rfl)) (fun _ _ _ h => h) (Or.inl ⟨by rfl, ?_⟩) ?_ ?_
                          rotate_left
                          ·
                           intro w'
                           go_simp
                           with_reducible rfl
                          rotate_left
                          ·
                           simp only [Act.put, List.setIfInBounds_toArray, List.set_cons_zero, List.set_cons_succ, i64_w, i32_w]
                           rfl
                          refine pure_ (i := 7) (N := some 72) (v := ?_) (a' := ?_) #[true, true, true, true, true, false, true, true, false, false, false, false, false, false, false, false, false, false, false] rfl rfl (any_of HT_.out (by kernel_rfl)) (fun _ _ _ h => h) (Or.inl ⟨by rfl, ?_⟩) ?_ ?_
                          rotate_left
                          ·
                           intro w'
                           go_simp
                           with_reducible rfl
                          rotate_left
                          ·
                           simp only [Act.put, List.setIfInBounds_toArray, List.set_cons_zero, List.set_cons_succ, i64_w, i32_w]
                           rfl
                          refine pure_ (i := 8) (N := some 73) (v := ?_) (a' := ?_) #[true, true, true, true, true, false, true, true, true, false, false, false, false, false, false, false, false, false, false] rfl rfl (any_of HT_.out (by kernel_rfl)) (fun _ _ _ h => h) (Or.inl ⟨by rfl, ?_⟩) ?_ ?_
                          rotate_left
                          ·
                           intro w'
                           go_simp
                           with_reducible rfl
                          rotate_left
                          ·
                           simp only [Act.put, List.setIfInBounds_toArray, List.set_cons_zero, List.set_cons_succ, i64_w, i32_w]
                           rfl
                          refine pure_ (i := 9) (N := some 74) (v := ?_) (a' := ?_) #[true, true, true, true, true, false, true, true, true, true, false, false, false, false, false, false, false, false, false] rfl rfl (any_of HT_.out (by kernel_rfl)) (fun _ _ _ h => h) (Or.inl ⟨by rfl, ?_⟩) ?_ ?_
                          rotate_left
                          ·
                           intro w'
                           go_simp
                           with_reducible rfl
                          rotate_left
                          ·
                           simp only [Act.put, List.setIfInBounds_toArray, List.set_cons_zero, List.set_cons_succ, i64_w, i32_w]
                           rfl
                          refine pure_ (i := 11) (N := some 76) (v := ?_) (a' := ?_) #[true, true, true, true, true, false, true, true, true, true, false, true, false, false, false, false, false, false, false] rfl rfl (any_of HT_.out (by kernel_rfl)) (fun _ _ _ h => h) (Or.inl ⟨by rfl, ?_⟩) ?_ ?_
                          rotate_left
                          ·
                           intro w'
                           go_simp
                           with_reducible rfl
                          rotate_left
                          ·
                           simp only [Act.put, List.setIfInBounds_toArray, List.set_cons_zero, List.set_cons_succ, i64_w, i32_w]
                           rfl
                          refine pure_ (i := 12) (N := some 77) (v := ?_) (a' := ?_) #[true, true, true, true, true, false, true, true, true, true, false, true, true, false, false, false, false, false, false] rfl rfl (any_of HT_.out (by kernel_rfl)) (fun _ _ _ h => h) (Or.inl ⟨by rfl, ?_⟩) ?_ ?_
                          rotate_left
                          ·
                           intro w'
                           go_simp
                           with_reducible rfl
                          rotate_left
                          ·
                           simp only [Act.put, List.setIfInBounds_toArray, List.set_cons_zero, List.set_cons_succ, i64_w, i32_w]
                           rfl
                          refine take_ (i := 5) (N := some 70) (v := ?_) (a' := ?_) #[true, true, true, true, true, true, true, true, true, true, false, true, true, false, false, false, false, false, false] rfl rfl (take_ofW HT_.out HW_.out (by kernel_rfl)) (fun _ _ _ h => h) (Or.inl ⟨by rfl, ?_⟩) hHeld ?_ ?_
                          rotate_left
                          ·
                           rintro w' ⟨s0, s1, s2, s3, s4⟩
                           go_simp
                           with_reducible rfl
                          rotate_left
                          ·
                           simp only [Act.put, List.setIfInBounds_toArray, List.set_cons_zero, List.set_cons_succ, i64_w, i32_w]
                           rfl
                          refine take_ (i := 10) (N := some 75) (v := ?_) (a' := ?_) #[true, true, true, true, true, true, true, true, true, true, true, true, true, false, false, false, false, false, false] rfl rfl (take_ofW HT_.out HW_.out (by kernel_rfl)) (fun _ _ _ h => h) (Or.inl ⟨by rfl, ?_⟩) hHeld ?_ ?_
                          rotate_left
                          ·
                           rintro w' ⟨s0, s1, s2, s3, s4⟩
                           go_simp
                           with_reducible rfl
                          rotate_left
                          ·
                           simp only [Act.put, List.setIfInBounds_toArray, List.set_cons_zero, List.set_cons_succ, i64_w, i32_w]
                           rfl
                          refine pure_ (i := 13) (N := some 78) (v := ?_) (a' := ?_) #[true, true, true, true, true, true, true, true, true, true, true, true, true, true, false, false, false, false, false] rfl rfl (any_of HT_.out (by kernel_rfl)) (fun _ _ _ h => h) (Or.inl ⟨by rfl, ?_⟩) ?_ ?_
                          rotate_left
                          ·
                           intro w'
                           go_simp
                           with_reducible rfl
                          rotate_left
                          ·
                           simp only [Act.put, List.setIfInBounds_toArray, List.set_cons_zero, List.set_cons_succ, i64_w, i32_w]
                           rfl
                          refine take_ (i := 14) (N := some 79) (v := ?_) (a' := ?_) #[true, true, true, true, true, true, true, true, true, true, true, true, true, true, true, false, false, false, false] rfl rfl (take_ofW HT_.out HW_.out (by kernel_rfl)) (fun _ _ _ h => h) (Or.inl ⟨by rfl, ?_⟩) hHeld ?_ ?_
                          rotate_left
                          ·
                           rintro w' ⟨s0, s1, s2, s3, s4⟩
                           go_simp
                           with_reducible rfl
                          rotate_left
                          ·
                           simp only [Act.put, List.setIfInBounds_toArray, List.set_cons_zero, List.set_cons_succ, i64_w, i32_w]
                           rfl
                          refine pure_ (i := 15) (N := some 80) (v := ?_) (a' := ?_) #[true, true, true, true, true, true, true, true, true, true, true, true, true, true, true, true, false, false, false] rfl rfl (any_of HT_.out (by kernel_rfl)) (fun _ _ _ h => h) (Or.inl ⟨by rfl, ?_⟩) ?_ ?_
                          rotate_left
                          ·
                           intro w'
                           go_simp
                           with_reducible rfl
                          rotate_left
                          ·
                           simp only [Act.put, List.setIfInBounds_toArray, List.set_cons_zero, List.set_cons_succ, i64_w, i32_w]
                           rfl
                          refine one_ (i := 16) (N := some 81) #[true, true, true, true, true, true, true, true, true, true, true, true, true, true, true, true, true, false, false] rfl rfl (one_of HT_.out (by kernel_rfl)) (by decide) (fun K hK => ?_)
                          refine goes_ Tryd.func62 (by kernel_rfl) rfl #[.int .i64 (rd (rd_L1 y116 x7_2) x9_3), .int .i64 (wrap64 ((rd (rd_L1 y116 (ji19)) (ji24)) + 1))] (by rfl) rfl rfl (by (try simp only [List.map_toArray, List.map_cons, List.map_nil]); first | done | (simp only [hji19, hji24]; rfl) | rfl | (simp only [List.length_drop, List.length_take]; rfl)) ?_
                          with_reducible refine (spec_l1Most.calls (rd (rd_L1 y116 x7_2) x9_3) (wrap64 ((rd (rd_L1 y116 (ji19)) (ji24)) + 1)) t122 _ A37.out).mono ?_
                          rintro e w' ⟨rfl, ⟨nd, rfl⟩⟩
                          refine ⟨_, rfl, ?_⟩
                          have p38 : 0 ≤ (x9_3 : Int) := of_decide_eq_true (by first | (with_reducible assumption) | assumption)
                          have q38 : (x9_3 : Int) < (((rd_L1 y116 x7_2).length : Int) : Int) := of_decide_eq_true (by first | (with_reducible assumption) | assumption)
                          obtain ⟨go38, co38, eo38, gb38, gl38, cl38, HG38⟩ := Kd.R_form HL117_0.out (by omega)
                          (first | cases eo38 | (injection eo38 with ea_ en_ ec_; (first | subst ea_ | (injection ea_ with ea_; subst ea_)); subst ec_; clear en_))
                          have GB38 := Aside0.mk gb38
                          have GG38 := Aside0.mk HG38
                          clear gb38 gl38 HG38
                          (first | simp only [add_plain] at hx119_0 | skip)
                          obtain ⟨hx38_0, hf38_0⟩ := Kd.R_celln 0 HL117_0.out (x9_3 : Int) p38 q38
                          replace p38 := eq_true p38
                          replace q38 := eq_true q38
                          have hq45 : (x7_2 : Int) < (y116.length : Int) := (by have h_ : (x7_2 : Int) < ((x5_3.length : Int) : Int) := of_decide_eq_true (by first | (with_reducible assumption) | assumption); first | exact h_ | (have e_ := (Kd.S_reads' HO_5.out).1; omega) | simpa only [Ny116.out, List.length_set] using h_)
                          obtain ⟨oki45, ce45, hcl45, hM45, hcc45, hok45, hbk45⟩ := Kd.S_borrow HO_5.out [] (x7_2 : Int) (of_decide_eq_true (by first | (with_reducible assumption) | assumption)) (by have e_ := (Kd.S_reads' HO_5.out).1; omega)
                          obtain ⟨ve45_0, rfl, ge45_0⟩ := hM45
                          have hv45 := hcc45 0 _ rfl
                          rw [Nat.add_zero, show ((Kd.slice 3 (Kd.int .i64))).sz = 1 from rfl, Nat.mul_one] at hv45
                          replace hv45 := Option.some.inj (hv45.symm.trans HX117_0.out)
                          subst hv45
                          clear hcc45 hcl45
                          replace ge45_0 := (show Kd.R (Kd.int .i64) 3 _ _ _ _ (rd_L1 y116 x7_2) from ge45_0)
                          have HP45 := Kd.R_putg ge45_0 (x9_3 : Int) t122
                          rw [← Ny123.out] at HP45
                          have HS45 := hbk45 HP45.2 (fun k_ e_ => by injection e_ with e_; subst e_; exact ge45_0.1 _ rfl) (x' := y123) (Kd.M_row HP45.1)
                          rw [← Ny125.out] at HS45
                          have HQ45 := Aside0.mk HS45
                          have HE9 := Aside0.mk (spec_bkCommon_alkeep HP45.2 (spec_bkCommon_alne (hok45 _ (ge45_0.1 _ rfl)).2) HE8.out)
                          clear HP45 HS45 hbk45 hok45
                          refine hK.out _ _ ⟨hHeld.1, hHeld.2.1, hHeld.2.2.1, hHeld.2.2.2.1, hHeld.2.2.2.2⟩ (fun hHeld => ?_)
                          clear hK K
                          refine norm_ (a' := ?_) ?_ ?_
                          rotate_left
                          ·
                           show Act.put _ (some 81) _ = _
                           simp only [Act.put, List.setIfInBounds_toArray, List.set_cons_zero, List.set_cons_succ, i64_w, i32_w]
                           rfl
                          refine pure_ (i := 17) (N := some 82) (v := ?_) (a' := ?_) #[true, true, true, true, true, true, true, true, true, true, true, true, true, true, true, true, true, true, false] rfl rfl (any_of HT_.out (by kernel_rfl)) (fun _ _ _ h => h) (Or.inl ⟨by rfl, ?_⟩) ?_ ?_
                          rotate_left
                          ·
                           intro w'
                           go_simp
                           with_reducible rfl
                          rotate_left
                          ·
                           simp only [Act.put, List.setIfInBounds_toArray, List.set_cons_zero, List.set_cons_succ, i64_w, i32_w]
                           rfl
                          refine last_ (i := 18) (N := none) #[true, true, true, true, true, true, true, true, true, true, true, true, true, true, true, true, true, true, true] rfl rfl (one_of HT_.out (by kernel_rfl)) (by decide) (fun K hK => ?_)
                          refine skip_ (w1 := ?_) (by rfl) rfl ?_ ?_
                          rotate_left
                          ·
                           go_simp
                           rfl
                          refine hK.out _ _ ?_
                          clear hK K
                          refine done_ (done_of HT_.out (by kernel_rfl)) ?_
                          try go_wp2
                          (try simp only [← hl5_3])
                          (try simp only [← e2_])
                          (try simp only [← e2_] at HE8)
                          (try simp only [← e2_] at HE9)
                          go_roundg k3
                          case measure => have := HK1.out; have := HK2.out; have := HK3.out; omega
                          case rel => exact ⟨(y125), (wrap64 (x9_3 - 1)), (by first | rfl | (simp; done) | (simp [*]; done)), H', ⟨by have := HK1.out; have := HK2.out; have := HK3.out; omega⟩, ⟨by (try simp only [hl5_3]); (with_reducible repeat (first | apply Kd.S_alloc | apply Kd.S_drewN | apply Kd.S_drew)); exact HQ45.out⟩, ⟨by repeat (first | (with_reducible first | exact HB.out | apply below_alloc | apply pw_below_drewN | apply below_drew1 | refine below_set ?_ GB38.out) | exact HB.out)⟩, ⟨by first | exact HE8.out | exact spec_bkCommon_aldc HE9.out⟩⟩
                         ·
                          rw [if_neg c36] at H
                          exact absurd H (by simp)
                        ·
                         rw [if_neg c35] at H
                         exact absurd H (by simp)
                       ·
                        rw [if_neg c34] at H
                        have c34b0 : ((bt a0 x7_2) == (bt a1 x9_3)) = false := beq_eq_false_iff_ne.mpr c34
                        have c34b1 : ((bt a0 x7_2) != (bt a1 x9_3)) = true := bne_iff_ne.mpr c34
                        have H' := Aside0.mk H
                        clear H
                        try go_wp2
                        have n0_ := Aside0.mk (Kd.S_drew HO_5.out)
                        have n1_ := Aside0.mk (below_drew1 HB.out)
                        clear HO_5
                        clear HB
                        have HO_5 := n0_
                        have HB := n1_
                        clear n0_ n1_
                        have p108 : 0 ≤ (x7_2 : Int) := of_decide_eq_true (by first | (with_reducible assumption) | assumption)
                        have q108 : x7_2 < (x5_3.length : Int) := of_decide_eq_true (by first | (with_reducible assumption) | assumption)
                        obtain ⟨ad108, A108_0, c108_0, e108, hx108_0, hl108_0, hi108_0⟩ := at_L1 (Kd.S_reads' HO_5.out).2.2 x7_2 p108 q108
                        obtain rfl : ad107 = ad108 := (by injection e108)
                        obtain ⟨ce108, hce108, hMe108, hcc108⟩ := Kd.S_get HO_5.out [] x7_2 p108 (by first | exact q108 | exact of_decide_eq_true (by first | (with_reducible assumption) | assumption) | (have e_ := (Kd.S_reads' HO_5.out).1; omega))
                        obtain ⟨ve108_0, rfl, ge108_0⟩ := hMe108
                        have hv108_0 := hcc108 0 _ rfl
                        rw [Nat.add_zero, show ((Kd.slice 3 (Kd.int .i64))).sz = 1 from rfl, Nat.mul_one] at hv108_0
                        replace hv108_0 := Option.some.inj (hv108_0.symm.trans hx108_0)
                        rw [hv108_0] at ge108_0
                        have HL108_0 := Aside0.mk (show Kd.R (Kd.int .i64) 3 _ _ _ _ (rd_L1 x5_3 x7_2) from ge108_0)
                        clear hv108_0 ge108_0
                        have HX108_0 := Aside0.mk hx108_0
                        (try (have eal_ := Option.some.inj (HE8.out.symm.trans hx108_0)))
                        (first | subst eal_ | (injection eal_ with e1_ e2_ e3_; subst e1_; subst e3_; (try simp only [e2_] at HE8 ⊢)) | skip)
                        clear hcc108 hce108
                        have HR108_0 := Aside0.mk hi108_0
                        have HC108_0 := Aside0.mk hl108_0
                        clear hi108_0 hl108_0
                        replace p108 := eq_true p108
                        replace q108 := eq_true q108
                        have p109 : 0 ≤ ((ji19) : Int) := of_decide_eq_true (by first | (with_reducible assumption) | assumption)
                        have q109 : (ji19) < (x5_3.length : Int) := of_decide_eq_true (by first | (with_reducible assumption) | assumption)
                        obtain ⟨ad109, A109_0, c109_0, e109, hx109_0, hl109_0, hi109_0⟩ := at_L1 (Kd.S_reads' HO_5.out).2.2 (ji19) p109 q109
                        obtain rfl : ad107 = ad109 := (by injection e109)
                        obtain ⟨ce109, hce109, hMe109, hcc109⟩ := Kd.S_get HO_5.out [] (ji19) p109 (by first | exact q109 | exact of_decide_eq_true (by first | (with_reducible assumption) | assumption) | (have e_ := (Kd.S_reads' HO_5.out).1; omega))
                        obtain ⟨ve109_0, rfl, ge109_0⟩ := hMe109
                        have hv109_0 := hcc109 0 _ rfl
                        rw [Nat.add_zero, show ((Kd.slice 3 (Kd.int .i64))).sz = 1 from rfl, Nat.mul_one] at hv109_0
                        replace hv109_0 := Option.some.inj (hv109_0.symm.trans hx109_0)
                        rw [hv109_0] at ge109_0
                        have HL109_0 := Aside0.mk (show Kd.R (Kd.int .i64) 3 _ _ _ _ (rd_L1 x5_3 (ji19)) from ge109_0)
                        clear hv109_0 ge109_0
                        have HX109_0 := Aside0.mk hx109_0
                        clear hcc109 hce109
                        have HR109_0 := Aside0.mk hi109_0
                        have HC109_0 := Aside0.mk hl109_0
                        clear hi109_0 hl109_0
                        replace p109 := eq_true p109
                        replace q109 := eq_true q109
                        have p110 : 0 ≤ (x9_3 : Int) := of_decide_eq_true (by first | (with_reducible assumption) | assumption)
                        have q110 : x9_3 < ((rd_L1 x5_3 (ji19)).length : Int) := of_decide_eq_true (by first | (with_reducible assumption) | assumption)
                        obtain ⟨ad110, e110, hx110_0⟩ := Kd.at_int (by repeat (first | (with_reducible exact HR109_0.out) | (with_reducible refine Kd.C_alloc ?_ _) | (with_reducible refine Kd.C_drewN ?_ _) | (with_reducible refine Kd.C_drew ?_) | exact HR109_0.out)) x9_3 p110 q110
                        cases e110
                        replace p110 := eq_true p110
                        replace q110 := eq_true q110
                        have p111 : 0 ≤ (x7_2 : Int) := of_decide_eq_true (by first | (with_reducible assumption) | assumption)
                        have q111 : x7_2 < (x5_3.length : Int) := of_decide_eq_true (by first | (with_reducible assumption) | assumption)
                        obtain ⟨ad111, A111_0, c111_0, e111, hx111_0, hl111_0, hi111_0⟩ := at_L1 (Kd.S_reads' HO_5.out).2.2 x7_2 p111 q111
                        obtain rfl : ad107 = ad111 := (by injection e111)
                        obtain ⟨ce111, hce111, hMe111, hcc111⟩ := Kd.S_get HO_5.out [] x7_2 p111 (by first | exact q111 | exact of_decide_eq_true (by first | (with_reducible assumption) | assumption) | (have e_ := (Kd.S_reads' HO_5.out).1; omega))
                        obtain ⟨ve111_0, rfl, ge111_0⟩ := hMe111
                        have hv111_0 := hcc111 0 _ rfl
                        rw [Nat.add_zero, show ((Kd.slice 3 (Kd.int .i64))).sz = 1 from rfl, Nat.mul_one] at hv111_0
                        replace hv111_0 := Option.some.inj (hv111_0.symm.trans hx111_0)
                        rw [hv111_0] at ge111_0
                        have HL111_0 := Aside0.mk (show Kd.R (Kd.int .i64) 3 _ _ _ _ (rd_L1 x5_3 x7_2) from ge111_0)
                        clear hv111_0 ge111_0
                        have HX111_0 := Aside0.mk hx111_0
                        (try (have eal_ := Option.some.inj (HE8.out.symm.trans hx111_0)))
                        (try subst eal_)
                        clear hcc111 hce111
                        have HR111_0 := Aside0.mk hi111_0
                        have HC111_0 := Aside0.mk hl111_0
                        clear hi111_0 hl111_0
                        replace p111 := eq_true p111
                        replace q111 := eq_true q111
                        have ea_ := Option.some.inj (hx108_0.symm.trans hx111_0)
                        injection ea_ with ea_ en_ ec_
                        subst ea_
                        subst ec_
                        clear en_
                        have p112 : 0 ≤ ((ji24) : Int) := of_decide_eq_true (by first | (with_reducible assumption) | assumption)
                        have q112 : (ji24) < ((rd_L1 x5_3 x7_2).length : Int) := of_decide_eq_true (by first | (with_reducible assumption) | assumption)
                        obtain ⟨ad112, e112, hx112_0⟩ := Kd.at_int (by repeat (first | (with_reducible exact HR111_0.out) | (with_reducible refine Kd.C_alloc ?_ _) | (with_reducible refine Kd.C_drewN ?_ _) | (with_reducible refine Kd.C_drew ?_) | exact HR111_0.out)) (ji24) p112 q112
                        cases e112
                        replace p112 := eq_true p112
                        replace q112 := eq_true q112
                        refine start_ (n := 18) (S := fun w' => w'.cell? (ad107.add (x7_2).toNat) = some (.slice (some ad112) (rd_L1 x5_3 x7_2).length c108_0) ∧ w'.cell? (ad107.add ((ji19)).toNat) = some (.slice (some ad110) (rd_L1 x5_3 (ji19)).length c109_0) ∧ w'.cell? (ad110.add (x9_3).toNat) = some (.int .i64 (rd (rd_L1 x5_3 (ji19)) x9_3)) ∧ w'.cell? (ad107.add (x7_2).toNat) = some (.slice (some ad112) (rd_L1 x5_3 x7_2).length c108_0) ∧ w'.cell? (ad112.add ((ji24)).toNat) = some (.int .i64 (rd (rd_L1 x5_3 x7_2) (ji24)))) (ds := [17]) #[false, false, false, false, false, false, false, false, false, false, false, false, false, false, false, false, false, false] (by kernel_rfl) rfl rfl ⟨hx108_0, hx109_0, hx110_0, hx111_0, hx112_0⟩ (fun hHeld => ?_); refine with_tabW spec_bkCommon.tab13 spec_bkCommon.bits13 (fun HT_ HW_ => ?_)
                        have ne8_ := Aside0.mk (spec_bkCommon_aldw HE8.out)
                        clear HE8
                        have HE8 := ne8_
                        clear ne8_
                        generalize wr.drew = w47 at HE8 HO_5 HB HL108_0 HL109_0 HL111_0 HR108_0 HR109_0 HR111_0 HX108_0 HX109_0 HX111_0 hx108_0 hx109_0 hx110_0 hx111_0 hx112_0 hHeld ⊢
                        refine pure_ (i := 0) (N := some 41) (v := ?_) (a' := ?_) #[true, false, false, false, false, false, false, false, false, false, false, false, false, false, false, false, false, false] rfl rfl (any_of HT_.out (by kernel_rfl)) (fun _ _ _ h => h) (Or.inl ⟨by rfl, ?_⟩) ?_ ?_
                        rotate_left
                        ·
                         intro w'
                         go_simp
                         with_reducible rfl
                        rotate_left
                        ·
                         simp only [Act.put, List.setIfInBounds_toArray, List.set_cons_zero, List.set_cons_succ, i64_w, i32_w]
                         rfl
                        refine pure_ (i := 1) (N := some 42) (v := ?_) (a' := ?_) #[true, true, false, false, false, false, false, false, false, false, false, false, false, false, false, false, false, false] rfl rfl (any_of HT_.out (by kernel_rfl)) (fun _ _ _ h => h) (Or.inl ⟨by rfl, ?_⟩) ?_ ?_
                        rotate_left
                        ·
                         intro w'
                         go_simp
                         with_reducible rfl
                        rotate_left
                        ·
                         simp only [Act.put, List.setIfInBounds_toArray, List.set_cons_zero, List.set_cons_succ, i64_w, i32_w]
                         rfl
                        refine pure_ (i := 2) (N := some 43) (v := ?_) (a' := ?_) #[true, true, true, false, false, false, false, false, false, false, false, false, false, false, false, false, false, false] rfl rfl (any_of HT_.out (by kernel_rfl)) (fun _ _ _ h => h) (Or.inl ⟨by rfl, ?_⟩) ?_ ?_
                        rotate_left
                        ·
                         intro w'
                         go_simp
                         with_reducible rfl
                        rotate_left
                        ·
                         simp only [Act.put, List.setIfInBounds_toArray, List.set_cons_zero, List.set_cons_succ, i64_w, i32_w]
                         rfl
                        refine pure_ (i := 3) (N := some 44) (v := ?_) (a' := ?_) #[true, true, true, true, false, false, false, false, false, false, false, false, false, false, false, false, false, false] rfl rfl (any_of HT_.out (by kernel_rfl)) (fun _ _ _ h => h) (Or.inl ⟨by rfl, ?_⟩) ?_ ?_
                        rotate_left
                        ·
                         intro w'
                         go_simp
                         with_reducible rfl
                        rotate_left
                        ·
                         simp only [Act.put, List.setIfInBounds_toArray, List.set_cons_zero, List.set_cons_succ, i64_w, i32_w]
                         rfl
                        refine pure_ (i := 4) (N := some 45) (v := ?_) (a' := ?_) #[true, true, true, true, true, false, false, false, false, false, false, false, false, false, false, false, false, false] rfl rfl (any_of HT_.out (by kernel_rfl)) (fun _ _ _ h => h) (Or.inl ⟨by rfl, ?_⟩) ?_ ?_
                        rotate_left
                        ·
                         intro w'
                         go_simp
                         with_reducible rfl
                        rotate_left
                        ·
                         simp only [Act.put, List.setIfInBounds_toArray, List.set_cons_zero, List.set_cons_succ, i64_w, i32_w]
                         rfl
                        refine pure_ (i := 5) (N := some 46) (v := ?_) (a' := ?_) #[true, true, true, true, true, true, false, false, false, false, false, false, false, false, false, false, false, false] rfl rfl (any_of HT_.out (by kernel_rfl)) (fun _ _ _ h => h) (Or.inl ⟨by rfl, ?_⟩) ?_ ?_
                        rotate_left
                        ·
                         intro w'
                         go_simp
                         with_reducible rfl
                        rotate_left
                        ·
                         simp only [Act.put, List.setIfInBounds_toArray, List.set_cons_zero, List.set_cons_succ, i64_w, i32_w]
                         rfl
                        refine pure_ (i := 7) (N := some 48) (v := ?_) (a' := ?_) #[true, true, true, true, true, true, false, true, false, false, false, false, false, false, false, false, false, false] rfl rfl (any_of HT_.out (by kernel_rfl)) (fun _ _ _ h => h) (Or.inl ⟨by rfl, ?_⟩) ?_ ?_
                        rotate_left
                        ·
                         intro w'
                         go_simp
                         with_reducible rfl
                        rotate_left
                        ·
                         simp only [Act.put, List.setIfInBounds_toArray, List.set_cons_zero, List.set_cons_succ, i64_w, i32_w]
                         rfl
                        refine pure_ (i := 10) (N := some 51) (v := ?_) (a' := ?_) #[true, true, true, true, true, true, false, true, false, false, true, false, false, false, false, false, false, false] rfl rfl (any_of HT_.out (by kernel_rfl)) (fun _ _ _ h => h) (Or.inl ⟨by rfl, ?_⟩) ?_ ?_
                        rotate_left
                        ·
                         intro w'
                         go_simp
                         with_reducible rfl
                        rotate_left
                        ·
                         simp only [Act.put, List.setIfInBounds_toArray, List.set_cons_zero, List.set_cons_succ, i64_w, i32_w]
                         rfl
                        refine pure_ (i := 11) (N := some 52) (v := ?_) (a' := ?_) #[true, true, true, true, true, true, false, true, false, false, true, true, false, false, false, false, false, false] rfl rfl (any_of HT_.out (by kernel_rfl)) (fun _ _ _ h => h) (Or.inl ⟨by rfl, ?_⟩) ?_ ?_
                        rotate_left
                        ·
                         intro w'
                         go_simp
                         with_reducible rfl
                        rotate_left
                        ·
                         simp only [Act.put, List.setIfInBounds_toArray, List.set_cons_zero, List.set_cons_succ, i64_w, i32_w]
                         rfl
                        refine pure_ (i := 12) (N := some 53) (v := ?_) (a' := ?_) #[true, true, true, true, true, true, false, true, false, false, true, true, true, false, false, false, false, false] rfl rfl (any_of HT_.out (by kernel_rfl)) (fun _ _ _ h => h) (Or.inl ⟨by rfl, ?_⟩) ?_ ?_
                        rotate_left
                        ·
                         intro w'
                         go_simp
                         with_reducible rfl
                        rotate_left
                        ·
                         simp only [Act.put, List.setIfInBounds_toArray, List.set_cons_zero, List.set_cons_succ, i64_w, i32_w]
                         rfl
                        refine pure_ (i := 13) (N := some 54) (v := ?_) (a' := ?_) #[true, true, true, true, true, true, false, true, false, false, true, true, true, true, false, false, false, false] rfl rfl (any_of HT_.out (by kernel_rfl)) (fun _ _ _ h => h) (Or.inl ⟨by rfl, ?_⟩) ?_ ?_
                        rotate_left
                        ·
                         intro w'
                         go_simp
                         with_reducible rfl
                        rotate_left
                        ·
                         simp only [Act.put, List.setIfInBounds_toArray, List.set_cons_zero, List.set_cons_succ, i64_w, i32_w]
                         rfl
                        refine take_ (i := 6) (N := some 47) (v := ?_) (a' := ?_) #[true, true, true, true, true, true, true, true, false, false, true, true, true, true, false, false, false, false] rfl rfl (take_ofW HT_.out HW_.out (by kernel_rfl)) (fun _ _ _ h => h) (Or.inl ⟨by rfl, ?_⟩) hHeld ?_ ?_
                        rotate_left
                        ·
                         rintro w' ⟨s0, s1, s2, s3, s4⟩
                         go_simp
                         with_reducible rfl
                        rotate_left
                        ·
                         simp only [Act.put, List.setIfInBounds_toArray, List.set_cons_zero, List.set_cons_succ, i64_w, i32_w]
                         rfl
                        refine pure_ (i := 8) (N := some 49) (v := ?_) (a' := ?_) #[true, true, true, true, true, true, true, true, true, false, true, true, true, true, false, false, false, false] rfl rfl (any_of HT_.out (by kernel_rfl)) (fun _ _ _ h => h) (Or.inl ⟨by rfl, ?_⟩) ?_ ?_
                        rotate_left
                        ·
                         intro w'
                         go_simp
                         with_reducible rfl
                        rotate_left
                        ·
                         simp only [Act.put, List.setIfInBounds_toArray, List.set_cons_zero, List.set_cons_succ, i64_w, i32_w]
                         rfl
                        refine take_ (i := 9) (N := some 50) (v := ?_) (a' := ?_) #[true, true, true, true, true, true, true, true, true, true, true, true, true, true, false, false, false, false] rfl rfl (take_ofW HT_.out HW_.out (by kernel_rfl)) (fun _ _ _ h => h) (Or.inl ⟨by rfl, ?_⟩) hHeld ?_ ?_
                        rotate_left
                        ·
                         rintro w' ⟨s0, s1, s2, s3, s4⟩
                         go_simp
                         with_reducible rfl
                        rotate_left
                        ·
                         simp only [Act.put, List.setIfInBounds_toArray, List.set_cons_zero, List.set_cons_succ, i64_w, i32_w]
                         rfl
                        refine take_ (i := 14) (N := some 55) (v := ?_) (a' := ?_) #[true, true, true, true, true, true, true, true, true, true, true, true, true, true, true, false, false, false] rfl rfl (take_ofW HT_.out HW_.out (by kernel_rfl)) (fun _ _ _ h => h) (Or.inl ⟨by rfl, ?_⟩) hHeld ?_ ?_
                        rotate_left
                        ·
                         rintro w' ⟨s0, s1, s2, s3, s4⟩
                         go_simp
                         with_reducible rfl
                        rotate_left
                        ·
                         simp only [Act.put, List.setIfInBounds_toArray, List.set_cons_zero, List.set_cons_succ, i64_w, i32_w]
                         rfl
                        refine one_ (i := 15) (N := some 56) #[true, true, true, true, true, true, true, true, true, true, true, true, true, true, true, true, false, false] rfl rfl (one_of HT_.out (by kernel_rfl)) (by decide) (fun K hK => ?_)
                        refine goes_ Tryd.func62 (by kernel_rfl) rfl #[.int .i64 (rd (rd_L1 x5_3 (ji19)) x9_3), .int .i64 (rd (rd_L1 x5_3 x7_2) (ji24))] (by rfl) rfl rfl (by (try simp only [List.map_toArray, List.map_cons, List.map_nil]); first | done | (simp only [hji19, hji24]; rfl) | rfl | (simp only [List.length_drop, List.length_take]; rfl)) ?_
                        with_reducible refine (spec_l1Most.calls (rd (rd_L1 x5_3 (ji19)) x9_3) (rd (rd_L1 x5_3 x7_2) (ji24)) t113 _ A27.out).mono ?_
                        rintro e w' ⟨rfl, ⟨nd, rfl⟩⟩
                        refine ⟨_, rfl, ?_⟩
                        have p29 : 0 ≤ (x9_3 : Int) := of_decide_eq_true (by first | (with_reducible assumption) | assumption)
                        have q29 : (x9_3 : Int) < (((rd_L1 x5_3 x7_2).length : Int) : Int) := of_decide_eq_true (by first | (with_reducible assumption) | assumption)
                        obtain ⟨go29, co29, eo29, gb29, gl29, cl29, HG29⟩ := Kd.R_form HL108_0.out (by omega)
                        (first | cases eo29 | (injection eo29 with ea_ en_ ec_; (first | subst ea_ | (injection ea_ with ea_; subst ea_)); subst ec_; clear en_))
                        have GB29 := Aside0.mk gb29
                        have GG29 := Aside0.mk HG29
                        clear gb29 gl29 HG29
                        (first | simp only [add_plain] at hx112_0 | skip)
                        obtain ⟨hx29_0, hf29_0⟩ := Kd.R_celln 0 HL108_0.out (x9_3 : Int) p29 q29
                        replace p29 := eq_true p29
                        replace q29 := eq_true q29
                        have hq48 : (x7_2 : Int) < (x5_3.length : Int) := (by have h_ : (x7_2 : Int) < ((x5_3.length : Int) : Int) := of_decide_eq_true (by first | (with_reducible assumption) | assumption); first | exact h_ | (have e_ := (Kd.S_reads' HO_5.out).1; omega) | simpa only [List.length_set, List.length_set] using h_)
                        obtain ⟨oki48, ce48, hcl48, hM48, hcc48, hok48, hbk48⟩ := Kd.S_borrow HO_5.out [] (x7_2 : Int) (of_decide_eq_true (by first | (with_reducible assumption) | assumption)) hq48
                        obtain ⟨ve48_0, rfl, ge48_0⟩ := hM48
                        have hv48 := hcc48 0 _ rfl
                        rw [Nat.add_zero, show ((Kd.slice 3 (Kd.int .i64))).sz = 1 from rfl, Nat.mul_one] at hv48
                        replace hv48 := Option.some.inj (hv48.symm.trans HX108_0.out)
                        subst hv48
                        clear hcc48 hcl48
                        replace ge48_0 := (show Kd.R (Kd.int .i64) 3 _ _ _ _ (rd_L1 x5_3 x7_2) from ge48_0)
                        have HP48 := Kd.R_putg ge48_0 (x9_3 : Int) t113
                        rw [← Ny114.out] at HP48
                        have HS48 := hbk48 HP48.2 (fun k_ e_ => by injection e_ with e_; subst e_; exact ge48_0.1 _ rfl) (x' := y114) (Kd.M_row HP48.1)
                        rw [← Ny116.out] at HS48
                        have HQ48 := Aside0.mk HS48
                        have HE9 := Aside0.mk (spec_bkCommon_alkeep HP48.2 (spec_bkCommon_alne (hok48 _ (ge48_0.1 _ rfl)).2) HE8.out)
                        clear HP48 HS48 hbk48 hok48
                        refine hK.out _ _ ⟨hHeld.1, hHeld.2.1, hHeld.2.2.1, hHeld.2.2.2.1, hHeld.2.2.2.2⟩ (fun hHeld => ?_)
                        clear hK K
                        refine norm_ (a' := ?_) ?_ ?_
                        rotate_left
                        ·
                         show Act.put _ (some 56) _ = _
                         simp only [Act.put, List.setIfInBounds_toArray, List.set_cons_zero, List.set_cons_succ, i64_w, i32_w]
                         rfl
                        refine pure_ (i := 16) (N := some 57) (v := ?_) (a' := ?_) #[true, true, true, true, true, true, true, true, true, true, true, true, true, true, true, true, true, false] rfl rfl (any_of HT_.out (by kernel_rfl)) (fun _ _ _ h => h) (Or.inl ⟨by rfl, ?_⟩) ?_ ?_
                        rotate_left
                        ·
                         intro w'
                         go_simp
                         with_reducible rfl
                        rotate_left
                        ·
                         simp only [Act.put, List.setIfInBounds_toArray, List.set_cons_zero, List.set_cons_succ, i64_w, i32_w]
                         rfl
                        refine last_ (i := 17) (N := none) #[true, true, true, true, true, true, true, true, true, true, true, true, true, true, true, true, true, true] rfl rfl (one_of HT_.out (by kernel_rfl)) (by decide) (fun K hK => ?_)
                        refine skip_ (w1 := ?_) (by rfl) rfl ?_ ?_
                        rotate_left
                        ·
                         go_simp
                         rfl
                        refine hK.out _ _ ?_
                        clear hK K
                        refine done_ (done_of HT_.out (by kernel_rfl)) ?_
                        try go_wp2
                        have n0_ : Aside0 (Kd.S (Kd.slice 3 (Kd.int .i64)) 43 ((w47.drewN nd).setCell ⟨go29, (x9_3 : Int).toNat, none⟩ (.int .i64 t113)) w.heap.size (fun _ => True) (.slice (some ad107) x5_3.length co15) y116) := ⟨by (with_reducible repeat (first | apply Kd.S_alloc | apply Kd.S_drewN | apply Kd.S_drew)); exact HQ48.out⟩
                        have n1_ : Aside0 (Below w.heap.size w ((w47.drewN nd).setCell ⟨go29, (x9_3 : Int).toNat, none⟩ (.int .i64 t113))) := ⟨by repeat (first | (with_reducible first | exact HB.out | apply below_alloc | apply pw_below_drewN | apply below_drew1 | refine below_set ?_ GB29.out) | exact HB.out)⟩
                        (try clear HO_5)
                        (try clear HB)
                        have ne8_ := Aside0.mk (spec_bkCommon_aldc (m := nd) HE9.out)
                        generalize ((w47.drewN nd).setCell ⟨go29, (x9_3 : Int).toNat, none⟩ (.int .i64 t113)) = w50 at n0_ n1_ ne8_ ⊢
                        clear HE8
                        have HE8 := ne8_
                        clear ne8_ HE9
                        have HO_5 := n0_
                        have HB := n1_
                        clear n0_ n1_
                        (try (rw [drewN_self w50]; generalize hq_ : World.drewN w50 _ = w50; have n0_ : Aside0 (Kd.S (Kd.slice 3 (Kd.int .i64)) 43 w50 w.heap.size (fun _ => True) (.slice (some ad107) x5_3.length co15) y116) := ⟨by rw [← hq_]; exact (by (with_reducible repeat (first | apply Kd.S_alloc | apply Kd.S_drewN | apply Kd.S_drew)); exact HO_5.out)⟩; have n1_ : Aside0 (Below w.heap.size w w50) := ⟨by rw [← hq_]; exact (by repeat (first | (with_reducible first | exact HB.out | apply below_alloc | apply pw_below_drewN | apply below_drew1) | exact HB.out))⟩; have ne8_ := Aside0.mk (cell_at hq_ HE8.out); clear HE8; have HE8 := ne8_; clear ne8_; clear HO_5 HB hq_; have HO_5 := n0_; have HB := n1_; clear n0_ n1_))
                        have n0_ := Aside0.mk (Kd.S_drew HO_5.out)
                        have n1_ := Aside0.mk (below_drew1 HB.out)
                        clear HO_5
                        clear HB
                        have HO_5 := n0_
                        have HB := n1_
                        clear n0_ n1_
                        have p31 : 0 ≤ (x7_2 : Int) := of_decide_eq_true (by first | (with_reducible assumption) | assumption)
                        have q31 : x7_2 < (a0.size : Int) := of_decide_eq_true (by first | (with_reducible assumption) | assumption)
                        have hx31 := bt_at a0 x7_2
                        replace p31 := eq_true p31
                        replace q31 := eq_true q31
                        have p33 : 0 ≤ (x9_3 : Int) := of_decide_eq_true (by first | (with_reducible assumption) | assumption)
                        have q33 : x9_3 < (a1.size : Int) := of_decide_eq_true (by first | (with_reducible assumption) | assumption)
                        have hx33 := bt_at a1 x9_3
                        replace p33 := eq_true p33
                        replace q33 := eq_true q33
                        refine start_ (n := 7) (S := fun w' => True) (ds := []) #[false, false, false, false, false, false, false] (by kernel_rfl) rfl rfl trivial (fun hHeld => ?_)
                        have ne8_ := Aside0.mk (spec_bkCommon_aldw HE8.out)
                        clear HE8
                        have HE8 := ne8_
                        clear ne8_
                        generalize w50.drew = w51 at HE8 HO_5 HB HQ48 hHeld ⊢
                        refine pure_ (i := 0) (N := some 58) (v := ?_) (a' := ?_) #[true, false, false, false, false, false, false] rfl rfl (by kernel_rfl) (fun _ _ _ h => h) (Or.inl ⟨by rfl, ?_⟩) ?_ ?_
                        rotate_left
                        ·
                         intro w'
                         go_simp
                         with_reducible rfl
                        rotate_left
                        ·
                         simp only [Act.put, List.setIfInBounds_toArray, List.set_cons_zero, List.set_cons_succ, i64_w, i32_w]
                         rfl
                        refine pure_ (i := 1) (N := some 59) (v := ?_) (a' := ?_) #[true, true, false, false, false, false, false] rfl rfl (by kernel_rfl) (fun _ _ _ h => h) (Or.inl ⟨by rfl, ?_⟩) ?_ ?_
                        rotate_left
                        ·
                         intro w'
                         go_simp
                         with_reducible rfl
                        rotate_left
                        ·
                         simp only [Act.put, List.setIfInBounds_toArray, List.set_cons_zero, List.set_cons_succ, i64_w, i32_w]
                         rfl
                        refine pure_ (i := 3) (N := some 61) (v := ?_) (a' := ?_) #[true, true, false, true, false, false, false] rfl rfl (by kernel_rfl) (fun _ _ _ h => h) (Or.inl ⟨by rfl, ?_⟩) ?_ ?_
                        rotate_left
                        ·
                         intro w'
                         go_simp
                         with_reducible rfl
                        rotate_left
                        ·
                         simp only [Act.put, List.setIfInBounds_toArray, List.set_cons_zero, List.set_cons_succ, i64_w, i32_w]
                         rfl
                        refine pure_ (i := 4) (N := some 62) (v := ?_) (a' := ?_) #[true, true, false, true, true, false, false] rfl rfl (by kernel_rfl) (fun _ _ _ h => h) (Or.inl ⟨by rfl, ?_⟩) ?_ ?_
                        rotate_left
                        ·
                         intro w'
                         go_simp
                         with_reducible rfl
                        rotate_left
                        ·
                         simp only [Act.put, List.setIfInBounds_toArray, List.set_cons_zero, List.set_cons_succ, i64_w, i32_w]
                         rfl
                        refine take_ (i := 2) (N := some 60) (v := ?_) (a' := ?_) #[true, true, true, true, true, false, false] rfl rfl (by kernel_rfl) (fun _ _ _ h => h) (Or.inl ⟨by rfl, ?_⟩) hHeld ?_ ?_
                        rotate_left
                        ·
                         intro w' _
                         go_simp
                         with_reducible rfl
                        rotate_left
                        ·
                         simp only [Act.put, List.setIfInBounds_toArray, List.set_cons_zero, List.set_cons_succ, i64_w, i32_w]
                         rfl
                        refine take_ (i := 5) (N := some 63) (v := ?_) (a' := ?_) #[true, true, true, true, true, true, false] rfl rfl (by kernel_rfl) (fun _ _ _ h => h) (Or.inl ⟨by rfl, ?_⟩) hHeld ?_ ?_
                        rotate_left
                        ·
                         intro w' _
                         go_simp
                         with_reducible rfl
                        rotate_left
                        ·
                         simp only [Act.put, List.setIfInBounds_toArray, List.set_cons_zero, List.set_cons_succ, i64_w, i32_w]
                         rfl
                        refine pure_ (i := 6) (N := some 64) (v := ?_) (a' := ?_) #[true, true, true, true, true, true, true] rfl rfl (by kernel_rfl) (fun _ _ _ h => h) (Or.inl ⟨by rfl, ?_⟩) ?_ ?_
                        rotate_left
                        ·
                         intro w'
                         go_simp
                         with_reducible rfl
                        rotate_left
                        ·
                         simp only [Act.put, List.setIfInBounds_toArray, List.set_cons_zero, List.set_cons_succ, i64_w, i32_w]
                         rfl
                        refine done_ (by kernel_rfl) ?_
                        try go_wp2
                        (try simp only [← hl5_3])
                        (try simp only [← e2_])
                        (try simp only [← e2_] at HE8)
                        (try simp only [← e2_] at HE9)
                        go_roundg k3
                        case measure => have := HK1.out; have := HK2.out; have := HK3.out; omega
                        case rel => exact ⟨(y116), (wrap64 (x9_3 - 1)), (by first | rfl | (simp; done) | (simp [*]; done)), H', ⟨by have := HK1.out; have := HK2.out; have := HK3.out; omega⟩, ⟨by (try simp only [hl5_3]); (with_reducible repeat (first | apply Kd.S_alloc | apply Kd.S_drewN | apply Kd.S_drew)); exact HO_5.out⟩, ⟨by repeat (first | (with_reducible first | exact HB.out | apply below_alloc | apply pw_below_drewN | apply below_drew1) | exact HB.out)⟩, ⟨by first | exact HE8.out | exact spec_bkCommon_aldc HE9.out⟩⟩
                      ·
                       rw [if_neg c32] at H
                       exact absurd H (by simp)
                     ·
                      rw [if_neg c30] at H
                      exact absurd H (by simp)
                    ·
                     rw [if_neg c28] at H
                     exact absurd H (by simp)
                   ·
                    rw [if_neg c26] at H
                    exact absurd H (by simp)
                  ·
                   rw [if_neg c25] at H
                   exact absurd H (by simp)
                 ·
                  rw [if_neg c23] at H
                  exact absurd H (by simp)
                ·
                 rw [if_neg c22] at H
                 exact absurd H (by simp)
               ·
                rw [if_neg c21] at H
                exact absurd H (by simp)
              ·
               rw [if_neg c20] at H
               exact absurd H (by simp)
             ·
              rw [if_neg c18] at H
              exact absurd H (by simp)
            ·
             rw [if_neg c17] at H
             exact absurd H (by simp)
           ·
            rw [if_neg c16] at H
            have c16b0 : decide (0 ≤ x9_3) = false := decide_eq_false c16
            clear c16
            have H' := Aside0.mk H
            clear H
            go_wp2
            (try simp only [← hl5_3])
            (try simp only [← e2_])
            (try simp only [← e2_] at HE8)
            (try simp only [← e2_] at HE9)
            go_roundg k3
            case measure => have := HK1.out; have := HK2.out; have := HK3.out; omega
            case rel => exact ⟨(x5_3), (wrap64 (x7_2 - 1)), (by first | rfl | (simp; done) | (simp [*]; done)), H', ⟨by have := HK1.out; have := HK2.out; have := HK3.out; omega⟩, ⟨by (try simp only [hl5_3]); (with_reducible repeat (first | apply Kd.S_alloc | apply Kd.S_drewN | apply Kd.S_drew)); exact HO_5.out⟩, ⟨by repeat (first | (with_reducible first | exact HB.out | apply below_alloc | apply pw_below_drewN | apply below_drew1) | exact HB.out)⟩⟩
        ·
         rw [if_neg c14] at H
         exact absurd H (by simp)
       ·
        rw [if_neg c13] at H
        exact absurd H (by simp)
      ·
       rw [if_neg c12] at H
       have c12b0 : decide (0 ≤ x7_2) = false := decide_eq_false c12
       clear c12
       obtain rfl := Option.some.inj H
       go_wp2
       go_ret
       exact ⟨_, by first | rfl | (simp [errW_none, errW_some] <;> rfl) | (simp [*, errW_none, errW_some] <;> rfl), by (with_reducible repeat (first | apply Kd.S_alloc | apply Kd.S_drewN | apply Kd.S_drew)); exact HO_5.out, by repeat (first | (with_reducible first | exact HB.out | apply below_alloc | apply pw_below_drewN | apply below_drew1) | exact HB.out)⟩

end Go.Proofs.YtamhlbdjjfdbiaaDoor.P

-- printed by xprint.py
namespace Go.Proofs.YtamhlbdjjfdbiaaDoor.P
open Go.RowKit Go.Proofs.YtamhlbdjjfdbiaaDoorW.PrintWords Go.Proofs.YtamhlbdjjfdbiaaDoorW.PrintLast Go.Proofs.YtamhlbdjjfdbiaaDoorW.PrintMore
attribute [local go_sem] max2_int min2_int max_two min_two max_three min_three max_four min_four   -- for this text's walks alone
set_option linter.unusedVariables false
set_option linter.unusedSimpArgs false

/-! ### spec_bkNext: function 43 -/
def spec_bkNext.l0 : Nat → ByteArray → Int → Int → Option (Int)
 | 0, _, _, _ => none
 | k + 1, x0, x1, x2 => if x1 < (x0.size : Int) then (if 0 ≤ x1 then (if (bt x0 x1) = x2 then (some x1) else (spec_bkNext.l0 k x0 (wrap64 (x1 + 1)) x2)) else (none)) else (some x1)
def spec_bkNext.f (k : Nat) (a0 : ByteArray) (a1 : Int) (a2 : Int) : Option (Int) := spec_bkNext.l0 k a0 a1 a2
theorem spec_bkNext.mono_l : ∀ k, (∀ y0 y1 y2, LeO (spec_bkNext.l0 k y0 y1 y2) (spec_bkNext.l0 (k + 1) y0 y1 y2))
 | 0 => by intros; intro r h; simp [spec_bkNext.l0] at h
 | k + 1 => by
  have ih0 := spec_bkNext.mono_l k
  ·
   intro y0 y1 y2
   unfold spec_bkNext.l0
   repeat' first
   | (with_reducible exact ih0 _ _ _)
   | (with_reducible exact LeO.refl _)
   | (with_reducible exact LeO.none _)
   | (with_reducible refine LeO.ite ?_ ?_)
   | (with_reducible refine LeO.bind ?_ (fun _ => ?_))
   | exact ih0 _ _ _
   | exact LeO.none _
   | refine LeO.ite ?_ ?_
   | refine LeO.bind ?_ (fun _ => ?_)
theorem spec_bkNext.mono : ∀ y0 y1 y2 k, LeO (spec_bkNext.f k y0 y1 y2) (spec_bkNext.f (k + 1) y0 y1 y2) := by
 intro y0 y1 y2 k
 have ih0 := spec_bkNext.mono_l k
 unfold spec_bkNext.f
 repeat' first
   | (with_reducible exact ih0 _ _ _)
   | (with_reducible exact LeO.refl _)
   | (with_reducible exact LeO.none _)
   | (with_reducible refine LeO.ite ?_ ?_)
   | (with_reducible refine LeO.bind ?_ (fun _ => ?_))
   | exact ih0 _ _ _
   | exact LeO.none _
   | refine LeO.ite ?_ ?_
   | refine LeO.bind ?_ (fun _ => ?_)
set_option maxHeartbeats 8000000 in
set_option maxRecDepth 100000 in
theorem spec_bkNext.calls (k : Nat) (a0 : ByteArray) (a1 : Int) (a2 : Int) (r : Int) (w : World) (h : spec_bkNext.f k a0 a1 a2 = some r) :
  Calls Tryd.prog 43 #[.string a0, .int .i64 a1, .int .u8 a2] w fun e w' => e = .returned (.int .i64 r) ∧ Drawn0 w w' := by
 have H : (spec_bkNext.l0 k a0 a1 a2) = some r := h
 clear h
 have H' := Aside0.mk H
 clear H
 go_enter Tryd.func43, Tryd.ntmps43
 go_wp2
 go_loopg [1] k (fun kq v1 w' => ∃ (x1_1 : Int), v1 = .int .i64 x1_1 ∧ Aside0 (spec_bkNext.l0 kq a0 x1_1 a2 = some r) ∧ Aside0 (kq ≤ k) ∧ Drawn0 w w')
 case atStart => exact ⟨(a1), (by first | rfl | (simp; done) | (simp [*]; done)), H', ⟨Nat.le_refl _⟩, by repeat (first | exact Drawn0.refl _ | apply Drawn0.step)⟩
 case round =>
  clear H'
  try clear p2
  obtain ⟨x1_1, rfl, HA, HK1, ⟨m1, rfl⟩⟩ := hrel
  cases gk with
  | zero => exact absurd HA.out (by simp [spec_bkNext.l0])
  | succ k1 =>
   have H := HA.out
   clear HA
   simp only [spec_bkNext.l0] at H
   by_cases c4 : x1_1 < (a0.size : Int)
   ·
    rw [if_pos c4] at H
    have c4b0 : decide (x1_1 < (a0.size : Int)) = true := decide_eq_true c4
    clear c4
    by_cases c5 : 0 ≤ x1_1
    ·
     rw [if_pos c5] at H
     have c5b0 : decide (0 ≤ x1_1) = true := decide_eq_true c5
     clear c5
     by_cases c7 : (bt a0 x1_1) = a2
     ·
      rw [if_pos c7] at H
      have c7b0 : ((bt a0 x1_1) == a2) = true := beq_iff_eq.mpr c7
      have c7b1 : ((bt a0 x1_1) != a2) = false := bne_eq_false_iff_eq.mpr c7
      clear c7
      obtain rfl := Option.some.inj H
      have p6 : 0 ≤ (x1_1 : Int) := of_decide_eq_true (by first | (with_reducible assumption) | assumption)
      have q6 : x1_1 < (a0.size : Int) := of_decide_eq_true (by first | (with_reducible assumption) | assumption)
      have hx6 := bt_at a0 x1_1
      replace p6 := eq_true p6
      replace q6 := eq_true q6
      go_wp2
      go_ret
      exact ⟨by first | rfl | (simp; done) | (simp [*]; done), by repeat (first | exact Drawn0.refl _ | apply Drawn0.step)⟩
     ·
      rw [if_neg c7] at H
      have c7b0 : ((bt a0 x1_1) == a2) = false := beq_eq_false_iff_ne.mpr c7
      have c7b1 : ((bt a0 x1_1) != a2) = true := bne_iff_ne.mpr c7
      have H' := Aside0.mk H
      clear H
      have p6 : 0 ≤ (x1_1 : Int) := of_decide_eq_true (by first | (with_reducible assumption) | assumption)
      have q6 : x1_1 < (a0.size : Int) := of_decide_eq_true (by first | (with_reducible assumption) | assumption)
      have hx6 := bt_at a0 x1_1
      replace p6 := eq_true p6
      replace q6 := eq_true q6
      go_wp2
      go_roundg k1
      case measure => have := HK1.out; omega
      case rel => exact ⟨(wrap64 (x1_1 + 1)), (by first | rfl | (simp; done) | (simp [*]; done)), H', ⟨by have := HK1.out; omega⟩, by repeat (first | exact Drawn0.refl _ | apply Drawn0.step)⟩
    ·
     rw [if_neg c5] at H
     exact absurd H (by simp)
   ·
    rw [if_neg c4] at H
    have c4b0 : decide (x1_1 < (a0.size : Int)) = false := decide_eq_false c4
    clear c4
    obtain rfl := Option.some.inj H
    go_wp2
    go_ret
    exact ⟨by first | rfl | (simp; done) | (simp [*]; done), by repeat (first | exact Drawn0.refl _ | apply Drawn0.step)⟩

end Go.Proofs.YtamhlbdjjfdbiaaDoor.P

-- printed by xprint.py
namespace Go.Proofs.YtamhlbdjjfdbiaaDoor.P
open Go.RowKit Go.Proofs.YtamhlbdjjfdbiaaDoorW.PrintWords Go.Proofs.YtamhlbdjjfdbiaaDoorW.PrintLast Go.Proofs.YtamhlbdjjfdbiaaDoorW.PrintMore
attribute [local go_sem] max2_int min2_int max_two min_two max_three min_three max_four min_four   -- for this text's walks alone
set_option linter.unusedVariables false
set_option linter.unusedSimpArgs false

/-! ### spec_bkText: function 40 -/
def spec_bkText.l0 : Nat → ByteArray → Int → Option (Bool)
 | 0, _, _ => none
 | k + 1, x0, x3 => if x3 < (x0.size : Int) then (if 0 ≤ x3 then (if (bt x0 x3) < 97 then (some false) else (if (bt x0 x3) > 122 then (some false) else (spec_bkText.l0 k x0 (wrap64 (x3 + 1))))) else (none)) else (some true)
def spec_bkText.f (k : Nat) (a0 : ByteArray) : Option (Bool) := if (a0.size : Int) > 20 then (some false) else (spec_bkText.l0 k a0 0)
theorem spec_bkText.mono_l : ∀ k, (∀ y0 y1, LeO (spec_bkText.l0 k y0 y1) (spec_bkText.l0 (k + 1) y0 y1))
 | 0 => by intros; intro r h; simp [spec_bkText.l0] at h
 | k + 1 => by
  have ih0 := spec_bkText.mono_l k
  ·
   intro y0 y1
   unfold spec_bkText.l0
   repeat' first
   | (with_reducible exact ih0 _ _)
   | (with_reducible exact LeO.refl _)
   | (with_reducible exact LeO.none _)
   | (with_reducible refine LeO.ite ?_ ?_)
   | (with_reducible refine LeO.bind ?_ (fun _ => ?_))
   | exact ih0 _ _
   | exact LeO.none _
   | refine LeO.ite ?_ ?_
   | refine LeO.bind ?_ (fun _ => ?_)
theorem spec_bkText.mono : ∀ y0 k, LeO (spec_bkText.f k y0) (spec_bkText.f (k + 1) y0) := by
 intro y0 k
 have ih0 := spec_bkText.mono_l k
 unfold spec_bkText.f
 repeat' first
   | (with_reducible exact ih0 _ _)
   | (with_reducible exact LeO.refl _)
   | (with_reducible exact LeO.none _)
   | (with_reducible refine LeO.ite ?_ ?_)
   | (with_reducible refine LeO.bind ?_ (fun _ => ?_))
   | exact ih0 _ _
   | exact LeO.none _
   | refine LeO.ite ?_ ?_
   | refine LeO.bind ?_ (fun _ => ?_)
set_option maxHeartbeats 8000000 in
set_option maxRecDepth 100000 in
theorem spec_bkText.calls (k : Nat) (a0 : ByteArray) (r : Bool) (w : World) (h : spec_bkText.f k a0 = some r) :
  Calls Tryd.prog 40 #[.string a0] w fun e w' => e = .returned (.bool r) ∧ Drawn0 w w' := by
 have H : (if (a0.size : Int) > 20 then (some false) else (spec_bkText.l0 k a0 0)) = some r := h
 clear h
 by_cases c2 : (a0.size : Int) > 20
 ·
  rw [if_pos c2] at H
  have c2b0 : decide (20 < (a0.size : Int)) = true := decide_eq_true c2
  have c2b1 : decide (20 < a0.size) = true := decide_eq_true (by omega)
  clear c2
  obtain rfl := Option.some.inj H
  go_enter Tryd.func40, Tryd.ntmps40
  go_wp2
  go_ret
  exact ⟨by first | rfl | (simp; done) | (simp [*]; done), by repeat (first | exact Drawn0.refl _ | apply Drawn0.step)⟩
 ·
  rw [if_neg c2] at H
  have c2b0 : decide (20 < (a0.size : Int)) = false := decide_eq_false c2
  have c2b1 : decide (20 < a0.size) = false := decide_eq_false (by omega)
  clear c2
  have H' := Aside0.mk H
  clear H
  go_enter Tryd.func40, Tryd.ntmps40
  go_wp2
  go_loopg [3] k (fun kq v3 w' => ∃ (x3_1 : Int), v3 = .int .i64 x3_1 ∧ Aside0 (spec_bkText.l0 kq a0 x3_1 = some r) ∧ Aside0 (kq ≤ k) ∧ Drawn0 w w')
  case atStart => exact ⟨(0), (by first | rfl | (simp; done) | (simp [*]; done)), H', ⟨Nat.le_refl _⟩, by repeat (first | exact Drawn0.refl _ | apply Drawn0.step)⟩
  case round =>
   clear H'
   try clear c2
   try clear c2b0
   try clear c2b1
   try clear p2
   obtain ⟨x3_1, rfl, HA, HK1, ⟨m1, rfl⟩⟩ := hrel
   cases gk with
   | zero => exact absurd HA.out (by simp [spec_bkText.l0])
   | succ k1 =>
    have H := HA.out
    clear HA
    simp only [spec_bkText.l0] at H
    by_cases c3 : x3_1 < (a0.size : Int)
    ·
     rw [if_pos c3] at H
     have c3b0 : decide (x3_1 < (a0.size : Int)) = true := decide_eq_true c3
     clear c3
     by_cases c4 : 0 ≤ x3_1
     ·
      rw [if_pos c4] at H
      have c4b0 : decide (0 ≤ x3_1) = true := decide_eq_true c4
      clear c4
      by_cases c6 : (bt a0 x3_1) < 97
      ·
       rw [if_pos c6] at H
       have c6b0 : decide ((bt a0 x3_1) < 97) = true := decide_eq_true c6
       clear c6
       obtain rfl := Option.some.inj H
       have p5 : 0 ≤ (x3_1 : Int) := of_decide_eq_true (by first | (with_reducible assumption) | assumption)
       have q5 : x3_1 < (a0.size : Int) := of_decide_eq_true (by first | (with_reducible assumption) | assumption)
       have hx5 := bt_at a0 x3_1
       replace p5 := eq_true p5
       replace q5 := eq_true q5
       go_wp2
       go_ret
       exact ⟨by first | rfl | (simp; done) | (simp [*]; done), by repeat (first | exact Drawn0.refl _ | apply Drawn0.step)⟩
      ·
       rw [if_neg c6] at H
       have c6b0 : decide ((bt a0 x3_1) < 97) = false := decide_eq_false c6
       clear c6
       by_cases c8 : (bt a0 x3_1) > 122
       ·
        rw [if_pos c8] at H
        have c8b0 : decide (122 < (bt a0 x3_1)) = true := decide_eq_true c8
        clear c8
        obtain rfl := Option.some.inj H
        have p5 : 0 ≤ (x3_1 : Int) := of_decide_eq_true (by first | (with_reducible assumption) | assumption)
        have q5 : x3_1 < (a0.size : Int) := of_decide_eq_true (by first | (with_reducible assumption) | assumption)
        have hx5 := bt_at a0 x3_1
        replace p5 := eq_true p5
        replace q5 := eq_true q5
        have p7 : 0 ≤ (x3_1 : Int) := of_decide_eq_true (by first | (with_reducible assumption) | assumption)
        have q7 : x3_1 < (a0.size : Int) := of_decide_eq_true (by first | (with_reducible assumption) | assumption)
        have hx7 := bt_at a0 x3_1
        replace p7 := eq_true p7
        replace q7 := eq_true q7
        go_wp2
        go_ret
        exact ⟨by first | rfl | (simp; done) | (simp [*]; done), by repeat (first | exact Drawn0.refl _ | apply Drawn0.step)⟩
       ·
        rw [if_neg c8] at H
        have c8b0 : decide (122 < (bt a0 x3_1)) = false := decide_eq_false c8
        clear c8
        have H' := Aside0.mk H
        clear H
        have p5 : 0 ≤ (x3_1 : Int) := of_decide_eq_true (by first | (with_reducible assumption) | assumption)
        have q5 : x3_1 < (a0.size : Int) := of_decide_eq_true (by first | (with_reducible assumption) | assumption)
        have hx5 := bt_at a0 x3_1
        replace p5 := eq_true p5
        replace q5 := eq_true q5
        have p7 : 0 ≤ (x3_1 : Int) := of_decide_eq_true (by first | (with_reducible assumption) | assumption)
        have q7 : x3_1 < (a0.size : Int) := of_decide_eq_true (by first | (with_reducible assumption) | assumption)
        have hx7 := bt_at a0 x3_1
        replace p7 := eq_true p7
        replace q7 := eq_true q7
        go_wp2
        go_roundg k1
        case measure => have := HK1.out; omega
        case rel => exact ⟨(wrap64 (x3_1 + 1)), (by first | rfl | (simp; done) | (simp [*]; done)), H', ⟨by have := HK1.out; omega⟩, by repeat (first | exact Drawn0.refl _ | apply Drawn0.step)⟩
     ·
      rw [if_neg c4] at H
      exact absurd H (by simp)
    ·
     rw [if_neg c3] at H
     have c3b0 : decide (x3_1 < (a0.size : Int)) = false := decide_eq_false c3
     clear c3
     obtain rfl := Option.some.inj H
     go_wp2
     go_ret
     exact ⟨by first | rfl | (simp; done) | (simp [*]; done), by repeat (first | exact Drawn0.refl _ | apply Drawn0.step)⟩

end Go.Proofs.YtamhlbdjjfdbiaaDoor.P

-- printed by xprint.py
namespace Go.Proofs.YtamhlbdjjfdbiaaDoor.P
open Go.RowKit Go.Proofs.YtamhlbdjjfdbiaaDoorW.PrintWords Go.Proofs.YtamhlbdjjfdbiaaDoorW.PrintLast Go.Proofs.YtamhlbdjjfdbiaaDoorW.PrintMore
attribute [local go_sem] max2_int min2_int max_two min_two max_three min_three max_four min_four   -- for this text's walks alone
set_option linter.unusedVariables false
set_option linter.unusedSimpArgs false

/-! ### spec_bkPair: function 35 -/
def spec_bkPair.f (k : Nat) (a0 : ByteArray) (a1 : ByteArray) : Option (Bool) := (spec_bkText.f k a0).bind fun t101 => (if t101 = true then ((spec_bkText.f k a1).bind fun t102 => (some t102)) else (some false))
theorem spec_bkPair.mono : ∀ y0 y1 k, LeO (spec_bkPair.f k y0 y1) (spec_bkPair.f (k + 1) y0 y1) := by
 intro y0 y1 k
 unfold spec_bkPair.f
 repeat' first
   | (with_reducible exact spec_bkText.mono _ _)
   | (with_reducible exact LeO.refl _)
   | (with_reducible exact LeO.none _)
   | (with_reducible refine LeO.ite ?_ ?_)
   | (with_reducible refine LeO.bind ?_ (fun _ => ?_))
   | exact spec_bkText.mono _ _
   | exact LeO.none _
   | refine LeO.ite ?_ ?_
   | refine LeO.bind ?_ (fun _ => ?_)
set_option maxHeartbeats 8000000 in
set_option maxRecDepth 100000 in
theorem spec_bkPair.calls (k : Nat) (a0 : ByteArray) (a1 : ByteArray) (r : Bool) (w : World) (h : spec_bkPair.f k a0 a1 = some r) :
  Calls Tryd.prog 35 #[.string a0, .string a1] w fun e w' => e = .returned (.bool r) ∧ Drawn0 w w' := by
 have H : ((spec_bkText.f k a0).bind fun t101 => (if t101 = true then ((spec_bkText.f k a1).bind fun t102 => (some t102)) else (some false))) = some r := h
 clear h
 replace H := Option.bind_eq_some_iff.mp H
 obtain ⟨t101, A30, H⟩ := H
 replace H : (if t101 = true then ((spec_bkText.f k a1).bind fun t102 => (some t102)) else (some false)) = some r := H
 have A3 := Aside0.mk A30
 clear A30
 by_cases c4 : t101 = true
 ·
  subst c4
  have H1 : ((spec_bkText.f k a1).bind fun t102 => (some t102)) = some r := by rw [if_pos rfl] at H; exact H
  clear H
  have H := H1
  clear H1
  replace H := Option.bind_eq_some_iff.mp H
  obtain ⟨t102, A50, H⟩ := H
  replace H : (some t102) = some r := H
  have A5 := Aside0.mk A50
  clear A50
  obtain rfl := Option.some.inj H
  go_enter Tryd.func35, Tryd.ntmps35
  go_wp2_with (first | ((with_reducible refine gate_callee (f := 40) rfl ?_); refine goesL_ (some 6) rfl rfl Tryd.func40 (by kernel_rfl) rfl #[.string a0] rfl (by (try simp only [List.map_toArray, List.map_cons, List.map_nil]); first | done | rfl | (simp only [List.length_drop, List.length_take]; rfl)) ?_; (with_reducible refine (spec_bkText.calls k a0 true _ A3.out).mono ?_); rintro e w' ⟨rfl, ⟨nd, rfl⟩⟩; refine ⟨_, rfl, ?_⟩) | (go_at_call 40; (with_reducible refine (spec_bkText.calls k a1 t102 _ A5.out).mono ?_); rintro e w' ⟨rfl, ⟨nd, rfl⟩⟩))
  go_ret
  exact ⟨by first | rfl | (simp; done) | (simp [*]; done), by repeat (first | exact Drawn0.refl _ | apply Drawn0.step)⟩
 ·
  replace c4 := Bool.eq_false_iff.mpr c4
  subst c4
  have H1 : (some false) = some r := by rw [if_neg (show ¬ (false = true) by decide)] at H; exact H
  clear H
  have H := H1
  clear H1
  obtain rfl := Option.some.inj H
  go_enter Tryd.func35, Tryd.ntmps35
  go_wp2_with (first | ((with_reducible refine gate_callee (f := 40) rfl ?_); refine goesL_ (some 6) rfl rfl Tryd.func40 (by kernel_rfl) rfl #[.string a0] rfl (by (try simp only [List.map_toArray, List.map_cons, List.map_nil]); first | done | rfl | (simp only [List.length_drop, List.length_take]; rfl)) ?_; (with_reducible refine (spec_bkText.calls k a0 false _ A3.out).mono ?_); rintro e w' ⟨rfl, ⟨nd, rfl⟩⟩; refine ⟨_, rfl, ?_⟩))
  go_ret
  exact ⟨by first | rfl | (simp; done) | (simp [*]; done), by repeat (first | exact Drawn0.refl _ | apply Drawn0.step)⟩

end Go.Proofs.YtamhlbdjjfdbiaaDoor.P

-- printed by xprint.py
namespace Go.Proofs.YtamhlbdjjfdbiaaDoor.P
open Go.RowKit Go.Proofs.YtamhlbdjjfdbiaaDoorW.PrintWords Go.Proofs.YtamhlbdjjfdbiaaDoorW.PrintLast Go.Proofs.YtamhlbdjjfdbiaaDoorW.PrintMore
attribute [local go_sem] max2_int min2_int max_two min_two max_three min_three max_four min_four   -- for this text's walks alone
set_option linter.unusedVariables false
set_option linter.unusedSimpArgs false

/-! ### spec_FirstCommon: function 22 -/
mutual
def spec_FirstCommon.l0 : Nat → ByteArray → ByteArray → List (List Int) → ByteArray → Int → Int → Option (ByteArray × Bool)
 | 0, _, _, _, _, _, _ => none
 | k + 1, x0, x1, x6, x7, x8, x9 => if 0 ≤ x8 then (if x8 < (x6.length : Int) then (if 0 ≤ x9 then (if x9 < ((rd_L1 x6 x8).length : Int) then (if (rd (rd_L1 x6 x8) x9) > 0 then (spec_FirstCommon.l1 k x0 x1 x6 x7 x8 x9 97) else (some (x7, true))) else (none)) else (none)) else (none)) else (none)
def spec_FirstCommon.l1 : Nat → ByteArray → ByteArray → List (List Int) → ByteArray → Int → Int → Int → Option (ByteArray × Bool)
 | 0, _, _, _, _, _, _, _ => none
 | k + 1, x0, x1, x6, x7, x8, x9, x10 => if x10 ≤ 122 then ((spec_bkNext.f k x0 x8 x10).bind fun t107 => ((spec_bkNext.f k x1 x9 x10).bind fun t108 => (if t107 < (x0.size : Int) then (if t108 < (x1.size : Int) then (if 0 ≤ (wrap64 (t107 + 1)) then (if (wrap64 (t107 + 1)) < (x6.length : Int) then (if 0 ≤ (wrap64 (t108 + 1)) then (if (wrap64 (t108 + 1)) < ((rd_L1 x6 (wrap64 (t107 + 1))).length : Int) then (if 0 ≤ x8 then (if x8 < (x6.length : Int) then (if 0 ≤ x9 then (if x9 < ((rd_L1 x6 x8).length : Int) then (if (wrap64 ((rd (rd_L1 x6 (wrap64 (t107 + 1))) (wrap64 (t108 + 1))) + 1)) = (rd (rd_L1 x6 x8) x9) then (if x7.size + (Utf8.encode (wrap32 (x10))).size ≤ 9223372036854775807 then (spec_FirstCommon.l0 k x0 x1 x6 (x7 ++ (Utf8.encode (wrap32 (x10)))) (wrap64 (t107 + 1)) (wrap64 (t108 + 1))) else (none)) else (spec_FirstCommon.l1 k x0 x1 x6 x7 x8 x9 ((x10 + 1) % 256))) else (none)) else (none)) else (none)) else (none)) else (none)) else (none)) else (none)) else (none)) else (spec_FirstCommon.l1 k x0 x1 x6 x7 x8 x9 ((x10 + 1) % 256))) else (spec_FirstCommon.l1 k x0 x1 x6 x7 x8 x9 ((x10 + 1) % 256))))) else (spec_FirstCommon.l0 k x0 x1 x6 x7 x8 x9)
end
def spec_FirstCommon.f (k : Nat) (a0 : ByteArray) (a1 : ByteArray) : Option (ByteArray × Bool) := (spec_bkPair.f k a0 a1).bind fun t101 => (if t101 = true then ((spec_bkCommon.f k a0 a1).bind fun t102 => (spec_FirstCommon.l0 k a0 a1 t102 (⟨#[]⟩ : ByteArray) 0 0)) else (some ((⟨#[]⟩ : ByteArray), false)))
theorem spec_FirstCommon.mono_l : ∀ k, (∀ y0 y1 y2 y3 y4 y5, LeO (spec_FirstCommon.l0 k y0 y1 y2 y3 y4 y5) (spec_FirstCommon.l0 (k + 1) y0 y1 y2 y3 y4 y5)) ∧ (∀ y0 y1 y2 y3 y4 y5 y6, LeO (spec_FirstCommon.l1 k y0 y1 y2 y3 y4 y5 y6) (spec_FirstCommon.l1 (k + 1) y0 y1 y2 y3 y4 y5 y6))
 | 0 => ⟨by intros; intro r h; simp [spec_FirstCommon.l0] at h, by intros; intro r h; simp [spec_FirstCommon.l1] at h⟩
 | k + 1 => by
  obtain ⟨ih0, ih1⟩ := spec_FirstCommon.mono_l k
  refine ⟨?_, ?_⟩
  ·
   intro y0 y1 y2 y3 y4 y5
   unfold spec_FirstCommon.l0
   repeat' first
   | (with_reducible exact ih0 _ _ _ _ _ _)
   | (with_reducible exact ih1 _ _ _ _ _ _ _)
   | (with_reducible exact spec_bkCommon.mono _ _ _)
   | (with_reducible exact spec_bkNext.mono _ _ _ _)
   | (with_reducible exact spec_bkPair.mono _ _ _)
   | (with_reducible exact LeO.refl _)
   | (with_reducible exact LeO.none _)
   | (with_reducible refine LeO.ite ?_ ?_)
   | (with_reducible refine LeO.bind ?_ (fun _ => ?_))
   | exact ih0 _ _ _ _ _ _
   | exact ih1 _ _ _ _ _ _ _
   | exact spec_bkCommon.mono _ _ _
   | exact spec_bkNext.mono _ _ _ _
   | exact spec_bkPair.mono _ _ _
   | exact LeO.none _
   | refine LeO.ite ?_ ?_
   | refine LeO.bind ?_ (fun _ => ?_)
  ·
   intro y0 y1 y2 y3 y4 y5 y6
   unfold spec_FirstCommon.l1
   repeat' first
   | (with_reducible exact ih0 _ _ _ _ _ _)
   | (with_reducible exact ih1 _ _ _ _ _ _ _)
   | (with_reducible exact spec_bkCommon.mono _ _ _)
   | (with_reducible exact spec_bkNext.mono _ _ _ _)
   | (with_reducible exact spec_bkPair.mono _ _ _)
   | (with_reducible exact LeO.refl _)
   | (with_reducible exact LeO.none _)
   | (with_reducible refine LeO.ite ?_ ?_)
   | (with_reducible refine LeO.bind ?_ (fun _ => ?_))
   | exact ih0 _ _ _ _ _ _
   | exact ih1 _ _ _ _ _ _ _
   | exact spec_bkCommon.mono _ _ _
   | exact spec_bkNext.mono _ _ _ _
   | exact spec_bkPair.mono _ _ _
   | exact LeO.none _
   | refine LeO.ite ?_ ?_
   | refine LeO.bind ?_ (fun _ => ?_)
theorem spec_FirstCommon.mono : ∀ y0 y1 k, LeO (spec_FirstCommon.f k y0 y1) (spec_FirstCommon.f (k + 1) y0 y1) := by
 intro y0 y1 k
 obtain ⟨ih0, ih1⟩ := spec_FirstCommon.mono_l k
 unfold spec_FirstCommon.f
 repeat' first
   | (with_reducible exact ih0 _ _ _ _ _ _)
   | (with_reducible exact ih1 _ _ _ _ _ _ _)
   | (with_reducible exact spec_bkCommon.mono _ _ _)
   | (with_reducible exact spec_bkNext.mono _ _ _ _)
   | (with_reducible exact spec_bkPair.mono _ _ _)
   | (with_reducible exact LeO.refl _)
   | (with_reducible exact LeO.none _)
   | (with_reducible refine LeO.ite ?_ ?_)
   | (with_reducible refine LeO.bind ?_ (fun _ => ?_))
   | exact ih0 _ _ _ _ _ _
   | exact ih1 _ _ _ _ _ _ _
   | exact spec_bkCommon.mono _ _ _
   | exact spec_bkNext.mono _ _ _ _
   | exact spec_bkPair.mono _ _ _
   | exact LeO.none _
   | refine LeO.ite ?_ ?_
   | refine LeO.bind ?_ (fun _ => ?_)
set_option maxHeartbeats 8000000 in
set_option maxRecDepth 100000 in
theorem spec_FirstCommon.calls (k : Nat) (a0 : ByteArray) (a1 : ByteArray) (r1 : ByteArray) (r2 : Bool) (w : World) (h : spec_FirstCommon.f k a0 a1 = some (r1, r2)) :
  Calls Tryd.prog 22 #[.string a0, .string a1] w fun e w' => e = .returned (.tuple #[.string r1, .bool r2]) ∧ Below w.heap.size w w' := by
 have HB := Aside0.mk (Below.refl w.heap.size w)
 have H : ((spec_bkPair.f k a0 a1).bind fun t101 => (if t101 = true then ((spec_bkCommon.f k a0 a1).bind fun t102 => (spec_FirstCommon.l0 k a0 a1 t102 (⟨#[]⟩ : ByteArray) 0 0)) else (some ((⟨#[]⟩ : ByteArray), false)))) = some (r1, r2) := h
 clear h
 replace H := Option.bind_eq_some_iff.mp H
 obtain ⟨t101, A30, H⟩ := H
 replace H : (if t101 = true then ((spec_bkCommon.f k a0 a1).bind fun t102 => (spec_FirstCommon.l0 k a0 a1 t102 (⟨#[]⟩ : ByteArray) 0 0)) else (some ((⟨#[]⟩ : ByteArray), false))) = some (r1, r2) := H
 have A3 := Aside0.mk A30
 clear A30
 by_cases c4 : t101 = true
 ·
  subst c4
  have H1 : ((spec_bkCommon.f k a0 a1).bind fun t102 => (spec_FirstCommon.l0 k a0 a1 t102 (⟨#[]⟩ : ByteArray) 0 0)) = some (r1, r2) := by rw [if_pos rfl] at H; exact H
  clear H
  have H := H1
  clear H1
  replace H := Option.bind_eq_some_iff.mp H
  obtain ⟨t102, A50, H⟩ := H
  replace H : (spec_FirstCommon.l0 k a0 a1 t102 (⟨#[]⟩ : ByteArray) 0 0) = some (r1, r2) := H
  have A5 := Aside0.mk A50
  clear A50
  have H' := Aside0.mk H
  clear H
  go_enter Tryd.func22, Tryd.ntmps22
  go_wp2_with (first | (go_at_call 35; (with_reducible refine (spec_bkPair.calls k a0 a1 true _ A3.out).mono ?_); rintro e w' ⟨rfl, ⟨nd, rfl⟩⟩; (try first | exact ⟨rfl, _, World.drewN_drewN _ _ _⟩ | exact ⟨rfl, _, Eq.trans (World.drewN_drewN _ _ _) (congrArg (World.drewN _) (Nat.add_assoc _ _ _))⟩)) | (go_at_call 42; (with_reducible refine (spec_bkCommon.calls k a0 a1 t102 _ A5.out).mono ?_); rintro e w6 ⟨v103, rfl, ho0, hb⟩; have n0_ := Aside0.mk (Kd.S_lower ho0 (below_size (by repeat (first | (with_reducible first | exact HB.out | apply below_alloc | apply pw_below_drewN | apply below_drew1) | exact HB.out)))); have n1_ := Aside0.mk (below_step (by repeat (first | (with_reducible first | exact HB.out | apply below_alloc | apply pw_below_drewN | apply below_drew1) | exact HB.out)) hb); clear HB; have HO104 := n0_; have HB := n1_; clear n0_ n1_; (try clear hb); (try clear hb2); (try clear hk); (try clear hi); (try clear ho0)))
  repeat (go_quiet (first | (go_at_call 35; (with_reducible refine (spec_bkPair.calls k a0 a1 true _ A3.out).mono ?_); rintro e w' ⟨rfl, ⟨nd, rfl⟩⟩; (try first | exact ⟨rfl, _, World.drewN_drewN _ _ _⟩ | exact ⟨rfl, _, Eq.trans (World.drewN_drewN _ _ _) (congrArg (World.drewN _) (Nat.add_assoc _ _ _))⟩)) | (go_at_call 42; (with_reducible refine (spec_bkCommon.calls k a0 a1 t102 _ A5.out).mono ?_); rintro e w6 ⟨v103, rfl, ho0, hb⟩; have n0_ := Aside0.mk (Kd.S_lower ho0 (below_size (by repeat (first | (with_reducible first | exact HB.out | apply below_alloc | apply pw_below_drewN | apply below_drew1) | exact HB.out)))); have n1_ := Aside0.mk (below_step (by repeat (first | (with_reducible first | exact HB.out | apply below_alloc | apply pw_below_drewN | apply below_drew1) | exact HB.out)) hb); clear HB; have HO104 := n0_; have HB := n1_; clear n0_ n1_; (try clear hb); (try clear hb2); (try clear hk); (try clear hi); (try clear ho0))); try go_wp2_with (first | (go_at_call 35; (with_reducible refine (spec_bkPair.calls k a0 a1 true _ A3.out).mono ?_); rintro e w' ⟨rfl, ⟨nd, rfl⟩⟩; (try first | exact ⟨rfl, _, World.drewN_drewN _ _ _⟩ | exact ⟨rfl, _, Eq.trans (World.drewN_drewN _ _ _) (congrArg (World.drewN _) (Nat.add_assoc _ _ _))⟩)) | (go_at_call 42; (with_reducible refine (spec_bkCommon.calls k a0 a1 t102 _ A5.out).mono ?_); rintro e w6 ⟨v103, rfl, ho0, hb⟩; have n0_ := Aside0.mk (Kd.S_lower ho0 (below_size (by repeat (first | (with_reducible first | exact HB.out | apply below_alloc | apply pw_below_drewN | apply below_drew1) | exact HB.out)))); have n1_ := Aside0.mk (below_step (by repeat (first | (with_reducible first | exact HB.out | apply below_alloc | apply pw_below_drewN | apply below_drew1) | exact HB.out)) hb); clear HB; have HO104 := n0_; have HB := n1_; clear n0_ n1_; (try clear hb); (try clear hb2); (try clear hk); (try clear hi); (try clear ho0))))
  go_loopg [7, 8, 9] k (fun kq v7 v8 v9 w' => ∃ (x7_1 : ByteArray) (x8_1 : Int) (x9_1 : Int), v7 = .string x7_1 ∧ v8 = .int .i64 x8_1 ∧ v9 = .int .i64 x9_1 ∧ Aside0 (spec_FirstCommon.l0 kq a0 a1 t102 x7_1 x8_1 x9_1 = some (r1, r2)) ∧ Aside0 (kq ≤ k) ∧ Aside0 (Kd.S (Kd.slice 3 (Kd.int .i64)) 43 w' w.heap.size (fun _ => True) v103 t102) ∧ Aside0 (Below w.heap.size w w'))
  case atStart => exact ⟨((⟨#[]⟩ : ByteArray)), (0), (0), (by first | rfl | (simp; done) | (simp [*]; done)), (by first | rfl | (simp; done) | (simp [*]; done)), (by first | rfl | (simp; done) | (simp [*]; done)), H', ⟨Nat.le_refl _⟩, ⟨by (with_reducible repeat (first | apply Kd.S_alloc | apply Kd.S_drewN | apply Kd.S_drew)); exact HO104.out⟩, ⟨by repeat (first | (with_reducible first | exact HB.out | apply below_alloc | apply pw_below_drewN | apply below_drew1) | exact HB.out)⟩⟩
  case round =>
   clear H'
   try clear c2
   try clear p2
   try clear c4
   obtain ⟨x7_1, x8_1, x9_1, rfl, rfl, rfl, HA, HK1, HO_6, HB⟩ := hrel
   cases gk with
   | zero => exact absurd HA.out (by simp [spec_FirstCommon.l0])
   | succ k1 =>
    have H := HA.out
    clear HA
    simp only [spec_FirstCommon.l0] at H
    by_cases c7 : 0 ≤ x8_1
    ·
     rw [if_pos c7] at H
     have c7b0 : decide (0 ≤ x8_1) = true := decide_eq_true c7
     clear c7
     by_cases c8 : x8_1 < (t102.length : Int)
     ·
      rw [if_pos c8] at H
      have c8b0 : decide (x8_1 < (t102.length : Int)) = true := decide_eq_true c8
      clear c8
      by_cases c9 : 0 ≤ x9_1
      ·
       rw [if_pos c9] at H
       have c9b0 : decide (0 ≤ x9_1) = true := decide_eq_true c9
       clear c9
       by_cases c10 : x9_1 < ((rd_L1 t102 x8_1).length : Int)
       ·
        rw [if_pos c10] at H
        have c10b0 : decide (x9_1 < ((rd_L1 t102 x8_1).length : Int)) = true := decide_eq_true c10
        clear c10
        by_cases c11 : (rd (rd_L1 t102 x8_1) x9_1) > 0
        ·
         rw [if_pos c11] at H
         have c11b0 : decide (0 < (rd (rd_L1 t102 x8_1) x9_1)) = true := decide_eq_true c11
         clear c11
         have H' := Aside0.mk H
         clear H
         obtain ⟨Ao12, co12, eo12⟩ := Kd.S_slice HO_6.out
         subst eo12
         have p105 : 0 ≤ (x8_1 : Int) := of_decide_eq_true (by first | (with_reducible assumption) | assumption)
         have q105 : x8_1 < (t102.length : Int) := of_decide_eq_true (by first | (with_reducible assumption) | assumption)
         obtain ⟨ad105, A105_0, c105_0, e105, hx105_0, hl105_0, hi105_0⟩ := at_L1 (Kd.S_reads' HO_6.out).2.2 x8_1 p105 q105
         cases e105
         obtain ⟨ce105, hce105, hMe105, hcc105⟩ := Kd.S_get HO_6.out [] x8_1 p105 (by first | exact q105 | exact of_decide_eq_true (by first | (with_reducible assumption) | assumption) | (have e_ := (Kd.S_reads' HO_6.out).1; omega))
         obtain ⟨ve105_0, rfl, ge105_0⟩ := hMe105
         have hv105_0 := hcc105 0 _ rfl
         rw [Nat.add_zero, show ((Kd.slice 3 (Kd.int .i64))).sz = 1 from rfl, Nat.mul_one] at hv105_0
         replace hv105_0 := Option.some.inj (hv105_0.symm.trans hx105_0)
         rw [hv105_0] at ge105_0
         have HL105_0 := Aside0.mk (show Kd.R (Kd.int .i64) 3 _ _ _ _ (rd_L1 t102 x8_1) from ge105_0)
         clear hv105_0 ge105_0
         clear hcc105 hce105
         have HR105_0 := Aside0.mk hi105_0
         have HC105_0 := Aside0.mk hl105_0
         clear hi105_0 hl105_0
         replace p105 := eq_true p105
         replace q105 := eq_true q105
         have p106 : 0 ≤ (x9_1 : Int) := of_decide_eq_true (by first | (with_reducible assumption) | assumption)
         have q106 : x9_1 < ((rd_L1 t102 x8_1).length : Int) := of_decide_eq_true (by first | (with_reducible assumption) | assumption)
         obtain ⟨ad106, e106, hx106_0⟩ := Kd.at_int (by repeat (first | (with_reducible exact HR105_0.out) | (with_reducible refine Kd.C_alloc ?_ _) | (with_reducible refine Kd.C_drewN ?_ _) | (with_reducible refine Kd.C_drew ?_) | exact HR105_0.out)) x9_1 p106 q106
         cases e106
         replace p106 := eq_true p106
         replace q106 := eq_true q106
         go_wp2
         repeat (go_quiet (fail); try go_wp2)
         go_loopg [7, 8, 9, 10] k1 (fun kq v7 v8 v9 v10 w' => ∃ (x7_2 : ByteArray) (x8_2 : Int) (x9_2 : Int) (x10_2 : Int), v7 = .string x7_2 ∧ v8 = .int .i64 x8_2 ∧ v9 = .int .i64 x9_2 ∧ v10 = .int .u8 x10_2 ∧ Aside0 (spec_FirstCommon.l1 kq a0 a1 t102 x7_2 x8_2 x9_2 x10_2 = some (r1, r2)) ∧ Aside0 (kq ≤ k1) ∧ Aside0 (Kd.S (Kd.slice 3 (Kd.int .i64)) 43 w' w.heap.size (fun _ => True) (.slice (some ad105) t102.length co12) t102) ∧ Aside0 (Kd.C (Kd.int .i64) w' (some ad106) (rd_L1 t102 x8_1).length (rd_L1 t102 x8_1)) ∧ Aside0 (Below w.heap.size w w'))
         case atStart => exact ⟨(x7_1), (x8_1), (x9_1), (97), (by first | rfl | (simp; done) | (simp [*]; done)), (by first | rfl | (simp; done) | (simp [*]; done)), (by first | rfl | (simp; done) | (simp [*]; done)), (by first | rfl | (simp; done) | (simp [*]; done)), H', ⟨Nat.le_refl _⟩, ⟨by (with_reducible repeat (first | apply Kd.S_alloc | apply Kd.S_drewN | apply Kd.S_drew)); exact HO_6.out⟩, ⟨by repeat (first | (with_reducible exact HR105_0.out) | (with_reducible refine Kd.C_alloc ?_ _) | (with_reducible refine Kd.C_drewN ?_ _) | (with_reducible refine Kd.C_drew ?_) | exact HR105_0.out)⟩, ⟨by repeat (first | (with_reducible first | exact HB.out | apply below_alloc | apply pw_below_drewN | apply below_drew1) | exact HB.out)⟩⟩
         case round =>
          clear H'
          try clear c1
          try clear p1
          try clear q1
          try clear hx1
          try clear c2
          try clear p2
          try clear c4
          try clear c7
          try clear c7b0
          try clear c8
          try clear c8b0
          try clear c9
          try clear c9b0
          try clear c10
          try clear c10b0
          try clear p10
          try clear q10
          try clear hx10
          try clear c11
          try clear c11b0
          try clear hx105_0
          try clear hx106_0
          try clear p105
          try clear p106
          try clear p2
          try clear q105
          try clear q106
          obtain ⟨x7_2, x8_2, x9_2, x10_2, rfl, rfl, rfl, rfl, HA, HK2, HO_6, HR105_0, HB⟩ := hrel
          cases gk with
          | zero => exact absurd HA.out (by simp [spec_FirstCommon.l1])
          | succ k2 =>
           have H := HA.out
           clear HA
           simp only [spec_FirstCommon.l1] at H
           by_cases c13 : x10_2 ≤ 122
           ·
            rw [if_pos c13] at H
            have c13b0 : decide (x10_2 ≤ 122) = true := decide_eq_true c13
            clear c13
            replace H := Option.bind_eq_some_iff.mp H
            obtain ⟨t107, A140, H⟩ := H
            replace H : ((spec_bkNext.f k2 a1 x9_2 x10_2).bind fun t108 => (if t107 < (a0.size : Int) then (if t108 < (a1.size : Int) then (if 0 ≤ (wrap64 (t107 + 1)) then (if (wrap64 (t107 + 1)) < (t102.length : Int) then (if 0 ≤ (wrap64 (t108 + 1)) then (if (wrap64 (t108 + 1)) < ((rd_L1 t102 (wrap64 (t107 + 1))).length : Int) then (if 0 ≤ x8_2 then (if x8_2 < (t102.length : Int) then (if 0 ≤ x9_2 then (if x9_2 < ((rd_L1 t102 x8_2).length : Int) then (if (wrap64 ((rd (rd_L1 t102 (wrap64 (t107 + 1))) (wrap64 (t108 + 1))) + 1)) = (rd (rd_L1 t102 x8_2) x9_2) then (if x7_2.size + (Utf8.encode (wrap32 (x10_2))).size ≤ 9223372036854775807 then (spec_FirstCommon.l0 k2 a0 a1 t102 (x7_2 ++ (Utf8.encode (wrap32 (x10_2)))) (wrap64 (t107 + 1)) (wrap64 (t108 + 1))) else (none)) else (spec_FirstCommon.l1 k2 a0 a1 t102 x7_2 x8_2 x9_2 ((x10_2 + 1) % 256))) else (none)) else (none)) else (none)) else (none)) else (none)) else (none)) else (none)) else (none)) else (spec_FirstCommon.l1 k2 a0 a1 t102 x7_2 x8_2 x9_2 ((x10_2 + 1) % 256))) else (spec_FirstCommon.l1 k2 a0 a1 t102 x7_2 x8_2 x9_2 ((x10_2 + 1) % 256)))) = some (r1, r2) := H
            have A14 := Aside0.mk A140
            clear A140
            replace H := Option.bind_eq_some_iff.mp H
            obtain ⟨t108, A150, H⟩ := H
            replace H : (if t107 < (a0.size : Int) then (if t108 < (a1.size : Int) then (if 0 ≤ (wrap64 (t107 + 1)) then (if (wrap64 (t107 + 1)) < (t102.length : Int) then (if 0 ≤ (wrap64 (t108 + 1)) then (if (wrap64 (t108 + 1)) < ((rd_L1 t102 (wrap64 (t107 + 1))).length : Int) then (if 0 ≤ x8_2 then (if x8_2 < (t102.length : Int) then (if 0 ≤ x9_2 then (if x9_2 < ((rd_L1 t102 x8_2).length : Int) then (if (wrap64 ((rd (rd_L1 t102 (wrap64 (t107 + 1))) (wrap64 (t108 + 1))) + 1)) = (rd (rd_L1 t102 x8_2) x9_2) then (if x7_2.size + (Utf8.encode (wrap32 (x10_2))).size ≤ 9223372036854775807 then (spec_FirstCommon.l0 k2 a0 a1 t102 (x7_2 ++ (Utf8.encode (wrap32 (x10_2)))) (wrap64 (t107 + 1)) (wrap64 (t108 + 1))) else (none)) else (spec_FirstCommon.l1 k2 a0 a1 t102 x7_2 x8_2 x9_2 ((x10_2 + 1) % 256))) else (none)) else (none)) else (none)) else (none)) else (none)) else (none)) else (none)) else (none)) else (spec_FirstCommon.l1 k2 a0 a1 t102 x7_2 x8_2 x9_2 ((x10_2 + 1) % 256))) else (spec_FirstCommon.l1 k2 a0 a1 t102 x7_2 x8_2 x9_2 ((x10_2 + 1) % 256))) = some (r1, r2) := H
            have A15 := Aside0.mk A150
            clear A150
            by_cases c16 : t107 < (a0.size : Int)
            ·
             rw [if_pos c16] at H
             have c16b0 : decide (t107 < (a0.size : Int)) = true := decide_eq_true c16
             clear c16
             by_cases c17 : t108 < (a1.size : Int)
             ·
              rw [if_pos c17] at H
              have c17b0 : decide (t108 < (a1.size : Int)) = true := decide_eq_true c17
              clear c17
              obtain ⟨ji18, hji18⟩ : ∃ j_ : Int, (wrap64 (t107 + 1)) = j_ := ⟨_, rfl⟩
              replace H : (if 0 ≤ (ji18) then (if (ji18) < (t102.length : Int) then (if 0 ≤ (wrap64 (t108 + 1)) then (if (wrap64 (t108 + 1)) < ((rd_L1 t102 (ji18)).length : Int) then (if 0 ≤ x8_2 then (if x8_2 < (t102.length : Int) then (if 0 ≤ x9_2 then (if x9_2 < ((rd_L1 t102 x8_2).length : Int) then (if (wrap64 ((rd (rd_L1 t102 (ji18)) (wrap64 (t108 + 1))) + 1)) = (rd (rd_L1 t102 x8_2) x9_2) then (if x7_2.size + (Utf8.encode (wrap32 (x10_2))).size ≤ 9223372036854775807 then (spec_FirstCommon.l0 k2 a0 a1 t102 (x7_2 ++ (Utf8.encode (wrap32 (x10_2)))) ji18 (wrap64 (t108 + 1))) else (none)) else (spec_FirstCommon.l1 k2 a0 a1 t102 x7_2 x8_2 x9_2 ((x10_2 + 1) % 256))) else (none)) else (none)) else (none)) else (none)) else (none)) else (none)) else (none)) else (none)) = some (r1, r2) := by first | (rw [hji18] at H; exact H) | (simp only [hji18] at H ⊢; exact H)
              (try rw [hji18] at A14)
              (try rw [hji18] at A15)
              have hji18w : (IntKind.i64.wrap (t107 + 1)) = ji18 := (i64_w _).trans hji18
              by_cases c19 : 0 ≤ (ji18)
              ·
               rw [if_pos c19] at H
               have c19b0 : decide (0 ≤ (ji18)) = true := decide_eq_true c19
               clear c19
               by_cases c20 : (ji18) < (t102.length : Int)
               ·
                rw [if_pos c20] at H
                have c20b0 : decide ((ji18) < (t102.length : Int)) = true := decide_eq_true c20
                clear c20
                obtain ⟨ji21, hji21⟩ : ∃ j_ : Int, (wrap64 (t108 + 1)) = j_ := ⟨_, rfl⟩
                replace H : (if 0 ≤ (ji21) then (if (ji21) < ((rd_L1 t102 (ji18)).length : Int) then (if 0 ≤ x8_2 then (if x8_2 < (t102.length : Int) then (if 0 ≤ x9_2 then (if x9_2 < ((rd_L1 t102 x8_2).length : Int) then (if (wrap64 ((rd (rd_L1 t102 (ji18)) (ji21)) + 1)) = (rd (rd_L1 t102 x8_2) x9_2) then (if x7_2.size + (Utf8.encode (wrap32 (x10_2))).size ≤ 9223372036854775807 then (spec_FirstCommon.l0 k2 a0 a1 t102 (x7_2 ++ (Utf8.encode (wrap32 (x10_2)))) ji18 ji21) else (none)) else (spec_FirstCommon.l1 k2 a0 a1 t102 x7_2 x8_2 x9_2 ((x10_2 + 1) % 256))) else (none)) else (none)) else (none)) else (none)) else (none)) else (none)) = some (r1, r2) := by first | (rw [hji21] at H; exact H) | (simp only [hji21] at H ⊢; exact H)
                (try rw [hji21] at A14)
                (try rw [hji21] at A15)
                have hji21w : (IntKind.i64.wrap (t108 + 1)) = ji21 := (i64_w _).trans hji21
                by_cases c22 : 0 ≤ (ji21)
                ·
                 rw [if_pos c22] at H
                 have c22b0 : decide (0 ≤ (ji21)) = true := decide_eq_true c22
                 clear c22
                 by_cases c23 : (ji21) < ((rd_L1 t102 (ji18)).length : Int)
                 ·
                  rw [if_pos c23] at H
                  have c23b0 : decide ((ji21) < ((rd_L1 t102 (ji18)).length : Int)) = true := decide_eq_true c23
                  clear c23
                  by_cases c24 : 0 ≤ x8_2
                  ·
                   rw [if_pos c24] at H
                   have c24b0 : decide (0 ≤ x8_2) = true := decide_eq_true c24
                   clear c24
                   by_cases c25 : x8_2 < (t102.length : Int)
                   ·
                    rw [if_pos c25] at H
                    have c25b0 : decide (x8_2 < (t102.length : Int)) = true := decide_eq_true c25
                    clear c25
                    by_cases c26 : 0 ≤ x9_2
                    ·
                     rw [if_pos c26] at H
                     have c26b0 : decide (0 ≤ x9_2) = true := decide_eq_true c26
                     clear c26
                     by_cases c27 : x9_2 < ((rd_L1 t102 x8_2).length : Int)
                     ·
                      rw [if_pos c27] at H
                      have c27b0 : decide (x9_2 < ((rd_L1 t102 x8_2).length : Int)) = true := decide_eq_true c27
                      clear c27
                      by_cases c28 : (wrap64 ((rd (rd_L1 t102 (ji18)) (ji21)) + 1)) = (rd (rd_L1 t102 x8_2) x9_2)
                      ·
                       rw [if_pos c28] at H
                       have c28b0 : ((wrap64 ((rd (rd_L1 t102 (ji18)) (ji21)) + 1)) == (rd (rd_L1 t102 x8_2) x9_2)) = true := beq_iff_eq.mpr c28
                       have c28b1 : ((wrap64 ((rd (rd_L1 t102 (ji18)) (ji21)) + 1)) != (rd (rd_L1 t102 x8_2) x9_2)) = false := bne_eq_false_iff_eq.mpr c28
                       clear c28
                       by_cases c29 : x7_2.size + (Utf8.encode (wrap32 (x10_2))).size ≤ 9223372036854775807
                       ·
                        rw [if_pos c29] at H
                        have c29b0 := eq_true c29
                        have c29b1 : decide (x7_2.size + (Utf8.encode (wrap32 (x10_2))).size ≤ 9223372036854775807) = true := decide_eq_true c29
                        try have c29b2 : (9223372036854775807 < x7_2.size + (Utf8.encode (wrap32 (x10_2))).size) = False := eq_false (Nat.not_lt.2 c29)
                        have H' := Aside0.mk H
                        clear H
                        go_wp2_with (first | (go_at_call 43; (with_reducible refine (spec_bkNext.calls k2 a0 x8_2 x10_2 t107 _ A14.out).mono ?_); rintro e w' ⟨rfl, ⟨nd, rfl⟩⟩; (try first | exact ⟨rfl, _, World.drewN_drewN _ _ _⟩ | exact ⟨rfl, _, Eq.trans (World.drewN_drewN _ _ _) (congrArg (World.drewN _) (Nat.add_assoc _ _ _))⟩)) | (go_at_call 43; (with_reducible refine (spec_bkNext.calls k2 a1 x9_2 x10_2 t108 _ A15.out).mono ?_); rintro e w' ⟨rfl, ⟨nd, rfl⟩⟩; (try first | exact ⟨rfl, _, World.drewN_drewN _ _ _⟩ | exact ⟨rfl, _, Eq.trans (World.drewN_drewN _ _ _) (congrArg (World.drewN _) (Nat.add_assoc _ _ _))⟩); have p109 : 0 ≤ ((ji18) : Int) := of_decide_eq_true (by first | (with_reducible assumption) | assumption); have q109 : (ji18) < (t102.length : Int) := of_decide_eq_true (by first | (with_reducible assumption) | assumption); obtain ⟨ad109, A109_0, c109_0, e109, hx109_0, hl109_0, hi109_0⟩ := at_L1 (Kd.S_reads' HO_6.out).2.2 (ji18) p109 q109; obtain rfl : ad105 = ad109 := (by injection e109); obtain ⟨ce109, hce109, hMe109, hcc109⟩ := Kd.S_get HO_6.out [] (ji18) p109 (by first | exact q109 | exact of_decide_eq_true (by first | (with_reducible assumption) | assumption) | (have e_ := (Kd.S_reads' HO_6.out).1; omega)); obtain ⟨ve109_0, rfl, ge109_0⟩ := hMe109; have hv109_0 := hcc109 0 _ rfl; rw [Nat.add_zero, show ((Kd.slice 3 (Kd.int .i64))).sz = 1 from rfl, Nat.mul_one] at hv109_0; replace hv109_0 := Option.some.inj (hv109_0.symm.trans hx109_0); rw [hv109_0] at ge109_0; have HL109_0 := Aside0.mk (show Kd.R (Kd.int .i64) 3 _ _ _ _ (rd_L1 t102 (ji18)) from ge109_0); clear hv109_0 ge109_0; clear hcc109 hce109; have HR109_0 := Aside0.mk hi109_0; have HC109_0 := Aside0.mk hl109_0; clear hi109_0 hl109_0; replace p109 := eq_true p109; replace q109 := eq_true q109; have p110 : 0 ≤ ((ji21) : Int) := of_decide_eq_true (by first | (with_reducible assumption) | assumption); have q110 : (ji21) < ((rd_L1 t102 (ji18)).length : Int) := of_decide_eq_true (by first | (with_reducible assumption) | assumption); obtain ⟨ad110, e110, hx110_0⟩ := Kd.at_int (by repeat (first | (with_reducible exact HR109_0.out) | (with_reducible refine Kd.C_alloc ?_ _) | (with_reducible refine Kd.C_drewN ?_ _) | (with_reducible refine Kd.C_drew ?_) | exact HR109_0.out)) (ji21) p110 q110; cases e110; replace p110 := eq_true p110; replace q110 := eq_true q110; have p111 : 0 ≤ (x8_2 : Int) := of_decide_eq_true (by first | (with_reducible assumption) | assumption); have q111 : x8_2 < (t102.length : Int) := of_decide_eq_true (by first | (with_reducible assumption) | assumption); obtain ⟨ad111, A111_0, c111_0, e111, hx111_0, hl111_0, hi111_0⟩ := at_L1 (Kd.S_reads' HO_6.out).2.2 x8_2 p111 q111; obtain rfl : ad105 = ad111 := (by injection e111); obtain ⟨ce111, hce111, hMe111, hcc111⟩ := Kd.S_get HO_6.out [] x8_2 p111 (by first | exact q111 | exact of_decide_eq_true (by first | (with_reducible assumption) | assumption) | (have e_ := (Kd.S_reads' HO_6.out).1; omega)); obtain ⟨ve111_0, rfl, ge111_0⟩ := hMe111; have hv111_0 := hcc111 0 _ rfl; rw [Nat.add_zero, show ((Kd.slice 3 (Kd.int .i64))).sz = 1 from rfl, Nat.mul_one] at hv111_0; replace hv111_0 := Option.some.inj (hv111_0.symm.trans hx111_0); rw [hv111_0] at ge111_0; have HL111_0 := Aside0.mk (show Kd.R (Kd.int .i64) 3 _ _ _ _ (rd_L1 t102 x8_2) from ge111_0); clear hv111_0 ge111_0; clear hcc111 hce111; have HR111_0 := Aside0.mk hi111_0; have HC111_0 := Aside0.mk hl111_0; clear hi111_0 hl111_0; replace p111 := eq_true p111; replace q111 := eq_true q111; have p112 : 0 ≤ (x9_2 : Int) := of_decide_eq_true (by first | (with_reducible assumption) | assumption); have q112 : x9_2 < ((rd_L1 t102 x8_2).length : Int) := of_decide_eq_true (by first | (with_reducible assumption) | assumption); obtain ⟨ad112, e112, hx112_0⟩ := Kd.at_int (by repeat (first | (with_reducible exact HR111_0.out) | (with_reducible refine Kd.C_alloc ?_ _) | (with_reducible refine Kd.C_drewN ?_ _) | (with_reducible refine Kd.C_drew ?_) | exact HR111_0.out)) x9_2 p112 q112; cases e112; replace p112 := eq_true p112; replace q112 := eq_true q112; have hcv30 : ∀ W : World, (convert 21 9 (.int .i32 (wrap32 (x10_2)))).run Tryd.prog W = .ok (.string (Utf8.encode (wrap32 (x10_2)))) W := fun W => run_convert_int_string W 21 9 .i32 (wrap32 (x10_2)) (by rw [Tryd.underlying21]; rfl) Tryd.underlying9))
                        repeat (go_quiet (first | (go_at_call 43; (with_reducible refine (spec_bkNext.calls k2 a0 x8_2 x10_2 t107 _ A14.out).mono ?_); rintro e w' ⟨rfl, ⟨nd, rfl⟩⟩; (try first | exact ⟨rfl, _, World.drewN_drewN _ _ _⟩ | exact ⟨rfl, _, Eq.trans (World.drewN_drewN _ _ _) (congrArg (World.drewN _) (Nat.add_assoc _ _ _))⟩)) | (go_at_call 43; (with_reducible refine (spec_bkNext.calls k2 a1 x9_2 x10_2 t108 _ A15.out).mono ?_); rintro e w' ⟨rfl, ⟨nd, rfl⟩⟩; (try first | exact ⟨rfl, _, World.drewN_drewN _ _ _⟩ | exact ⟨rfl, _, Eq.trans (World.drewN_drewN _ _ _) (congrArg (World.drewN _) (Nat.add_assoc _ _ _))⟩); have p109 : 0 ≤ ((ji18) : Int) := of_decide_eq_true (by first | (with_reducible assumption) | assumption); have q109 : (ji18) < (t102.length : Int) := of_decide_eq_true (by first | (with_reducible assumption) | assumption); obtain ⟨ad109, A109_0, c109_0, e109, hx109_0, hl109_0, hi109_0⟩ := at_L1 (Kd.S_reads' HO_6.out).2.2 (ji18) p109 q109; obtain rfl : ad105 = ad109 := (by injection e109); obtain ⟨ce109, hce109, hMe109, hcc109⟩ := Kd.S_get HO_6.out [] (ji18) p109 (by first | exact q109 | exact of_decide_eq_true (by first | (with_reducible assumption) | assumption) | (have e_ := (Kd.S_reads' HO_6.out).1; omega)); obtain ⟨ve109_0, rfl, ge109_0⟩ := hMe109; have hv109_0 := hcc109 0 _ rfl; rw [Nat.add_zero, show ((Kd.slice 3 (Kd.int .i64))).sz = 1 from rfl, Nat.mul_one] at hv109_0; replace hv109_0 := Option.some.inj (hv109_0.symm.trans hx109_0); rw [hv109_0] at ge109_0; have HL109_0 := Aside0.mk (show Kd.R (Kd.int .i64) 3 _ _ _ _ (rd_L1 t102 (ji18)) from ge109_0); clear hv109_0 ge109_0; clear hcc109 hce109; have HR109_0 := Aside0.mk hi109_0; have HC109_0 := Aside0.mk hl109_0; clear hi109_0 hl109_0; replace p109 := eq_true p109; replace q109 := eq_true q109; have p110 : 0 ≤ ((ji21) : Int) := of_decide_eq_true (by first | (with_reducible assumption) | assumption); have q110 : (ji21) < ((rd_L1 t102 (ji18)).length : Int) := of_decide_eq_true (by first | (with_reducible assumption) | assumption); obtain ⟨ad110, e110, hx110_0⟩ := Kd.at_int (by repeat (first | (with_reducible exact HR109_0.out) | (with_reducible refine Kd.C_alloc ?_ _) | (with_reducible refine Kd.C_drewN ?_ _) | (with_reducible refine Kd.C_drew ?_) | exact HR109_0.out)) (ji21) p110 q110; cases e110; replace p110 := eq_true p110; replace q110 := eq_true q110; have p111 : 0 ≤ (x8_2 : Int) := of_decide_eq_true (by first | (with_reducible assumption) | assumption); have q111 : x8_2 < (t102.length : Int) := of_decide_eq_true (by first | (with_reducible assumption) | assumption); obtain ⟨ad111, A111_0, c111_0, e111, hx111_0, hl111_0, hi111_0⟩ := at_L1 (Kd.S_reads' HO_6.out).2.2 x8_2 p111 q111; obtain rfl : ad105 = ad111 := (by injection e111); obtain ⟨ce111, hce111, hMe111, hcc111⟩ := Kd.S_get HO_6.out [] x8_2 p111 (by first | exact q111 | exact of_decide_eq_true (by first | (with_reducible assumption) | assumption) | (have e_ := (Kd.S_reads' HO_6.out).1; omega)); obtain ⟨ve111_0, rfl, ge111_0⟩ := hMe111; have hv111_0 := hcc111 0 _ rfl; rw [Nat.add_zero, show ((Kd.slice 3 (Kd.int .i64))).sz = 1 from rfl, Nat.mul_one] at hv111_0; replace hv111_0 := Option.some.inj (hv111_0.symm.trans hx111_0); rw [hv111_0] at ge111_0; have HL111_0 := Aside0.mk (show Kd.R (Kd.int .i64) 3 _ _ _ _ (rd_L1 t102 x8_2) from ge111_0); clear hv111_0 ge111_0; clear hcc111 hce111; have HR111_0 := Aside0.mk hi111_0; have HC111_0 := Aside0.mk hl111_0; clear hi111_0 hl111_0; replace p111 := eq_true p111; replace q111 := eq_true q111; have p112 : 0 ≤ (x9_2 : Int) := of_decide_eq_true (by first | (with_reducible assumption) | assumption); have q112 : x9_2 < ((rd_L1 t102 x8_2).length : Int) := of_decide_eq_true (by first | (with_reducible assumption) | assumption); obtain ⟨ad112, e112, hx112_0⟩ := Kd.at_int (by repeat (first | (with_reducible exact HR111_0.out) | (with_reducible refine Kd.C_alloc ?_ _) | (with_reducible refine Kd.C_drewN ?_ _) | (with_reducible refine Kd.C_drew ?_) | exact HR111_0.out)) x9_2 p112 q112; cases e112; replace p112 := eq_true p112; replace q112 := eq_true q112; have hcv30 : ∀ W : World, (convert 21 9 (.int .i32 (wrap32 (x10_2)))).run Tryd.prog W = .ok (.string (Utf8.encode (wrap32 (x10_2)))) W := fun W => run_convert_int_string W 21 9 .i32 (wrap32 (x10_2)) (by rw [Tryd.underlying21]; rfl) Tryd.underlying9)); try go_wp2_with (first | (go_at_call 43; (with_reducible refine (spec_bkNext.calls k2 a0 x8_2 x10_2 t107 _ A14.out).mono ?_); rintro e w' ⟨rfl, ⟨nd, rfl⟩⟩; (try first | exact ⟨rfl, _, World.drewN_drewN _ _ _⟩ | exact ⟨rfl, _, Eq.trans (World.drewN_drewN _ _ _) (congrArg (World.drewN _) (Nat.add_assoc _ _ _))⟩)) | (go_at_call 43; (with_reducible refine (spec_bkNext.calls k2 a1 x9_2 x10_2 t108 _ A15.out).mono ?_); rintro e w' ⟨rfl, ⟨nd, rfl⟩⟩; (try first | exact ⟨rfl, _, World.drewN_drewN _ _ _⟩ | exact ⟨rfl, _, Eq.trans (World.drewN_drewN _ _ _) (congrArg (World.drewN _) (Nat.add_assoc _ _ _))⟩); have p109 : 0 ≤ ((ji18) : Int) := of_decide_eq_true (by first | (with_reducible assumption) | assumption); have q109 : (ji18) < (t102.length : Int) := of_decide_eq_true (by first | (with_reducible assumption) | assumption); obtain ⟨ad109, A109_0, c109_0, e109, hx109_0, hl109_0, hi109_0⟩ := at_L1 (Kd.S_reads' HO_6.out).2.2 (ji18) p109 q109; obtain rfl : ad105 = ad109 := (by injection e109); obtain ⟨ce109, hce109, hMe109, hcc109⟩ := Kd.S_get HO_6.out [] (ji18) p109 (by first | exact q109 | exact of_decide_eq_true (by first | (with_reducible assumption) | assumption) | (have e_ := (Kd.S_reads' HO_6.out).1; omega)); obtain ⟨ve109_0, rfl, ge109_0⟩ := hMe109; have hv109_0 := hcc109 0 _ rfl; rw [Nat.add_zero, show ((Kd.slice 3 (Kd.int .i64))).sz = 1 from rfl, Nat.mul_one] at hv109_0; replace hv109_0 := Option.some.inj (hv109_0.symm.trans hx109_0); rw [hv109_0] at ge109_0; have HL109_0 := Aside0.mk (show Kd.R (Kd.int .i64) 3 _ _ _ _ (rd_L1 t102 (ji18)) from ge109_0); clear hv109_0 ge109_0; clear hcc109 hce109; have HR109_0 := Aside0.mk hi109_0; have HC109_0 := Aside0.mk hl109_0; clear hi109_0 hl109_0; replace p109 := eq_true p109; replace q109 := eq_true q109; have p110 : 0 ≤ ((ji21) : Int) := of_decide_eq_true (by first | (with_reducible assumption) | assumption); have q110 : (ji21) < ((rd_L1 t102 (ji18)).length : Int) := of_decide_eq_true (by first | (with_reducible assumption) | assumption); obtain ⟨ad110, e110, hx110_0⟩ := Kd.at_int (by repeat (first | (with_reducible exact HR109_0.out) | (with_reducible refine Kd.C_alloc ?_ _) | (with_reducible refine Kd.C_drewN ?_ _) | (with_reducible refine Kd.C_drew ?_) | exact HR109_0.out)) (ji21) p110 q110; cases e110; replace p110 := eq_true p110; replace q110 := eq_true q110; have p111 : 0 ≤ (x8_2 : Int) := of_decide_eq_true (by first | (with_reducible assumption) | assumption); have q111 : x8_2 < (t102.length : Int) := of_decide_eq_true (by first | (with_reducible assumption) | assumption); obtain ⟨ad111, A111_0, c111_0, e111, hx111_0, hl111_0, hi111_0⟩ := at_L1 (Kd.S_reads' HO_6.out).2.2 x8_2 p111 q111; obtain rfl : ad105 = ad111 := (by injection e111); obtain ⟨ce111, hce111, hMe111, hcc111⟩ := Kd.S_get HO_6.out [] x8_2 p111 (by first | exact q111 | exact of_decide_eq_true (by first | (with_reducible assumption) | assumption) | (have e_ := (Kd.S_reads' HO_6.out).1; omega)); obtain ⟨ve111_0, rfl, ge111_0⟩ := hMe111; have hv111_0 := hcc111 0 _ rfl; rw [Nat.add_zero, show ((Kd.slice 3 (Kd.int .i64))).sz = 1 from rfl, Nat.mul_one] at hv111_0; replace hv111_0 := Option.some.inj (hv111_0.symm.trans hx111_0); rw [hv111_0] at ge111_0; have HL111_0 := Aside0.mk (show Kd.R (Kd.int .i64) 3 _ _ _ _ (rd_L1 t102 x8_2) from ge111_0); clear hv111_0 ge111_0; clear hcc111 hce111; have HR111_0 := Aside0.mk hi111_0; have HC111_0 := Aside0.mk hl111_0; clear hi111_0 hl111_0; replace p111 := eq_true p111; replace q111 := eq_true q111; have p112 : 0 ≤ (x9_2 : Int) := of_decide_eq_true (by first | (with_reducible assumption) | assumption); have q112 : x9_2 < ((rd_L1 t102 x8_2).length : Int) := of_decide_eq_true (by first | (with_reducible assumption) | assumption); obtain ⟨ad112, e112, hx112_0⟩ := Kd.at_int (by repeat (first | (with_reducible exact HR111_0.out) | (with_reducible refine Kd.C_alloc ?_ _) | (with_reducible refine Kd.C_drewN ?_ _) | (with_reducible refine Kd.C_drew ?_) | exact HR111_0.out)) x9_2 p112 q112; cases e112; replace p112 := eq_true p112; replace q112 := eq_true q112; have hcv30 : ∀ W : World, (convert 21 9 (.int .i32 (wrap32 (x10_2)))).run Tryd.prog W = .ok (.string (Utf8.encode (wrap32 (x10_2)))) W := fun W => run_convert_int_string W 21 9 .i32 (wrap32 (x10_2)) (by rw [Tryd.underlying21]; rfl) Tryd.underlying9)))
                        go_roundg k2
                        case measure => have := HK1.out; have := HK2.out; omega
                        case rel => exact ⟨(x7_2 ++ (Utf8.encode (wrap32 (x10_2)))), (ji18), (ji21), (by first | rfl | (simp; done) | (simp [*]; done)), (by first | rfl | (simp; done) | (simp only [← hji18] <;> (first | rfl | simp)) | (simp [*]; done)), (by first | rfl | (simp; done) | (simp only [← hji21] <;> (first | rfl | simp)) | (simp [*]; done)), H', ⟨by have := HK1.out; have := HK2.out; omega⟩, ⟨by (with_reducible repeat (first | apply Kd.S_alloc | apply Kd.S_drewN | apply Kd.S_drew)); exact HO_6.out⟩, ⟨by repeat (first | (with_reducible first | exact HB.out | apply below_alloc | apply pw_below_drewN | apply below_drew1) | exact HB.out)⟩⟩
                       ·
                        rw [if_neg c29] at H
                        exact absurd H (by simp)
                      ·
                       rw [if_neg c28] at H
                       have c28b0 : ((wrap64 ((rd (rd_L1 t102 (ji18)) (ji21)) + 1)) == (rd (rd_L1 t102 x8_2) x9_2)) = false := beq_eq_false_iff_ne.mpr c28
                       have c28b1 : ((wrap64 ((rd (rd_L1 t102 (ji18)) (ji21)) + 1)) != (rd (rd_L1 t102 x8_2) x9_2)) = true := bne_iff_ne.mpr c28
                       have H' := Aside0.mk H
                       clear H
                       go_wp2_with (first | (go_at_call 43; (with_reducible refine (spec_bkNext.calls k2 a0 x8_2 x10_2 t107 _ A14.out).mono ?_); rintro e w' ⟨rfl, ⟨nd, rfl⟩⟩; (try first | exact ⟨rfl, _, World.drewN_drewN _ _ _⟩ | exact ⟨rfl, _, Eq.trans (World.drewN_drewN _ _ _) (congrArg (World.drewN _) (Nat.add_assoc _ _ _))⟩)) | (go_at_call 43; (with_reducible refine (spec_bkNext.calls k2 a1 x9_2 x10_2 t108 _ A15.out).mono ?_); rintro e w' ⟨rfl, ⟨nd, rfl⟩⟩; (try first | exact ⟨rfl, _, World.drewN_drewN _ _ _⟩ | exact ⟨rfl, _, Eq.trans (World.drewN_drewN _ _ _) (congrArg (World.drewN _) (Nat.add_assoc _ _ _))⟩); have p109 : 0 ≤ ((ji18) : Int) := of_decide_eq_true (by first | (with_reducible assumption) | assumption); have q109 : (ji18) < (t102.length : Int) := of_decide_eq_true (by first | (with_reducible assumption) | assumption); obtain ⟨ad109, A109_0, c109_0, e109, hx109_0, hl109_0, hi109_0⟩ := at_L1 (Kd.S_reads' HO_6.out).2.2 (ji18) p109 q109; obtain rfl : ad105 = ad109 := (by injection e109); obtain ⟨ce109, hce109, hMe109, hcc109⟩ := Kd.S_get HO_6.out [] (ji18) p109 (by first | exact q109 | exact of_decide_eq_true (by first | (with_reducible assumption) | assumption) | (have e_ := (Kd.S_reads' HO_6.out).1; omega)); obtain ⟨ve109_0, rfl, ge109_0⟩ := hMe109; have hv109_0 := hcc109 0 _ rfl; rw [Nat.add_zero, show ((Kd.slice 3 (Kd.int .i64))).sz = 1 from rfl, Nat.mul_one] at hv109_0; replace hv109_0 := Option.some.inj (hv109_0.symm.trans hx109_0); rw [hv109_0] at ge109_0; have HL109_0 := Aside0.mk (show Kd.R (Kd.int .i64) 3 _ _ _ _ (rd_L1 t102 (ji18)) from ge109_0); clear hv109_0 ge109_0; clear hcc109 hce109; have HR109_0 := Aside0.mk hi109_0; have HC109_0 := Aside0.mk hl109_0; clear hi109_0 hl109_0; replace p109 := eq_true p109; replace q109 := eq_true q109; have p110 : 0 ≤ ((ji21) : Int) := of_decide_eq_true (by first | (with_reducible assumption) | assumption); have q110 : (ji21) < ((rd_L1 t102 (ji18)).length : Int) := of_decide_eq_true (by first | (with_reducible assumption) | assumption); obtain ⟨ad110, e110, hx110_0⟩ := Kd.at_int (by repeat (first | (with_reducible exact HR109_0.out) | (with_reducible refine Kd.C_alloc ?_ _) | (with_reducible refine Kd.C_drewN ?_ _) | (with_reducible refine Kd.C_drew ?_) | exact HR109_0.out)) (ji21) p110 q110; cases e110; replace p110 := eq_true p110; replace q110 := eq_true q110; have p111 : 0 ≤ (x8_2 : Int) := of_decide_eq_true (by first | (with_reducible assumption) | assumption); have q111 : x8_2 < (t102.length : Int) := of_decide_eq_true (by first | (with_reducible assumption) | assumption); obtain ⟨ad111, A111_0, c111_0, e111, hx111_0, hl111_0, hi111_0⟩ := at_L1 (Kd.S_reads' HO_6.out).2.2 x8_2 p111 q111; obtain rfl : ad105 = ad111 := (by injection e111); obtain ⟨ce111, hce111, hMe111, hcc111⟩ := Kd.S_get HO_6.out [] x8_2 p111 (by first | exact q111 | exact of_decide_eq_true (by first | (with_reducible assumption) | assumption) | (have e_ := (Kd.S_reads' HO_6.out).1; omega)); obtain ⟨ve111_0, rfl, ge111_0⟩ := hMe111; have hv111_0 := hcc111 0 _ rfl; rw [Nat.add_zero, show ((Kd.slice 3 (Kd.int .i64))).sz = 1 from rfl, Nat.mul_one] at hv111_0; replace hv111_0 := Option.some.inj (hv111_0.symm.trans hx111_0); rw [hv111_0] at ge111_0; have HL111_0 := Aside0.mk (show Kd.R (Kd.int .i64) 3 _ _ _ _ (rd_L1 t102 x8_2) from ge111_0); clear hv111_0 ge111_0; clear hcc111 hce111; have HR111_0 := Aside0.mk hi111_0; have HC111_0 := Aside0.mk hl111_0; clear hi111_0 hl111_0; replace p111 := eq_true p111; replace q111 := eq_true q111; have p112 : 0 ≤ (x9_2 : Int) := of_decide_eq_true (by first | (with_reducible assumption) | assumption); have q112 : x9_2 < ((rd_L1 t102 x8_2).length : Int) := of_decide_eq_true (by first | (with_reducible assumption) | assumption); obtain ⟨ad112, e112, hx112_0⟩ := Kd.at_int (by repeat (first | (with_reducible exact HR111_0.out) | (with_reducible refine Kd.C_alloc ?_ _) | (with_reducible refine Kd.C_drewN ?_ _) | (with_reducible refine Kd.C_drew ?_) | exact HR111_0.out)) x9_2 p112 q112; cases e112; replace p112 := eq_true p112; replace q112 := eq_true q112))
                       repeat (go_quiet (first | (go_at_call 43; (with_reducible refine (spec_bkNext.calls k2 a0 x8_2 x10_2 t107 _ A14.out).mono ?_); rintro e w' ⟨rfl, ⟨nd, rfl⟩⟩; (try first | exact ⟨rfl, _, World.drewN_drewN _ _ _⟩ | exact ⟨rfl, _, Eq.trans (World.drewN_drewN _ _ _) (congrArg (World.drewN _) (Nat.add_assoc _ _ _))⟩)) | (go_at_call 43; (with_reducible refine (spec_bkNext.calls k2 a1 x9_2 x10_2 t108 _ A15.out).mono ?_); rintro e w' ⟨rfl, ⟨nd, rfl⟩⟩; (try first | exact ⟨rfl, _, World.drewN_drewN _ _ _⟩ | exact ⟨rfl, _, Eq.trans (World.drewN_drewN _ _ _) (congrArg (World.drewN _) (Nat.add_assoc _ _ _))⟩); have p109 : 0 ≤ ((ji18) : Int) := of_decide_eq_true (by first | (with_reducible assumption) | assumption); have q109 : (ji18) < (t102.length : Int) := of_decide_eq_true (by first | (with_reducible assumption) | assumption); obtain ⟨ad109, A109_0, c109_0, e109, hx109_0, hl109_0, hi109_0⟩ := at_L1 (Kd.S_reads' HO_6.out).2.2 (ji18) p109 q109; obtain rfl : ad105 = ad109 := (by injection e109); obtain ⟨ce109, hce109, hMe109, hcc109⟩ := Kd.S_get HO_6.out [] (ji18) p109 (by first | exact q109 | exact of_decide_eq_true (by first | (with_reducible assumption) | assumption) | (have e_ := (Kd.S_reads' HO_6.out).1; omega)); obtain ⟨ve109_0, rfl, ge109_0⟩ := hMe109; have hv109_0 := hcc109 0 _ rfl; rw [Nat.add_zero, show ((Kd.slice 3 (Kd.int .i64))).sz = 1 from rfl, Nat.mul_one] at hv109_0; replace hv109_0 := Option.some.inj (hv109_0.symm.trans hx109_0); rw [hv109_0] at ge109_0; have HL109_0 := Aside0.mk (show Kd.R (Kd.int .i64) 3 _ _ _ _ (rd_L1 t102 (ji18)) from ge109_0); clear hv109_0 ge109_0; clear hcc109 hce109; have HR109_0 := Aside0.mk hi109_0; have HC109_0 := Aside0.mk hl109_0; clear hi109_0 hl109_0; replace p109 := eq_true p109; replace q109 := eq_true q109; have p110 : 0 ≤ ((ji21) : Int) := of_decide_eq_true (by first | (with_reducible assumption) | assumption); have q110 : (ji21) < ((rd_L1 t102 (ji18)).length : Int) := of_decide_eq_true (by first | (with_reducible assumption) | assumption); obtain ⟨ad110, e110, hx110_0⟩ := Kd.at_int (by repeat (first | (with_reducible exact HR109_0.out) | (with_reducible refine Kd.C_alloc ?_ _) | (with_reducible refine Kd.C_drewN ?_ _) | (with_reducible refine Kd.C_drew ?_) | exact HR109_0.out)) (ji21) p110 q110; cases e110; replace p110 := eq_true p110; replace q110 := eq_true q110; have p111 : 0 ≤ (x8_2 : Int) := of_decide_eq_true (by first | (with_reducible assumption) | assumption); have q111 : x8_2 < (t102.length : Int) := of_decide_eq_true (by first | (with_reducible assumption) | assumption); obtain ⟨ad111, A111_0, c111_0, e111, hx111_0, hl111_0, hi111_0⟩ := at_L1 (Kd.S_reads' HO_6.out).2.2 x8_2 p111 q111; obtain rfl : ad105 = ad111 := (by injection e111); obtain ⟨ce111, hce111, hMe111, hcc111⟩ := Kd.S_get HO_6.out [] x8_2 p111 (by first | exact q111 | exact of_decide_eq_true (by first | (with_reducible assumption) | assumption) | (have e_ := (Kd.S_reads' HO_6.out).1; omega)); obtain ⟨ve111_0, rfl, ge111_0⟩ := hMe111; have hv111_0 := hcc111 0 _ rfl; rw [Nat.add_zero, show ((Kd.slice 3 (Kd.int .i64))).sz = 1 from rfl, Nat.mul_one] at hv111_0; replace hv111_0 := Option.some.inj (hv111_0.symm.trans hx111_0); rw [hv111_0] at ge111_0; have HL111_0 := Aside0.mk (show Kd.R (Kd.int .i64) 3 _ _ _ _ (rd_L1 t102 x8_2) from ge111_0); clear hv111_0 ge111_0; clear hcc111 hce111; have HR111_0 := Aside0.mk hi111_0; have HC111_0 := Aside0.mk hl111_0; clear hi111_0 hl111_0; replace p111 := eq_true p111; replace q111 := eq_true q111; have p112 : 0 ≤ (x9_2 : Int) := of_decide_eq_true (by first | (with_reducible assumption) | assumption); have q112 : x9_2 < ((rd_L1 t102 x8_2).length : Int) := of_decide_eq_true (by first | (with_reducible assumption) | assumption); obtain ⟨ad112, e112, hx112_0⟩ := Kd.at_int (by repeat (first | (with_reducible exact HR111_0.out) | (with_reducible refine Kd.C_alloc ?_ _) | (with_reducible refine Kd.C_drewN ?_ _) | (with_reducible refine Kd.C_drew ?_) | exact HR111_0.out)) x9_2 p112 q112; cases e112; replace p112 := eq_true p112; replace q112 := eq_true q112)); try go_wp2_with (first | (go_at_call 43; (with_reducible refine (spec_bkNext.calls k2 a0 x8_2 x10_2 t107 _ A14.out).mono ?_); rintro e w' ⟨rfl, ⟨nd, rfl⟩⟩; (try first | exact ⟨rfl, _, World.drewN_drewN _ _ _⟩ | exact ⟨rfl, _, Eq.trans (World.drewN_drewN _ _ _) (congrArg (World.drewN _) (Nat.add_assoc _ _ _))⟩)) | (go_at_call 43; (with_reducible refine (spec_bkNext.calls k2 a1 x9_2 x10_2 t108 _ A15.out).mono ?_); rintro e w' ⟨rfl, ⟨nd, rfl⟩⟩; (try first | exact ⟨rfl, _, World.drewN_drewN _ _ _⟩ | exact ⟨rfl, _, Eq.trans (World.drewN_drewN _ _ _) (congrArg (World.drewN _) (Nat.add_assoc _ _ _))⟩); have p109 : 0 ≤ ((ji18) : Int) := of_decide_eq_true (by first | (with_reducible assumption) | assumption); have q109 : (ji18) < (t102.length : Int) := of_decide_eq_true (by first | (with_reducible assumption) | assumption); obtain ⟨ad109, A109_0, c109_0, e109, hx109_0, hl109_0, hi109_0⟩ := at_L1 (Kd.S_reads' HO_6.out).2.2 (ji18) p109 q109; obtain rfl : ad105 = ad109 := (by injection e109); obtain ⟨ce109, hce109, hMe109, hcc109⟩ := Kd.S_get HO_6.out [] (ji18) p109 (by first | exact q109 | exact of_decide_eq_true (by first | (with_reducible assumption) | assumption) | (have e_ := (Kd.S_reads' HO_6.out).1; omega)); obtain ⟨ve109_0, rfl, ge109_0⟩ := hMe109; have hv109_0 := hcc109 0 _ rfl; rw [Nat.add_zero, show ((Kd.slice 3 (Kd.int .i64))).sz = 1 from rfl, Nat.mul_one] at hv109_0; replace hv109_0 := Option.some.inj (hv109_0.symm.trans hx109_0); rw [hv109_0] at ge109_0; have HL109_0 := Aside0.mk (show Kd.R (Kd.int .i64) 3 _ _ _ _ (rd_L1 t102 (ji18)) from ge109_0); clear hv109_0 ge109_0; clear hcc109 hce109; have HR109_0 := Aside0.mk hi109_0; have HC109_0 := Aside0.mk hl109_0; clear hi109_0 hl109_0; replace p109 := eq_true p109; replace q109 := eq_true q109; have p110 : 0 ≤ ((ji21) : Int) := of_decide_eq_true (by first | (with_reducible assumption) | assumption); have q110 : (ji21) < ((rd_L1 t102 (ji18)).length : Int) := of_decide_eq_true (by first | (with_reducible assumption) | assumption); obtain ⟨ad110, e110, hx110_0⟩ := Kd.at_int (by repeat (first | (with_reducible exact HR109_0.out) | (with_reducible refine Kd.C_alloc ?_ _) | (with_reducible refine Kd.C_drewN ?_ _) | (with_reducible refine Kd.C_drew ?_) | exact HR109_0.out)) (ji21) p110 q110; cases e110; replace p110 := eq_true p110; replace q110 := eq_true q110; have p111 : 0 ≤ (x8_2 : Int) := of_decide_eq_true (by first | (with_reducible assumption) | assumption); have q111 : x8_2 < (t102.length : Int) := of_decide_eq_true (by first | (with_reducible assumption) | assumption); obtain ⟨ad111, A111_0, c111_0, e111, hx111_0, hl111_0, hi111_0⟩ := at_L1 (Kd.S_reads' HO_6.out).2.2 x8_2 p111 q111; obtain rfl : ad105 = ad111 := (by injection e111); obtain ⟨ce111, hce111, hMe111, hcc111⟩ := Kd.S_get HO_6.out [] x8_2 p111 (by first | exact q111 | exact of_decide_eq_true (by first | (with_reducible assumption) | assumption) | (have e_ := (Kd.S_reads' HO_6.out).1; omega)); obtain ⟨ve111_0, rfl, ge111_0⟩ := hMe111; have hv111_0 := hcc111 0 _ rfl; rw [Nat.add_zero, show ((Kd.slice 3 (Kd.int .i64))).sz = 1 from rfl, Nat.mul_one] at hv111_0; replace hv111_0 := Option.some.inj (hv111_0.symm.trans hx111_0); rw [hv111_0] at ge111_0; have HL111_0 := Aside0.mk (show Kd.R (Kd.int .i64) 3 _ _ _ _ (rd_L1 t102 x8_2) from ge111_0); clear hv111_0 ge111_0; clear hcc111 hce111; have HR111_0 := Aside0.mk hi111_0; have HC111_0 := Aside0.mk hl111_0; clear hi111_0 hl111_0; replace p111 := eq_true p111; replace q111 := eq_true q111; have p112 : 0 ≤ (x9_2 : Int) := of_decide_eq_true (by first | (with_reducible assumption) | assumption); have q112 : x9_2 < ((rd_L1 t102 x8_2).length : Int) := of_decide_eq_true (by first | (with_reducible assumption) | assumption); obtain ⟨ad112, e112, hx112_0⟩ := Kd.at_int (by repeat (first | (with_reducible exact HR111_0.out) | (with_reducible refine Kd.C_alloc ?_ _) | (with_reducible refine Kd.C_drewN ?_ _) | (with_reducible refine Kd.C_drew ?_) | exact HR111_0.out)) x9_2 p112 q112; cases e112; replace p112 := eq_true p112; replace q112 := eq_true q112)))
                       go_roundg k2
                       case measure => have := HK1.out; have := HK2.out; omega
                       case rel => exact ⟨(x7_2), (x8_2), (x9_2), ((x10_2 + 1) % 256), (by first | rfl | (simp; done) | (simp [*]; done)), (by first | rfl | (simp; done) | (simp [*]; done)), (by first | rfl | (simp; done) | (simp [*]; done)), (by first | rfl | (simp; done) | (simp [*]; done)), H', ⟨by have := HK1.out; have := HK2.out; omega⟩, ⟨by (with_reducible repeat (first | apply Kd.S_alloc | apply Kd.S_drewN | apply Kd.S_drew)); exact HO_6.out⟩, ⟨by repeat (first | (with_reducible exact HR105_0.out) | (with_reducible refine Kd.C_alloc ?_ _) | (with_reducible refine Kd.C_drewN ?_ _) | (with_reducible refine Kd.C_drew ?_) | exact HR105_0.out)⟩, ⟨by repeat (first | (with_reducible first | exact HB.out | apply below_alloc | apply pw_below_drewN | apply below_drew1) | exact HB.out)⟩⟩
                     ·
                      rw [if_neg c27] at H
                      exact absurd H (by simp)
                    ·
                     rw [if_neg c26] at H
                     exact absurd H (by simp)
                   ·
                    rw [if_neg c25] at H
                    exact absurd H (by simp)
                  ·
                   rw [if_neg c24] at H
                   exact absurd H (by simp)
                 ·
                  rw [if_neg c23] at H
                  exact absurd H (by simp)
                ·
                 rw [if_neg c22] at H
                 exact absurd H (by simp)
               ·
                rw [if_neg c20] at H
                exact absurd H (by simp)
              ·
               rw [if_neg c19] at H
               exact absurd H (by simp)
             ·
              rw [if_neg c17] at H
              have c17b0 : decide (t108 < (a1.size : Int)) = false := decide_eq_false c17
              clear c17
              have H' := Aside0.mk H
              clear H
              go_wp2_with (first | (go_at_call 43; (with_reducible refine (spec_bkNext.calls k2 a0 x8_2 x10_2 t107 _ A14.out).mono ?_); rintro e w' ⟨rfl, ⟨nd, rfl⟩⟩; (try first | exact ⟨rfl, _, World.drewN_drewN _ _ _⟩ | exact ⟨rfl, _, Eq.trans (World.drewN_drewN _ _ _) (congrArg (World.drewN _) (Nat.add_assoc _ _ _))⟩)) | (go_at_call 43; (with_reducible refine (spec_bkNext.calls k2 a1 x9_2 x10_2 t108 _ A15.out).mono ?_); rintro e w' ⟨rfl, ⟨nd, rfl⟩⟩; (try first | exact ⟨rfl, _, World.drewN_drewN _ _ _⟩ | exact ⟨rfl, _, Eq.trans (World.drewN_drewN _ _ _) (congrArg (World.drewN _) (Nat.add_assoc _ _ _))⟩)))
              repeat (go_quiet (first | (go_at_call 43; (with_reducible refine (spec_bkNext.calls k2 a0 x8_2 x10_2 t107 _ A14.out).mono ?_); rintro e w' ⟨rfl, ⟨nd, rfl⟩⟩; (try first | exact ⟨rfl, _, World.drewN_drewN _ _ _⟩ | exact ⟨rfl, _, Eq.trans (World.drewN_drewN _ _ _) (congrArg (World.drewN _) (Nat.add_assoc _ _ _))⟩)) | (go_at_call 43; (with_reducible refine (spec_bkNext.calls k2 a1 x9_2 x10_2 t108 _ A15.out).mono ?_); rintro e w' ⟨rfl, ⟨nd, rfl⟩⟩; (try first | exact ⟨rfl, _, World.drewN_drewN _ _ _⟩ | exact ⟨rfl, _, Eq.trans (World.drewN_drewN _ _ _) (congrArg (World.drewN _) (Nat.add_assoc _ _ _))⟩))); try go_wp2_with (first | (go_at_call 43; (with_reducible refine (spec_bkNext.calls k2 a0 x8_2 x10_2 t107 _ A14.out).mono ?_); rintro e w' ⟨rfl, ⟨nd, rfl⟩⟩; (try first | exact ⟨rfl, _, World.drewN_drewN _ _ _⟩ | exact ⟨rfl, _, Eq.trans (World.drewN_drewN _ _ _) (congrArg (World.drewN _) (Nat.add_assoc _ _ _))⟩)) | (go_at_call 43; (with_reducible refine (spec_bkNext.calls k2 a1 x9_2 x10_2 t108 _ A15.out).mono ?_); rintro e w' ⟨rfl, ⟨nd, rfl⟩⟩; (try first | exact ⟨rfl, _, World.drewN_drewN _ _ _⟩ | exact ⟨rfl, _, Eq.trans (World.drewN_drewN _ _ _) (congrArg (World.drewN _) (Nat.add_assoc _ _ _))⟩))))
              go_roundg k2
              case measure => have := HK1.out; have := HK2.out; omega
              case rel => exact ⟨(x7_2), (x8_2), (x9_2), ((x10_2 + 1) % 256), (by first | rfl | (simp; done) | (simp [*]; done)), (by first | rfl | (simp; done) | (simp [*]; done)), (by first | rfl | (simp; done) | (simp [*]; done)), (by first | rfl | (simp; done) | (simp [*]; done)), H', ⟨by have := HK1.out; have := HK2.out; omega⟩, ⟨by (with_reducible repeat (first | apply Kd.S_alloc | apply Kd.S_drewN | apply Kd.S_drew)); exact HO_6.out⟩, ⟨by repeat (first | (with_reducible exact HR105_0.out) | (with_reducible refine Kd.C_alloc ?_ _) | (with_reducible refine Kd.C_drewN ?_ _) | (with_reducible refine Kd.C_drew ?_) | exact HR105_0.out)⟩, ⟨by repeat (first | (with_reducible first | exact HB.out | apply below_alloc | apply pw_below_drewN | apply below_drew1) | exact HB.out)⟩⟩
            ·
             rw [if_neg c16] at H
             have c16b0 : decide (t107 < (a0.size : Int)) = false := decide_eq_false c16
             clear c16
             have H' := Aside0.mk H
             clear H
             go_wp2_with (first | (go_at_call 43; (with_reducible refine (spec_bkNext.calls k2 a0 x8_2 x10_2 t107 _ A14.out).mono ?_); rintro e w' ⟨rfl, ⟨nd, rfl⟩⟩; (try first | exact ⟨rfl, _, World.drewN_drewN _ _ _⟩ | exact ⟨rfl, _, Eq.trans (World.drewN_drewN _ _ _) (congrArg (World.drewN _) (Nat.add_assoc _ _ _))⟩)) | (go_at_call 43; (with_reducible refine (spec_bkNext.calls k2 a1 x9_2 x10_2 t108 _ A15.out).mono ?_); rintro e w' ⟨rfl, ⟨nd, rfl⟩⟩; (try first | exact ⟨rfl, _, World.drewN_drewN _ _ _⟩ | exact ⟨rfl, _, Eq.trans (World.drewN_drewN _ _ _) (congrArg (World.drewN _) (Nat.add_assoc _ _ _))⟩)))
             repeat (go_quiet (first | (go_at_call 43; (with_reducible refine (spec_bkNext.calls k2 a0 x8_2 x10_2 t107 _ A14.out).mono ?_); rintro e w' ⟨rfl, ⟨nd, rfl⟩⟩; (try first | exact ⟨rfl, _, World.drewN_drewN _ _ _⟩ | exact ⟨rfl, _, Eq.trans (World.drewN_drewN _ _ _) (congrArg (World.drewN _) (Nat.add_assoc _ _ _))⟩)) | (go_at_call 43; (with_reducible refine (spec_bkNext.calls k2 a1 x9_2 x10_2 t108 _ A15.out).mono ?_); rintro e w' ⟨rfl, ⟨nd, rfl⟩⟩; (try first | exact ⟨rfl, _, World.drewN_drewN _ _ _⟩ | exact ⟨rfl, _, Eq.trans (World.drewN_drewN _ _ _) (congrArg (World.drewN _) (Nat.add_assoc _ _ _))⟩))); try go_wp2_with (first | (go_at_call 43; (with_reducible refine (spec_bkNext.calls k2 a0 x8_2 x10_2 t107 _ A14.out).mono ?_); rintro e w' ⟨rfl, ⟨nd, rfl⟩⟩; (try first | exact ⟨rfl, _, World.drewN_drewN _ _ _⟩ | exact ⟨rfl, _, Eq.trans (World.drewN_drewN _ _ _) (congrArg (World.drewN _) (Nat.add_assoc _ _ _))⟩)) | (go_at_call 43; (with_reducible refine (spec_bkNext.calls k2 a1 x9_2 x10_2 t108 _ A15.out).mono ?_); rintro e w' ⟨rfl, ⟨nd, rfl⟩⟩; (try first | exact ⟨rfl, _, World.drewN_drewN _ _ _⟩ | exact ⟨rfl, _, Eq.trans (World.drewN_drewN _ _ _) (congrArg (World.drewN _) (Nat.add_assoc _ _ _))⟩))))
             go_roundg k2
             case measure => have := HK1.out; have := HK2.out; omega
             case rel => exact ⟨(x7_2), (x8_2), (x9_2), ((x10_2 + 1) % 256), (by first | rfl | (simp; done) | (simp [*]; done)), (by first | rfl | (simp; done) | (simp [*]; done)), (by first | rfl | (simp; done) | (simp [*]; done)), (by first | rfl | (simp; done) | (simp [*]; done)), H', ⟨by have := HK1.out; have := HK2.out; omega⟩, ⟨by (with_reducible repeat (first | apply Kd.S_alloc | apply Kd.S_drewN | apply Kd.S_drew)); exact HO_6.out⟩, ⟨by repeat (first | (with_reducible exact HR105_0.out) | (with_reducible refine Kd.C_alloc ?_ _) | (with_reducible refine Kd.C_drewN ?_ _) | (with_reducible refine Kd.C_drew ?_) | exact HR105_0.out)⟩, ⟨by repeat (first | (with_reducible first | exact HB.out | apply below_alloc | apply pw_below_drewN | apply below_drew1) | exact HB.out)⟩⟩
           ·
            rw [if_neg c13] at H
            have c13b0 : decide (x10_2 ≤ 122) = false := decide_eq_false c13
            clear c13
            have H' := Aside0.mk H
            clear H
            go_wp2
            repeat (go_quiet (fail); try go_wp2)
            go_roundg k2
            case measure => have := HK1.out; have := HK2.out; omega
            case rel => exact ⟨(x7_2), (x8_2), (x9_2), (by first | rfl | (simp; done) | (simp [*]; done)), (by first | rfl | (simp; done) | (simp [*]; done)), (by first | rfl | (simp; done) | (simp [*]; done)), H', ⟨by have := HK1.out; have := HK2.out; omega⟩, ⟨by (with_reducible repeat (first | apply Kd.S_alloc | apply Kd.S_drewN | apply Kd.S_drew)); exact HO_6.out⟩, ⟨by repeat (first | (with_reducible first | exact HB.out | apply below_alloc | apply pw_below_drewN | apply below_drew1) | exact HB.out)⟩⟩
        ·
         rw [if_neg c11] at H
         have c11b0 : decide (0 < (rd (rd_L1 t102 x8_1) x9_1)) = false := decide_eq_false c11
         clear c11
         simp only [Option.some.injEq, Prod.mk.injEq] at H
         obtain ⟨rfl, rfl⟩ := H
         obtain ⟨Ao31, co31, eo31⟩ := Kd.S_slice HO_6.out
         subst eo31
         have p105 : 0 ≤ (x8_1 : Int) := of_decide_eq_true (by first | (with_reducible assumption) | assumption)
         have q105 : x8_1 < (t102.length : Int) := of_decide_eq_true (by first | (with_reducible assumption) | assumption)
         obtain ⟨ad105, A105_0, c105_0, e105, hx105_0, hl105_0, hi105_0⟩ := at_L1 (Kd.S_reads' HO_6.out).2.2 x8_1 p105 q105
         cases e105
         obtain ⟨ce105, hce105, hMe105, hcc105⟩ := Kd.S_get HO_6.out [] x8_1 p105 (by first | exact q105 | exact of_decide_eq_true (by first | (with_reducible assumption) | assumption) | (have e_ := (Kd.S_reads' HO_6.out).1; omega))
         obtain ⟨ve105_0, rfl, ge105_0⟩ := hMe105
         have hv105_0 := hcc105 0 _ rfl
         rw [Nat.add_zero, show ((Kd.slice 3 (Kd.int .i64))).sz = 1 from rfl, Nat.mul_one] at hv105_0
         replace hv105_0 := Option.some.inj (hv105_0.symm.trans hx105_0)
         rw [hv105_0] at ge105_0
         have HL105_0 := Aside0.mk (show Kd.R (Kd.int .i64) 3 _ _ _ _ (rd_L1 t102 x8_1) from ge105_0)
         clear hv105_0 ge105_0
         clear hcc105 hce105
         have HR105_0 := Aside0.mk hi105_0
         have HC105_0 := Aside0.mk hl105_0
         clear hi105_0 hl105_0
         replace p105 := eq_true p105
         replace q105 := eq_true q105
         have p106 : 0 ≤ (x9_1 : Int) := of_decide_eq_true (by first | (with_reducible assumption) | assumption)
         have q106 : x9_1 < ((rd_L1 t102 x8_1).length : Int) := of_decide_eq_true (by first | (with_reducible assumption) | assumption)
         obtain ⟨ad106, e106, hx106_0⟩ := Kd.at_int (by repeat (first | (with_reducible exact HR105_0.out) | (with_reducible refine Kd.C_alloc ?_ _) | (with_reducible refine Kd.C_drewN ?_ _) | (with_reducible refine Kd.C_drew ?_) | exact HR105_0.out)) x9_1 p106 q106
         cases e106
         replace p106 := eq_true p106
         replace q106 := eq_true q106
         go_wp2
         repeat (go_quiet (fail); try go_wp2)
         go_ret2
         exact ⟨by first | rfl | (simp [errW_none, errW_some] <;> rfl) | (simp [*, errW_none, errW_some] <;> rfl), by repeat (first | (with_reducible first | exact HB.out | apply below_alloc | apply pw_below_drewN | apply below_drew1) | exact HB.out)⟩
       ·
        rw [if_neg c10] at H
        exact absurd H (by simp)
      ·
       rw [if_neg c9] at H
       exact absurd H (by simp)
     ·
      rw [if_neg c8] at H
      exact absurd H (by simp)
    ·
     rw [if_neg c7] at H
     exact absurd H (by simp)
 ·
  replace c4 := Bool.eq_false_iff.mpr c4
  subst c4
  have H1 : (some ((⟨#[]⟩ : ByteArray), false)) = some (r1, r2) := by rw [if_neg (show ¬ (false = true) by decide)] at H; exact H
  clear H
  have H := H1
  clear H1
  simp only [Option.some.injEq, Prod.mk.injEq] at H
  obtain ⟨rfl, rfl⟩ := H
  go_enter Tryd.func22, Tryd.ntmps22
  go_wp2_with (first | (go_at_call 35; (with_reducible refine (spec_bkPair.calls k a0 a1 false _ A3.out).mono ?_); rintro e w' ⟨rfl, ⟨nd, rfl⟩⟩; (try first | exact ⟨rfl, _, World.drewN_drewN _ _ _⟩ | exact ⟨rfl, _, Eq.trans (World.drewN_drewN _ _ _) (congrArg (World.drewN _) (Nat.add_assoc _ _ _))⟩)))
  repeat (go_quiet (first | (go_at_call 35; (with_reducible refine (spec_bkPair.calls k a0 a1 false _ A3.out).mono ?_); rintro e w' ⟨rfl, ⟨nd, rfl⟩⟩; (try first | exact ⟨rfl, _, World.drewN_drewN _ _ _⟩ | exact ⟨rfl, _, Eq.trans (World.drewN_drewN _ _ _) (congrArg (World.drewN _) (Nat.add_assoc _ _ _))⟩))); try go_wp2_with (first | (go_at_call 35; (with_reducible refine (spec_bkPair.calls k a0 a1 false _ A3.out).mono ?_); rintro e w' ⟨rfl, ⟨nd, rfl⟩⟩; (try first | exact ⟨rfl, _, World.drewN_drewN _ _ _⟩ | exact ⟨rfl, _, Eq.trans (World.drewN_drewN _ _ _) (congrArg (World.drewN _) (Nat.add_assoc _ _ _))⟩))))
  go_ret2
  exact ⟨by first | rfl | (simp [errW_none, errW_some] <;> rfl) | (simp [*, errW_none, errW_some] <;> rfl), by repeat (first | (with_reducible first | exact HB.out | apply below_alloc | apply pw_below_drewN | apply below_drew1) | exact HB.out)⟩

end Go.Proofs.YtamhlbdjjfdbiaaDoor.P

-- printed by xprint.py
namespace Go.Proofs.YtamhlbdjjfdbiaaDoor.P
open Go.RowKit Go.Proofs.YtamhlbdjjfdbiaaDoorW.PrintWords Go.Proofs.YtamhlbdjjfdbiaaDoorW.PrintLast Go.Proofs.YtamhlbdjjfdbiaaDoorW.PrintMore
attribute [local go_sem] max2_int min2_int max_two min_two max_three min_three max_four min_four   -- for this text's walks alone
set_option linter.unusedVariables false
set_option linter.unusedSimpArgs false

/-! ### laws_FnExactFirstCommon: function 8 -/
def laws_FnExactFirstCommon.f (k : Nat) (a0 : ByteArray) (a1 : ByteArray) : Option (Bool) := if (a0.size : Int) > 1048576 then (some true) else (if (a1.size : Int) > 1048576 then (some true) else ((spec_FirstCommon.f k a0 a1).bind fun bt101 => ((impl_FirstCommon.f k a0 a1).bind fun bt103 => (if bt103.1.toList = bt101.1.toList then (if (bt103.2 != bt101.2) = true then (some false) else (some true)) else (some false)))))
theorem laws_FnExactFirstCommon.mono : ∀ y0 y1 k, LeO (laws_FnExactFirstCommon.f k y0 y1) (laws_FnExactFirstCommon.f (k + 1) y0 y1) := by
 intro y0 y1 k
 unfold laws_FnExactFirstCommon.f
 repeat' first
   | (with_reducible exact impl_FirstCommon.mono _ _ _)
   | (with_reducible exact spec_FirstCommon.mono _ _ _)
   | (with_reducible exact LeO.refl _)
   | (with_reducible exact LeO.none _)
   | (with_reducible refine LeO.ite ?_ ?_)
   | (with_reducible refine LeO.bind ?_ (fun _ => ?_))
   | exact impl_FirstCommon.mono _ _ _
   | exact spec_FirstCommon.mono _ _ _
   | exact LeO.none _
   | refine LeO.ite ?_ ?_
   | refine LeO.bind ?_ (fun _ => ?_)
set_option maxHeartbeats 8000000 in
set_option maxRecDepth 100000 in
theorem laws_FnExactFirstCommon.calls (k : Nat) (a0 : ByteArray) (a1 : ByteArray) (r : Bool) (w : World) (h : laws_FnExactFirstCommon.f k a0 a1 = some r) :
  Calls Tryd.prog 8 #[.string a0, .string a1] w fun e w' => e = .returned (.bool r) ∧ Below w.heap.size w w' := by
 have HB := Aside0.mk (Below.refl w.heap.size w)
 have H : (if (a0.size : Int) > 1048576 then (some true) else (if (a1.size : Int) > 1048576 then (some true) else ((spec_FirstCommon.f k a0 a1).bind fun bt101 => ((impl_FirstCommon.f k a0 a1).bind fun bt103 => (if bt103.1.toList = bt101.1.toList then (if (bt103.2 != bt101.2) = true then (some false) else (some true)) else (some false)))))) = some r := h
 clear h
 by_cases c3 : (a0.size : Int) > 1048576
 ·
  rw [if_pos c3] at H
  have c3b0 : decide (1048576 < (a0.size : Int)) = true := decide_eq_true c3
  have c3b1 : decide (1048576 < a0.size) = true := decide_eq_true (by omega)
  clear c3
  obtain rfl := Option.some.inj H
  go_enter Tryd.func8, Tryd.ntmps8
  go_wp2
  go_ret
  exact ⟨by first | rfl | (simp [errW_none, errW_some] <;> rfl) | (simp [*, errW_none, errW_some] <;> rfl), by repeat (first | (with_reducible first | exact HB.out | apply below_alloc | apply pw_below_drewN | apply below_drew1) | exact HB.out)⟩
 ·
  rw [if_neg c3] at H
  have c3b0 : decide (1048576 < (a0.size : Int)) = false := decide_eq_false c3
  have c3b1 : decide (1048576 < a0.size) = false := decide_eq_false (by omega)
  clear c3
  by_cases c4 : (a1.size : Int) > 1048576
  ·
   rw [if_pos c4] at H
   have c4b0 : decide (1048576 < (a1.size : Int)) = true := decide_eq_true c4
   have c4b1 : decide (1048576 < a1.size) = true := decide_eq_true (by omega)
   clear c4
   obtain rfl := Option.some.inj H
   go_enter Tryd.func8, Tryd.ntmps8
   go_wp2
   go_ret
   exact ⟨by first | rfl | (simp [errW_none, errW_some] <;> rfl) | (simp [*, errW_none, errW_some] <;> rfl), by repeat (first | (with_reducible first | exact HB.out | apply below_alloc | apply pw_below_drewN | apply below_drew1) | exact HB.out)⟩
  ·
   rw [if_neg c4] at H
   have c4b0 : decide (1048576 < (a1.size : Int)) = false := decide_eq_false c4
   have c4b1 : decide (1048576 < a1.size) = false := decide_eq_false (by omega)
   clear c4
   replace H := Option.bind_eq_some_iff.mp H
   obtain ⟨⟨t101, t102⟩, A50, H⟩ := H
   replace H : ((impl_FirstCommon.f k a0 a1).bind fun bt103 => (if bt103.1.toList = t101.toList then (if (bt103.2 != t102) = true then (some false) else (some true)) else (some false))) = some r := H
   have A5 := Aside0.mk A50
   clear A50
   replace H := Option.bind_eq_some_iff.mp H
   obtain ⟨⟨t103, t104⟩, A60, H⟩ := H
   replace H : (if t103.toList = t101.toList then (if (t104 != t102) = true then (some false) else (some true)) else (some false)) = some r := H
   have A6 := Aside0.mk A60
   clear A60
   by_cases c7 : t103.toList = t101.toList
   ·
    rw [if_pos c7] at H
    have c7b0 : (t103.toList == t101.toList) = true := beq_iff_eq.mpr c7
    have c7b1 : (t103.toList != t101.toList) = false := bne_eq_false_iff_eq.mpr c7
    clear c7
    by_cases c8 : (t104 != t102) = true
    ·
     rw [if_pos c8] at H
     have c8b0 : (t104 != t102) = true := c8
     (try (have c8b1 : decide (t104 = t102) = false := by simpa using c8))
     (try (have c8b2 : (t104 == t102) = false := by simpa using c8))
     (try (have c8b3 : ¬ (t104 = t102) := by simpa using c8))
     clear c8
     obtain rfl := Option.some.inj H
     go_enter Tryd.func8, Tryd.ntmps8
     go_wp2_with (first | ((with_reducible refine gate_callee (f := 22) rfl ?_); refine goesL_ (some 18) rfl rfl Tryd.func22 (by kernel_rfl) rfl #[.string a0, .string a1] rfl (by (try simp only [List.map_toArray, List.map_cons, List.map_nil]); first | done | rfl | (simp only [List.length_drop, List.length_take]; rfl)) ?_; (with_reducible refine (spec_FirstCommon.calls k a0 a1 t101 t102 _ A5.out).mono ?_); rintro e w9 ⟨rfl, hb⟩; refine ⟨_, rfl, ?_⟩; have n0_ := Aside0.mk (below_step (by repeat (first | (with_reducible first | exact HB.out | apply below_alloc | apply pw_below_drewN | apply below_drew1) | exact HB.out)) hb); clear HB; have HB := n0_; clear n0_; (try clear hb); (try clear hb2); (try clear hk); (try clear hi)) | ((with_reducible refine gate_callee (f := 23) rfl ?_); refine goesL_ (some 24) rfl rfl Tryd.func23 (by kernel_rfl) rfl #[.string a0, .string a1] rfl (by (try simp only [List.map_toArray, List.map_cons, List.map_nil]); first | done | rfl | (simp only [List.length_drop, List.length_take]; rfl)) ?_; (with_reducible refine (impl_FirstCommon.calls k a0 a1 t103 t104 _ A6.out).mono ?_); rintro e w10 ⟨rfl, hb⟩; refine ⟨_, rfl, ?_⟩; have n0_ := Aside0.mk (below_step (by repeat (first | (with_reducible first | exact HB.out | apply below_alloc | apply pw_below_drewN | apply below_drew1) | exact HB.out)) hb); clear HB; have HB := n0_; clear n0_; (try clear hb); (try clear hb2); (try clear hk); (try clear hi)))
     go_ret
     exact ⟨by first | rfl | (simp [errW_none, errW_some] <;> rfl) | (simp [*, errW_none, errW_some] <;> rfl), by repeat (first | (with_reducible first | exact HB.out | apply below_alloc | apply pw_below_drewN | apply below_drew1) | exact HB.out)⟩
    ·
     rw [if_neg c8] at H
     have c8b0 : (t104 != t102) = false := by simpa using c8
     (try (have c8b1 : decide (t104 = t102) = true := by simpa using c8))
     (try (have c8b2 : (t104 == t102) = true := by simpa using c8))
     clear c8
     obtain rfl := Option.some.inj H
     go_enter Tryd.func8, Tryd.ntmps8
     go_wp2_with (first | ((with_reducible refine gate_callee (f := 22) rfl ?_); refine goesL_ (some 18) rfl rfl Tryd.func22 (by kernel_rfl) rfl #[.string a0, .string a1] rfl (by (try simp only [List.map_toArray, List.map_cons, List.map_nil]); first | done | rfl | (simp only [List.length_drop, List.length_take]; rfl)) ?_; (with_reducible refine (spec_FirstCommon.calls k a0 a1 t101 t102 _ A5.out).mono ?_); rintro e w11 ⟨rfl, hb⟩; refine ⟨_, rfl, ?_⟩; have n0_ := Aside0.mk (below_step (by repeat (first | (with_reducible first | exact HB.out | apply below_alloc | apply pw_below_drewN | apply below_drew1) | exact HB.out)) hb); clear HB; have HB := n0_; clear n0_; (try clear hb); (try clear hb2); (try clear hk); (try clear hi)) | ((with_reducible refine gate_callee (f := 23) rfl ?_); refine goesL_ (some 24) rfl rfl Tryd.func23 (by kernel_rfl) rfl #[.string a0, .string a1] rfl (by (try simp only [List.map_toArray, List.map_cons, List.map_nil]); first | done | rfl | (simp only [List.length_drop, List.length_take]; rfl)) ?_; (with_reducible refine (impl_FirstCommon.calls k a0 a1 t103 t104 _ A6.out).mono ?_); rintro e w12 ⟨rfl, hb⟩; refine ⟨_, rfl, ?_⟩; have n0_ := Aside0.mk (below_step (by repeat (first | (with_reducible first | exact HB.out | apply below_alloc | apply pw_below_drewN | apply below_drew1) | exact HB.out)) hb); clear HB; have HB := n0_; clear n0_; (try clear hb); (try clear hb2); (try clear hk); (try clear hi)))
     go_ret
     exact ⟨by first | rfl | (simp [errW_none, errW_some] <;> rfl) | (simp [*, errW_none, errW_some] <;> rfl), by repeat (first | (with_reducible first | exact HB.out | apply below_alloc | apply pw_below_drewN | apply below_drew1) | exact HB.out)⟩
   ·
    rw [if_neg c7] at H
    have c7b0 : (t103.toList == t101.toList) = false := beq_eq_false_iff_ne.mpr c7
    have c7b1 : (t103.toList != t101.toList) = true := bne_iff_ne.mpr c7
    obtain rfl := Option.some.inj H
    go_enter Tryd.func8, Tryd.ntmps8
    go_wp2_with (first | ((with_reducible refine gate_callee (f := 22) rfl ?_); refine goesL_ (some 18) rfl rfl Tryd.func22 (by kernel_rfl) rfl #[.string a0, .string a1] rfl (by (try simp only [List.map_toArray, List.map_cons, List.map_nil]); first | done | rfl | (simp only [List.length_drop, List.length_take]; rfl)) ?_; (with_reducible refine (spec_FirstCommon.calls k a0 a1 t101 t102 _ A5.out).mono ?_); rintro e w13 ⟨rfl, hb⟩; refine ⟨_, rfl, ?_⟩; have n0_ := Aside0.mk (below_step (by repeat (first | (with_reducible first | exact HB.out | apply below_alloc | apply pw_below_drewN | apply below_drew1) | exact HB.out)) hb); clear HB; have HB := n0_; clear n0_; (try clear hb); (try clear hb2); (try clear hk); (try clear hi)) | ((with_reducible refine gate_callee (f := 23) rfl ?_); refine goesL_ (some 24) rfl rfl Tryd.func23 (by kernel_rfl) rfl #[.string a0, .string a1] rfl (by (try simp only [List.map_toArray, List.map_cons, List.map_nil]); first | done | rfl | (simp only [List.length_drop, List.length_take]; rfl)) ?_; (with_reducible refine (impl_FirstCommon.calls k a0 a1 t103 t104 _ A6.out).mono ?_); rintro e w14 ⟨rfl, hb⟩; refine ⟨_, rfl, ?_⟩; have n0_ := Aside0.mk (below_step (by repeat (first | (with_reducible first | exact HB.out | apply below_alloc | apply pw_below_drewN | apply below_drew1) | exact HB.out)) hb); clear HB; have HB := n0_; clear n0_; (try clear hb); (try clear hb2); (try clear hk); (try clear hi)))
    go_ret
    exact ⟨by first | rfl | (simp [errW_none, errW_some] <;> rfl) | (simp [*, errW_none, errW_some] <;> rfl), by repeat (first | (with_reducible first | exact HB.out | apply below_alloc | apply pw_below_drewN | apply below_drew1) | exact HB.out)⟩

end Go.Proofs.YtamhlbdjjfdbiaaDoor.P

namespace Go.Proofs.YtamhlbdjjfdbiaaDoor
open Go.RowKit Go.Proofs.YtamhlbdjjfdbiaaDoor.P Go.Proofs.YtamhlbdjjfdbiaaDoorW.PrintWords Go.Proofs.YtamhlbdjjfdbiaaDoorW.PrintLast
/-- The pure statement of FnExactFirstCommon. -/
def PureFnExactFirstCommon : Prop := ∀ (a0 : ByteArray) (a1 : ByteArray), a0.size ≤ 9223372036854775807 → a1.size ≤ 9223372036854775807 →  ∃ k, laws_FnExactFirstCommon.f k a0 a1 = some true
end Go.Proofs.YtamhlbdjjfdbiaaDoor

namespace Go.Proofs.YtamhlbdjjfdbiaaDoor
open Go.RowKit Go.Proofs.YtamhlbdjjfdbiaaDoorW.PrintWords
/-! Plain words for the pure statements: answers that stand from some number of rounds on. -/
theorem Ev.succ {α : Type} {g : Nat → Option α} {r : α} (h : Ev (fun k => g (k + 1)) r) : Ev g r := Ev.step (fun _ => rfl) h
theorem Ev.const {α : Type} {a : Option α} {r : α} (h : a = some r) : Ev (fun _ => a) r := ⟨0, fun _ _ => h⟩
theorem Ev.pos {α : Type} {c : Prop} [Decidable c] {g f : Nat → Option α} {r : α} (hc : c) (h : Ev g r) : Ev (fun k => if c then g k else f k) r := by simp only [if_pos hc]; exact h
theorem Ev.neg {α : Type} {c : Prop} [Decidable c] {g f : Nat → Option α} {r : α} (hc : ¬ c) (h : Ev f r) : Ev (fun k => if c then g k else f k) r := by simp only [if_neg hc]; exact h
theorem Ev.yes {α : Type} {c : Prop} [Decidable c] {g f : Nat → Option α} {r : α} (h : Ev g r) (hc : c := by first | omega | rfl | trivial | decide | simp | (simp; omega)) : Ev (fun k => if c then g k else f k) r := Ev.pos hc h
theorem Ev.no {α : Type} {c : Prop} [Decidable c] {g f : Nat → Option α} {r : α} (h : Ev f r) (hc : ¬ c := by first | omega | decide | simp | (simp; omega)) : Ev (fun k => if c then g k else f k) r := Ev.neg hc h
theorem Ev.bindc {α β : Type} {a : Option α} {x : α} {f : Nat → α → Option β} {r : β} (h : a = some x) (k : Ev (fun n => f n x) r) : Ev (fun n => a.bind (f n)) r := by subst h; exact k
theorem wrap_id {n : Int} (h1 : -9223372036854775808 ≤ n) (h2 : n ≤ 9223372036854775807) : wrap64 n = n := IntWalk.wrap64_in n ⟨h1, h2⟩
theorem wf_i64 {n : Int} (h : (Lit.int .i64 n).wf = true) : -9223372036854775808 ≤ n ∧ n ≤ 9223372036854775807 := by
  have e1 : IntKind.i64.min = -9223372036854775808 := rfl
  have e2 : IntKind.i64.max = 9223372036854775807 := rfl
  simp only [Lit.wf, e1, e2, Bool.and_eq_true, decide_eq_true_eq] at h
  exact h
theorem rd_nat (l : List Int) (j : Nat) (h : j < l.length) : rd l (j : Int) = l[j] := by unfold rd; simp [List.getD, h]
end Go.Proofs.YtamhlbdjjfdbiaaDoor

namespace Go.Proofs.YtamhlbdjjfdbiaaDoor
open Go.RowKit Go.Proofs.YtamhlbdjjfdbiaaDoorW.PrintWords
set_option linter.unusedSimpArgs false
set_option linter.unusedVariables false
/-! Strings as lists of bytes. -/
/-- A string's bytes. -/
def bl (s : ByteArray) : List UInt8 := s.data.toList
theorem bl_len (s : ByteArray) : s.size = (bl s).length := rfl
theorem bl_inj {s t : ByteArray} (h : bl s = bl t) : s = t := ByteArray.ext (Array.toList_inj.1 h)
theorem bl_toList (s : ByteArray) : s.toList = bl s := Go.ByteArray.toList_eq s
theorem bl_mk (a : Array UInt8) : bl ⟨a⟩ = a.toList := rfl
theorem mk_bl (s : ByteArray) : (⟨(bl s).toArray⟩ : ByteArray) = s := bl_inj (by simp [bl])
theorem bl_extract (s : ByteArray) (i j : Nat) : bl (s.extract i j) = ((bl s).drop i).take (j - i) := by simp [bl, ByteArray.data_extract]
theorem bl_append (s t : ByteArray) : bl (s ++ t) = bl s ++ bl t := by simp [bl, ByteArray.data_append]
theorem bl_nums (l : List Int) : bl (strOfNums l) = l.map fun n => UInt8.ofNat n.toNat := rfl
theorem bl_empty : bl (⟨#[]⟩ : ByteArray) = [] := rfl
theorem bt_nat (s : ByteArray) (i : Nat) (h : i < (bl s).length) : bt s (i : Int) = ((bl s)[i].toNat : Int) := by
  unfold bt
  have h' : ((i : Int)).toNat < s.size := by rw [Int.toNat_natCast]; exact h
  rw [dif_pos h']; rfl
theorem of_toNat (c : UInt8) : UInt8.ofNat ((c.toNat : Int)).toNat = c := by rw [Int.toNat_natCast]; simp
theorem bt_of (s : ByteArray) (i : Nat) (h : i < (bl s).length) : UInt8.ofNat (bt s (i : Int)).toNat = (bl s)[i] := by rw [bt_nat s i h]; exact of_toNat _
theorem byte_eq (c d : UInt8) : ((c.toNat : Int) = (d.toNat : Int)) ↔ c = d := by
  constructor
  · intro h; exact UInt8.toNat_inj.1 (by exact_mod_cast h)
  · intro h; rw [h]
theorem byte_lt (c d : UInt8) : ((c.toNat : Int) < (d.toNat : Int)) ↔ c < d := by rw [UInt8.lt_iff_toNat_lt]; omega
theorem byte_le (c d : UInt8) : ((c.toNat : Int) ≤ (d.toNat : Int)) ↔ c ≤ d := by rw [UInt8.le_iff_toNat_le]; omega
theorem dropWhile_nil {α : Type} (p : α → Bool) : ∀ l : List α, l.dropWhile p = [] ↔ l.all p = true
  | [] => by simp
  | x :: xs => by
    by_cases h : p x = true
    · simp [List.dropWhile_cons, h, dropWhile_nil p xs]
    · simp [List.dropWhile_cons, h]
theorem dropWhile_keeps {α : Type} (p : α → Bool) : ∀ l : List α, (l.dropWhile p).all p = l.all p
  | [] => rfl
  | x :: xs => by
    by_cases h : p x = true
    · simp only [List.dropWhile_cons, h, if_true, List.all_cons, Bool.true_and]; exact dropWhile_keeps p xs
    · simp [List.dropWhile_cons, h]
theorem trimS_nil (l cs : List UInt8) : Lib.trimS l cs = [] ↔ l.all (cs.contains ·) = true := by
  unfold Lib.trimS Lib.trimLeftS Lib.trimRightS
  rw [dropWhile_nil, List.all_reverse, dropWhile_keeps, List.all_reverse]
theorem indexByte_neg (l : List UInt8) (c : UInt8) : Lib.indexByte l c < 0 ↔ ¬ c ∈ l := by
  induction l with
  | nil => simp [Lib.indexByte]
  | cons b l ih =>
    have hge := Lib.indexByte_ge l c
    unfold Lib.indexByte
    by_cases h : b = c
    · subst h; simp
    · have h1 : (b == c) = false := by simpa using h
      rw [h1]
      have h2 : ¬ c = b := fun e => h e.symm
      simp only [Bool.false_eq_true, if_false, List.mem_cons, h2, false_or]
      by_cases e : Lib.indexByte l c = -1
      · simp only [e, beq_self_eq_true, if_true]
        have := ih.1 (by omega)
        simp [this]
      · have e' : (Lib.indexByte l c == -1) = false := by simpa using e
        rw [e']
        simp only [Bool.false_eq_true, if_false]
        have hp : ¬ Lib.indexByte l c < 0 := by omega
        have := mt ih.2 hp
        constructor
        · intro h3; omega
        · intro h3; exact absurd h3 this
/-- The letters. -/
def isLow (c : UInt8) : Bool := decide (97 ≤ c.toNat) && decide (c.toNat ≤ 122)
theorem u8_all (P : UInt8 → Prop) [DecidablePred P] (h : ∀ n, n < 256 → P (UInt8.ofNat n)) (c : UInt8) : P c := by
  have := h c.toNat c.toNat_lt
  rwa [show UInt8.ofNat c.toNat = c from by simp] at this
theorem low_contains (c : UInt8) : ([97, 98, 99, 100, 101, 102, 103, 104, 105, 106, 107, 108, 109, 110, 111, 112, 113, 114, 115, 116, 117, 118, 119, 120, 121, 122] : List UInt8).contains c = isLow c := by
  refine u8_all (fun c => _ = isLow c) ?_ c
  decide +kernel
theorem dig_contains (c : UInt8) : ([48, 49, 50, 51, 52, 53, 54, 55, 56, 57] : List UInt8).contains c = (decide (48 ≤ c.toNat) && decide (c.toNat ≤ 57)) := by
  refine u8_all (fun c => _ = (decide (48 ≤ c.toNat) && decide (c.toNat ≤ 57))) ?_ c
  decide +kernel
end Go.Proofs.YtamhlbdjjfdbiaaDoor

namespace Go.Proofs.YtamhlbdjjfdbiaaDoor
set_option linter.unusedSimpArgs false
set_option linter.unusedVariables false
/-! Tables of any cells that are filled from their ends. -/
section
variable {α β : Type}
def cG (d : α) (T : List (List α)) (r c : Nat) : α := (T.getD r []).getD c d
def lG (T : List (List α)) (r : Nat) : Nat := (T.getD r []).length
theorem lG_set (T : List (List α)) (i : Nat) (l : List α) (hi : i < T.length) (r : Nat) : lG (T.set i l) r = if r = i then l.length else lG T r := by
  unfold lG
  rw [List.getD_eq_getElem?_getD, List.getD_eq_getElem?_getD, List.getElem?_set]
  by_cases c : i = r
  · subst c; rw [if_pos rfl, if_pos rfl, if_pos hi]; rfl
  · rw [if_neg c, if_neg (fun h => c h.symm)]
theorem cG_set (d : α) (T : List (List α)) (i : Nat) (l : List α) (hi : i < T.length) (r c : Nat) : cG d (T.set i l) r c = if r = i then l.getD c d else cG d T r c := by
  unfold cG
  rw [List.getD_eq_getElem?_getD (l := T.set i l), List.getD_eq_getElem?_getD (l := T), List.getElem?_set]
  by_cases h : i = r
  · subst h; rw [if_pos rfl, if_pos rfl, if_pos hi]; rfl
  · rw [if_neg h, if_neg (fun h2 => h h2.symm)]
theorem getD_setG (d : α) (l : List α) (k : Nat) (v : α) (hk : k < l.length) (c : Nat) : (l.set k v).getD c d = if c = k then v else l.getD c d := by
  rw [List.getD_eq_getElem?_getD, List.getD_eq_getElem?_getD, List.getElem?_set]
  by_cases h : k = c
  · subst h; rw [if_pos rfl, if_pos rfl, if_pos hk]; rfl
  · rw [if_neg h, if_neg (fun h2 => h h2.symm)]
theorem lG_rep (n : Nat) (l : List α) (r : Nat) (hr : r < n) : lG (List.replicate n l) r = l.length := by
  unfold lG
  rw [List.getD_eq_getElem?_getD, List.getElem?_replicate, if_pos hr]; rfl
theorem cG_rep (d : α) (n m r c : Nat) (hr : r < n) : cG d (List.replicate n (List.replicate m d)) r c = d := by
  unfold cG
  rw [show (List.replicate n (List.replicate m d)).getD r [] = List.replicate m d by rw [List.getD_eq_getElem?_getD, List.getElem?_replicate, if_pos hr]; rfl]
  rw [List.getD_eq_getElem?_getD, List.getElem?_replicate]
  split <;> rfl
variable (pr : α → β) (d : α) (F : Nat → Nat → β) (n m : Nat)
/-- All rows from j on are done. -/
def DoneG (T : List (List α)) (j : Nat) : Prop := T.length = n + 1 ∧ ∀ r, j ≤ r → r ≤ n → lG T r = m + 1 ∧ ∀ c, c ≤ m → pr (cG d T r c) = F r c
/-- All rows behind i are done, and of row i the cells behind k. -/
def InvG (T : List (List α)) (i : Nat) (k : Int) : Prop := DoneG pr d F n m T (i + 1) ∧ lG T i = m + 1 ∧ ∀ c : Nat, k < c → c ≤ m → pr (cG d T i c) = F i c
/-- Every row is there, and its last cell is as the empty one. -/
def AllG (T : List (List α)) : Prop := ∀ r, r ≤ n → lG T r = m + 1 ∧ cG d T r m = d
variable {pr d F n m}
theorem InvG.done {T : List (List α)} {i : Nat} {k : Int} (h : InvG pr d F n m T i k) (hk : k < 0) : DoneG pr d F n m T i := by
  refine ⟨h.1.1, fun r h1 h2 => ?_⟩
  rcases Nat.lt_or_ge i r with c | c
  · exact h.1.2 r c h2
  · obtain rfl : r = i := by omega
    exact ⟨h.2.1, fun c hc => h.2.2 c (by omega) hc⟩
theorem InvG.start {T : List (List α)} {i : Nat} (h : DoneG pr d F n m T (i + 1)) (hl : lG T i = m + 1) (hc : pr (cG d T i m) = F i m) : InvG pr d F n m T i ((m : Int) - 1) := by
  refine ⟨h, hl, fun c h1 h2 => ?_⟩
  obtain rfl : c = m := by omega
  exact hc
theorem InvG.any {T : List (List α)} {i k : Nat} (v : α) (h : InvG pr d F n m T i (k : Int)) (hi : i ≤ n) (hk : k ≤ m) : InvG pr d F n m (T.set i ((T.getD i []).set k v)) i (k : Int) := by
  have hT : i < T.length := by rw [h.1.1]; omega
  have hl : k < (T.getD i []).length := by have := h.2.1; unfold lG at this; omega
  refine ⟨⟨by rw [List.length_set]; exact h.1.1, fun r h1 h2 => ⟨?_, fun c hc => ?_⟩⟩, ?_, fun c h1 h2 => ?_⟩
  · rw [lG_set _ _ _ hT, if_neg (by omega)]; exact (h.1.2 r h1 h2).1
  · rw [cG_set _ _ _ _ hT, if_neg (by omega)]; exact (h.1.2 r h1 h2).2 c hc
  · rw [lG_set _ _ _ hT, if_pos rfl, List.length_set]; exact h.2.1
  · rw [cG_set _ _ _ _ hT, if_pos rfl, getD_setG _ _ _ _ hl, if_neg (by omega)]; exact h.2.2 c h1 h2
theorem InvG.put {T : List (List α)} {i k : Nat} {v : α} (h : InvG pr d F n m T i (k : Int)) (hi : i ≤ n) (hk : k ≤ m) (hv : pr v = F i k) : InvG pr d F n m (T.set i ((T.getD i []).set k v)) i ((k : Int) - 1) := by
  have hT : i < T.length := by rw [h.1.1]; omega
  have hl : k < (T.getD i []).length := by have := h.2.1; unfold lG at this; omega
  have ha := h.any v hi hk
  refine ⟨ha.1, ha.2.1, fun c h1 h2 => ?_⟩
  by_cases e : c = k
  · subst e
    rw [cG_set _ _ _ _ hT, if_pos rfl, getD_setG _ _ _ _ hl, if_pos rfl]; exact hv
  · exact ha.2.2 c (by omega) h2
theorem AllG.put {T : List (List α)} {i k : Nat} (v : α) (h : AllG d n m T) (hi : i < T.length) (hk : k < m) : AllG d n m (T.set i ((T.getD i []).set k v)) := by
  intro r hr
  rw [lG_set _ _ _ hi, cG_set _ _ _ _ hi]
  obtain ⟨h1, h2⟩ := h r hr
  split
  · rename_i e
    subst e
    refine ⟨by rw [List.length_set]; exact h1, ?_⟩
    rw [getD_setG _ _ _ _ (by unfold lG at h1; omega), if_neg (by omega)]
    exact h2
  · exact ⟨h1, h2⟩
end
end Go.Proofs.YtamhlbdjjfdbiaaDoor

namespace Go.Proofs.YtamhlbdjjfdbiaaDoor
set_option linter.unusedSimpArgs false
set_option linter.unusedVariables false
/-! Common texts: the longest, and the first of them. -/
/-- Is a text in another one, its letters in their order? -/
inductive Sub : List UInt8 → List UInt8 → Prop
  | nil (b : List UInt8) : Sub [] b
  | skip (y : UInt8) {s b : List UInt8} (h : Sub s b) : Sub s (y :: b)
  | take (y : UInt8) {s b : List UInt8} (h : Sub s b) : Sub (y :: s) (y :: b)
/-- The length of the longest common text. -/
def lcsN : List UInt8 → List UInt8 → Nat
  | [], b => 0
  | x :: a, [] => 0
  | x :: a, y :: b => if x = y then max (max (lcsN a (y :: b)) (lcsN (x :: a) b)) (lcsN a b + 1) else max (lcsN a (y :: b)) (lcsN (x :: a) b)
termination_by a b => a.length + b.length
theorem lcsN_nil (b : List UInt8) : lcsN [] b = 0 := by rw [lcsN]
theorem lcsN_nil' (a : List UInt8) : lcsN a [] = 0 := by cases a <;> rw [lcsN]
theorem lcsN_cons (x y : UInt8) (a b : List UInt8) : lcsN (x :: a) (y :: b) = if x = y then max (max (lcsN a (y :: b)) (lcsN (x :: a) b)) (lcsN a b + 1) else max (lcsN a (y :: b)) (lcsN (x :: a) b) := by rw [lcsN]
theorem sub_nil {s : List UInt8} (h : Sub s []) : s = [] := by cases h; rfl
theorem sub_tail {c : UInt8} {s b : List UInt8} (h : Sub (c :: s) b) : Sub s b := by
  induction b with
  | nil => cases h
  | cons y b ih =>
    cases h with
    | skip _ h => exact .skip y (ih h)
    | take _ h => exact .skip _ h
theorem sub_len {s b : List UInt8} (h : Sub s b) : s.length ≤ b.length := by
  induction h with
  | nil b => simp
  | skip y _ ih => simp only [List.length_cons]; omega
  | take y _ ih => simp only [List.length_cons]; omega
/-- No common text is longer. -/
theorem lcsN_most : ∀ (n : Nat) (a b s : List UInt8), a.length + b.length ≤ n → Sub s a → Sub s b → s.length ≤ lcsN a b := by
  intro n
  induction n with
  | zero =>
    intro a b s h ha hb
    obtain rfl : a = [] := List.length_eq_zero_iff.1 (by omega)
    rw [sub_nil ha]; simp
  | succ n ih =>
    intro a b s h ha hb
    cases a with
    | nil => rw [sub_nil ha]; simp
    | cons x a =>
      cases b with
      | nil => rw [sub_nil hb]; simp
      | cons y b =>
        simp only [List.length_cons] at h
        have l1 : lcsN a (y :: b) ≤ lcsN (x :: a) (y :: b) := by rw [lcsN_cons]; split <;> omega
        have l2 : lcsN (x :: a) b ≤ lcsN (x :: a) (y :: b) := by rw [lcsN_cons]; split <;> omega
        cases ha with
        | nil => simp
        | skip _ ha => exact Nat.le_trans (ih a (y :: b) s (by simp only [List.length_cons]; omega) ha hb) l1
        | take _ ha =>
          cases hb with
          | skip _ hb => exact Nat.le_trans (ih (x :: a) b _ (by simp only [List.length_cons]; omega) (.take x ha) hb) l2
          | take _ hb =>
            have := ih a b _ (by omega) ha hb
            rw [lcsN_cons, if_pos rfl]
            simp only [List.length_cons]; omega
/-- Is a text before another one? As Go orders texts. -/
def ltB : List UInt8 → List UInt8 → Bool
  | _, [] => false
  | [], _ :: _ => true
  | x :: s, y :: t => if x = y then ltB s t else decide (x < y)
theorem ltB_irrefl : ∀ s : List UInt8, ltB s s = false
  | [] => rfl
  | x :: s => by simp [ltB, ltB_irrefl s]
theorem u8_lt_of {x y : UInt8} (h : ¬ x = y) (h2 : ¬ x < y) : y < x := by
  rw [UInt8.lt_iff_toNat_lt] at h2 ⊢
  have : x.toNat ≠ y.toNat := fun e => h (UInt8.toNat_inj.1 e)
  omega
theorem u8_asymm {x y : UInt8} (h : x < y) : ¬ y < x := by
  rw [UInt8.lt_iff_toNat_lt] at h ⊢; omega
theorem u8_trans {x y z : UInt8} (h : x < y) (h2 : y < z) : x < z := by
  rw [UInt8.lt_iff_toNat_lt] at h h2 ⊢; omega
theorem u8_ne {x y : UInt8} (h : x < y) : ¬ x = y := by
  rintro rfl; rw [UInt8.lt_iff_toNat_lt] at h; omega
theorem ltB_total : ∀ s t : List UInt8, ltB s t = false → ltB t s = false → s = t
  | [], [], _, _ => rfl
  | [], _ :: _, h, _ => by simp [ltB] at h
  | _ :: _, [], _, h => by simp [ltB] at h
  | x :: s, y :: t, h1, h2 => by
    by_cases e : x = y
    · subst e
      simp only [ltB, if_true] at h1 h2
      rw [ltB_total s t h1 h2]
    · have e' : ¬ y = x := fun h => e h.symm
      simp only [ltB, if_neg e, if_neg e', decide_eq_false_iff_not] at h1 h2
      exact absurd (u8_lt_of e h1) h2
theorem ltB_trans : ∀ s t u : List UInt8, ltB s t = true → ltB t u = true → ltB s u = true
  | _, [], _, h, _ => by cases ‹List UInt8› <;> simp [ltB] at h
  | _, _ :: _, [], _, h => by simp [ltB] at h
  | [], _ :: _, _ :: _, _, _ => rfl
  | x :: s, y :: t, z :: u, h1, h2 => by
    by_cases e : x = y
    · subst e
      simp only [ltB, if_true] at h1
      by_cases e2 : x = z
      · subst e2
        simp only [ltB, if_true] at h2 ⊢
        exact ltB_trans s t u h1 h2
      · simp only [ltB, if_neg e2] at h2 ⊢; exact h2
    · simp only [ltB, if_neg e, decide_eq_true_eq] at h1
      by_cases e2 : y = z
      · subst e2
        simp only [ltB, if_neg e, decide_eq_true_eq]; exact h1
      · simp only [ltB, if_neg e2, decide_eq_true_eq] at h2
        have := u8_trans h1 h2
        simp only [ltB, if_neg (u8_ne this), decide_eq_true_eq]; exact this
/-- Not behind: the order that is not strict. -/
def leB (s t : List UInt8) : Prop := ltB t s = false
theorem leB_refl (s : List UInt8) : leB s s := ltB_irrefl s
theorem leB_of_lt {s t : List UInt8} (h : ltB s t = true) : leB s t := by
  unfold leB
  by_cases e : ltB t s = true
  · have := ltB_trans s t s h e
    rw [ltB_irrefl] at this; cases this
  · simpa using e
theorem leB_trans {s t u : List UInt8} (h1 : leB s t) (h2 : leB t u) : leB s u := by
  unfold leB at *
  by_cases e : ltB u s = true
  · by_cases e2 : ltB s t = true
    · rw [ltB_trans u s t e e2] at h2; cases h2
    · have : s = t := ltB_total s t (by simpa using e2) h1
      subst this
      rw [e] at h2; cases h2
  · simpa using e
theorem leB_antisymm {s t : List UInt8} (h1 : leB s t) (h2 : leB t s) : s = t := ltB_total s t h2 h1
theorem leB_cons (x : UInt8) {s t : List UInt8} (h : leB s t) : leB (x :: s) (x :: t) := by unfold leB at *; simp [ltB, h]
theorem leB_head {x y : UInt8} (h : x < y) (s t : List UInt8) : leB (x :: s) (y :: t) := by
  apply leB_of_lt
  simp [ltB, u8_ne h, h]
/-- The one that is taken of two: the longer one, else the one that comes first. -/
def better (t m : List UInt8) : Bool := decide (m.length < t.length) || (decide (t.length = m.length) && ltB t m)
def pickS (m t : List UInt8) : List UInt8 := if better t m = true then t else m
/-- The first of the longest common texts, as the program has it. -/
def lcsS : List UInt8 → List UInt8 → List UInt8
  | [], b => []
  | x :: a, [] => []
  | x :: a, y :: b => if x = y then pickS (pickS (lcsS a (y :: b)) (lcsS (x :: a) b)) (x :: lcsS a b) else pickS (lcsS a (y :: b)) (lcsS (x :: a) b)
termination_by a b => a.length + b.length
theorem lcsS_nil (b : List UInt8) : lcsS [] b = [] := by rw [lcsS]
theorem lcsS_nil' (a : List UInt8) : lcsS a [] = [] := by cases a <;> rw [lcsS]
theorem lcsS_cons (x y : UInt8) (a b : List UInt8) : lcsS (x :: a) (y :: b) = if x = y then pickS (pickS (lcsS a (y :: b)) (lcsS (x :: a) b)) (x :: lcsS a b) else pickS (lcsS a (y :: b)) (lcsS (x :: a) b) := by rw [lcsS]
theorem pickS_len (m t : List UInt8) : (pickS m t).length = max m.length t.length := by
  unfold pickS better
  split
  · rename_i h
    simp only [Bool.or_eq_true, decide_eq_true_eq, Bool.and_eq_true] at h
    omega
  · rename_i h
    simp only [Bool.or_eq_true, decide_eq_true_eq, Bool.and_eq_true, not_or] at h
    omega
theorem pickS_or (m t : List UInt8) : pickS m t = m ∨ pickS m t = t := by unfold pickS; split <;> simp
/-- It is no worse than either of both. -/
theorem pickS_le (m t : List UInt8) : (m.length = (pickS m t).length → leB (pickS m t) m) ∧ (t.length = (pickS m t).length → leB (pickS m t) t) := by
  unfold pickS better
  split
  · rename_i h
    simp only [Bool.or_eq_true, decide_eq_true_eq, Bool.and_eq_true] at h
    refine ⟨fun e => ?_, fun _ => leB_refl _⟩
    rcases h with h | h
    · omega
    · exact leB_of_lt h.2
  · rename_i h
    simp only [Bool.or_eq_true, decide_eq_true_eq, Bool.and_eq_true, not_or] at h
    refine ⟨fun _ => leB_refl _, fun e => ?_⟩
    have := h.2
    unfold leB
    cases hb : ltB t m with
    | false => rfl
    | true => exact absurd ⟨e, hb⟩ this
theorem lcsS_all : ∀ (n : Nat) (a b : List UInt8), a.length + b.length ≤ n → Sub (lcsS a b) a ∧ Sub (lcsS a b) b ∧ (lcsS a b).length = lcsN a b ∧ ∀ s, Sub s a → Sub s b → s.length = lcsN a b → leB (lcsS a b) s := by
  intro n
  induction n with
  | zero =>
    intro a b h
    obtain rfl : a = [] := List.length_eq_zero_iff.1 (by omega)
    obtain rfl : b = [] := List.length_eq_zero_iff.1 (by omega)
    rw [lcsS_nil, lcsN_nil]
    exact ⟨.nil _, .nil _, rfl, fun s ha _ _ => by rw [sub_nil ha]; exact leB_refl _⟩
  | succ n ih =>
    intro a b h
    cases a with
    | nil => rw [lcsS_nil, lcsN_nil]; exact ⟨.nil _, .nil _, rfl, fun s ha _ _ => by rw [sub_nil ha]; exact leB_refl _⟩
    | cons x a =>
      cases b with
      | nil => rw [lcsS_nil', lcsN_nil']; exact ⟨.nil _, .nil _, rfl, fun s _ hb _ => by rw [sub_nil hb]; exact leB_refl _⟩
      | cons y b =>
        simp only [List.length_cons] at h
        obtain ⟨p1, p2, p3, p4⟩ := ih a (y :: b) (by simp only [List.length_cons]; omega)
        obtain ⟨q1, q2, q3, q4⟩ := ih (x :: a) b (by simp only [List.length_cons]; omega)
        obtain ⟨r1, r2, r3, r4⟩ := ih a b (by omega)
        have two1 : Sub (pickS (lcsS a (y :: b)) (lcsS (x :: a) b)) (x :: a) := (pickS_or (lcsS a (y :: b)) (lcsS (x :: a) b)).elim (fun e => by rw [e]; exact .skip x p1) (fun e => by rw [e]; exact q1)
        have two2 : Sub (pickS (lcsS a (y :: b)) (lcsS (x :: a) b)) (y :: b) := (pickS_or (lcsS a (y :: b)) (lcsS (x :: a) b)).elim (fun e => by rw [e]; exact p2) (fun e => by rw [e]; exact .skip y q2)
        have two3 := pickS_len (lcsS a (y :: b)) (lcsS (x :: a) b)
        rw [p3, q3] at two3
        have two4 := pickS_le (lcsS a (y :: b)) (lcsS (x :: a) b)
        rw [p3, q3, two3] at two4
        generalize hm : pickS (lcsS a (y :: b)) (lcsS (x :: a) b) = m at *
        by_cases e : x = y
        · subst e
          rw [lcsS_cons, if_pos rfl, lcsN_cons, if_pos rfl, hm]
          have l3 := pickS_len m (x :: lcsS a b)
          have l4 := pickS_le m (x :: lcsS a b)
          simp only [List.length_cons, r3, two3] at l3 l4
          rw [l3] at l4
          have s1 : Sub (pickS m (x :: lcsS a b)) (x :: a) := (pickS_or m (x :: lcsS a b)).elim (fun e => by rw [e]; exact two1) (fun e => by rw [e]; exact .take x r1)
          have s2 : Sub (pickS m (x :: lcsS a b)) (x :: b) := (pickS_or m (x :: lcsS a b)).elim (fun e => by rw [e]; exact two2) (fun e => by rw [e]; exact .take x r2)
          refine ⟨s1, s2, l3, fun s ha hb hs => ?_⟩
          cases ha with
          | nil => exact absurd hs (by simp only [List.length_nil]; omega)
          | skip _ ha =>
            have hl := lcsN_most _ a (x :: b) s (Nat.le_refl _) ha hb
            refine leB_trans (l4.1 (by omega)) (leB_trans (two4.1 (by omega)) (p4 s ha hb (by omega)))
          | take _ ha =>
            cases hb with
            | skip _ hb =>
              have hl := lcsN_most _ (x :: a) b _ (Nat.le_refl _) (.take x ha) hb
              refine leB_trans (l4.1 (by omega)) (leB_trans (two4.2 (by omega)) (q4 _ (.take x ha) hb (by omega)))
            | take _ hb =>
              have hl := lcsN_most _ a b _ (Nat.le_refl _) ha hb
              simp only [List.length_cons] at hs
              refine leB_trans (l4.2 (by omega)) (leB_cons x (r4 _ ha hb (by omega)))
        · rw [lcsS_cons, if_neg e, lcsN_cons, if_neg e, hm]
          refine ⟨two1, two2, two3, fun s ha hb hs => ?_⟩
          cases ha with
          | nil =>
            have z : max (lcsN a (y :: b)) (lcsN (x :: a) b) = 0 := by simpa using hs.symm
            have : m = [] := List.length_eq_zero_iff.1 (by omega)
            rw [this]; exact leB_refl _
          | skip _ ha =>
            have hl := lcsN_most _ a (y :: b) s (Nat.le_refl _) ha hb
            exact leB_trans (two4.1 (by omega)) (p4 s ha hb (by omega))
          | take _ ha =>
            cases hb with
            | skip _ hb =>
              have hl := lcsN_most _ (x :: a) b _ (Nat.le_refl _) (.take x ha) hb
              exact leB_trans (two4.2 (by omega)) (q4 _ (.take x ha) hb (by omega))
            | take _ hb => exact absurd rfl e
/-- What stands behind the first place of a letter. -/
def aft (c : UInt8) : List UInt8 → Option (List UInt8)
  | [] => none
  | x :: l => if x = c then some l else aft c l
theorem sub_aft {c : UInt8} {s : List UInt8} : ∀ {l : List UInt8}, Sub (c :: s) l → ∃ r, aft c l = some r ∧ Sub s r
  | [], h => by cases h
  | x :: l, h => by
    unfold aft
    by_cases e : x = c
    · subst e
      rw [if_pos rfl]
      refine ⟨l, rfl, ?_⟩
      cases h with
      | skip _ h => exact sub_tail h
      | take _ h => exact h
    · rw [if_neg e]
      cases h with
      | skip _ h => exact sub_aft h
      | take _ h => exact absurd rfl e
theorem aft_sub {c : UInt8} {s : List UInt8} : ∀ {l r : List UInt8}, aft c l = some r → Sub s r → Sub (c :: s) l
  | [], _, h, _ => by simp [aft] at h
  | x :: l, r, h, hs => by
    unfold aft at h
    by_cases e : x = c
    · subst e
      rw [if_pos rfl] at h
      obtain rfl := Option.some.inj h
      exact .take x hs
    · rw [if_neg e] at h
      exact .skip x (aft_sub h hs)
/-- May a letter come next in a longest common text? -/
def canNext (a b : List UInt8) (c : UInt8) : Bool :=
  match aft c a, aft c b with
  | some x, some y => decide (lcsN x y + 1 = lcsN a b)
  | _, _ => false
/-- The first text is the least letter that may come next, and the first text of what stands behind it. -/
theorem lcsS_step (a b : List UInt8) (c : UInt8) (x y : List UInt8) (ha : aft c a = some x) (hb : aft c b = some y) (hc : lcsN x y + 1 = lcsN a b) (hl : ∀ d, d < c → canNext a b d = false) : lcsS a b = c :: lcsS x y := by
  obtain ⟨p1, p2, p3, p4⟩ := lcsS_all _ a b (Nat.le_refl _)
  obtain ⟨q1, q2, q3, q4⟩ := lcsS_all _ x y (Nat.le_refl _)
  refine leB_antisymm (p4 _ (aft_sub ha q1) (aft_sub hb q2) (by simp only [List.length_cons]; omega)) ?_
  cases hs : lcsS a b with
  | nil => rw [hs] at p3; simp at p3; omega
  | cons d s =>
    rw [hs] at p1 p2 p3
    simp only [List.length_cons] at p3
    obtain ⟨u, hu, su⟩ := sub_aft p1
    obtain ⟨v, hv, sv⟩ := sub_aft p2
    have m1 := lcsN_most _ u v s (Nat.le_refl _) su sv
    obtain ⟨w1, w2, w3, _⟩ := lcsS_all _ u v (Nat.le_refl _)
    have m2 := lcsN_most _ a b _ (Nat.le_refl _) (aft_sub hu w1) (aft_sub hv w2)
    simp only [List.length_cons] at m2
    have cn : canNext a b d = true := by unfold canNext; rw [hu, hv]; simp; omega
    by_cases e : d = c
    · subst e
      rw [ha] at hu; rw [hb] at hv
      obtain rfl := Option.some.inj hu
      obtain rfl := Option.some.inj hv
      exact leB_cons d (q4 s su sv (by omega))
    · by_cases lt : d < c
      · rw [hl d lt] at cn; cases cn
      · exact leB_head (u8_lt_of e lt) _ _
/-- Where something is in common, some letter may come next. -/
theorem canNext_some (a b : List UInt8) (h : 0 < lcsN a b) : ∃ c ∈ lcsS a b, canNext a b c = true := by
  obtain ⟨p1, p2, p3, _⟩ := lcsS_all _ a b (Nat.le_refl _)
  cases hs : lcsS a b with
  | nil => rw [hs] at p3; simp at p3; omega
  | cons d s =>
    rw [hs] at p1 p2 p3
    simp only [List.length_cons] at p3
    obtain ⟨u, hu, su⟩ := sub_aft p1
    obtain ⟨v, hv, sv⟩ := sub_aft p2
    have m1 := lcsN_most _ u v s (Nat.le_refl _) su sv
    obtain ⟨w1, w2, w3, _⟩ := lcsS_all _ u v (Nat.le_refl _)
    have m2 := lcsN_most _ a b _ (Nat.le_refl _) (aft_sub hu w1) (aft_sub hv w2)
    simp only [List.length_cons] at m2
    exact ⟨d, List.mem_cons_self, by unfold canNext; rw [hu, hv]; simp; omega⟩
end Go.Proofs.YtamhlbdjjfdbiaaDoor

namespace Go.Proofs.YtamhlbdjjfdbiaaDoor
open Go.RowKit Go.Proofs.YtamhlbdjjfdbiaaDoor.P Go.Proofs.YtamhlbdjjfdbiaaDoorW.PrintWords
set_option linter.unusedSimpArgs false
set_option linter.unusedVariables false
theorem over_eq (s cs : ByteArray) (h1 : s.size ≤ 9223372036854775807) (h2 : cs.size < 4294967281) (h3 : (bl cs).all (fun b => decide (b.toNat < 128)) = true) : impl_over.f s cs = some ((bl s).all ((bl cs).contains ·)) := by
  unfold impl_over.f strings_Trim.f
  rw [if_pos ⟨h1, h2, h3⟩]
  simp only [Option.bind_some]
  congr 1
  rw [bl_toList, bl_mk, List.toList_toArray]
  have := trimS_nil (bl s) (bl cs)
  unfold bl at this ⊢
  rw [Bool.eq_iff_iff, beq_iff_eq]
  exact this
theorem overLow_eq (s : ByteArray) (h1 : s.size ≤ 9223372036854775807) : impl_over.f s (⟨#[97, 98, 99, 100, 101, 102, 103, 104, 105, 106, 107, 108, 109, 110, 111, 112, 113, 114, 115, 116, 117, 118, 119, 120, 121, 122]⟩ : ByteArray) = some ((bl s).all isLow) := by
  rw [over_eq s _ h1 (by decide) (by decide)]
  congr 1
  congr 1
  funext c
  exact low_contains c
/-- Is it a text? -/
def textB (l : List UInt8) : Bool := decide (l.length ≤ 20) && l.all isLow
theorem isText_eq (s : ByteArray) (h1 : s.size ≤ 9223372036854775807) : impl_isText.f s = some (textB (bl s)) := by
  unfold impl_isText.f textB
  by_cases c : s.size ≤ 20
  · rw [if_pos (by omega), overLow_eq s h1, decide_eq_true (by rw [← bl_len]; exact c)]; rfl
  · rw [if_neg (by omega), decide_eq_false (by rw [← bl_len]; exact c), Bool.false_and]
theorem bkText_l0 (s : ByteArray) (hs : s.size ≤ 9223372036854775806) : ∀ (d i : Nat), i + d = s.size → Ev (fun k => spec_bkText.l0 k s i) (((bl s).drop i).all isLow)
  | 0, i, hi => by
    apply Ev.succ
    simp only [spec_bkText.l0]
    refine Ev.neg (by omega) (Ev.const ?_)
    rw [List.drop_of_length_le (by rw [← bl_len]; omega)]; rfl
  | d + 1, i, hi => by
    have hlt : i < (bl s).length := by rw [← bl_len]; omega
    apply Ev.succ
    simp only [spec_bkText.l0]
    refine Ev.pos (by omega) (Ev.pos (by omega) ?_)
    rw [wrap_id (by omega) (by omega), bt_nat s i hlt, List.drop_eq_getElem_cons hlt, List.all_cons]
    by_cases c1 : ((bl s)[i].toNat : Int) < 97
    · refine Ev.pos c1 (Ev.const ?_)
      have : isLow (bl s)[i] = false := by unfold isLow; rw [Bool.and_eq_false_iff]; left; rw [decide_eq_false_iff_not]; omega
      rw [this]; rfl
    · refine Ev.neg c1 ?_
      by_cases c2 : ((bl s)[i].toNat : Int) > 122
      · refine Ev.pos c2 (Ev.const ?_)
        have : isLow (bl s)[i] = false := by unfold isLow; rw [Bool.and_eq_false_iff]; right; rw [decide_eq_false_iff_not]; omega
        rw [this]; rfl
      · refine Ev.neg c2 ?_
        have : isLow (bl s)[i] = true := by unfold isLow; rw [Bool.and_eq_true, decide_eq_true_eq, decide_eq_true_eq]; omega
        rw [this, Bool.true_and]
        exact_mod_cast bkText_l0 s hs d (i + 1) (by omega)
theorem bkText_ev (s : ByteArray) : Ev (fun k => spec_bkText.f k s) (textB (bl s)) := by
  unfold spec_bkText.f textB
  by_cases c : s.size ≤ 20
  · refine Ev.neg (by omega) ?_
    rw [decide_eq_true (by rw [← bl_len]; exact c), Bool.true_and]
    exact bkText_l0 s (by omega) s.size 0 (by omega)
  · refine Ev.pos (by omega) (Ev.const ?_)
    rw [decide_eq_false (by rw [← bl_len]; exact c), Bool.false_and]
end Go.Proofs.YtamhlbdjjfdbiaaDoor

namespace Go.Proofs.YtamhlbdjjfdbiaaDoor
open Go.RowKit Go.Proofs.YtamhlbdjjfdbiaaDoor.P Go.Proofs.YtamhlbdjjfdbiaaDoorW.PrintWords Go.Proofs.YtamhlbdjjfdbiaaDoorW.PrintMore
set_option linter.unusedSimpArgs false
set_option linter.unusedVariables false
set_option linter.unusedSectionVars false
/-! The tables of common texts: lengths on the one side, texts on the other. -/
theorem rd1_get (T : List (List Int)) (r : Nat) : rd_L1 T (r : Int) = T.getD r [] := by unfold rd_L1; rw [Int.toNat_natCast]
theorem rdc1 (T : List (List Int)) (r c : Nat) : rd (rd_L1 T (r : Int)) (c : Int) = cG 0 T r c := by unfold rd_L1 rd cG; rw [Int.toNat_natCast, Int.toNat_natCast]
theorem rd4_get (T : List (List ByteArray)) (r : Nat) : rd_L4 T (r : Int) = T.getD r [] := by unfold rd_L4; rw [Int.toNat_natCast]
theorem rdc4 (T : List (List ByteArray)) (r c : Nat) : rdOf ByteArray.empty (rd_L4 T (r : Int)) (c : Int) = cG ByteArray.empty T r c := by unfold rd_L4 rdOf cG; rw [Int.toNat_natCast, Int.toNat_natCast]
def Ns (a b : List UInt8) (i k : Nat) : Int := (lcsN (a.drop i) (b.drop k) : Nat)
def Ss (a b : List UInt8) (i k : Nat) : List UInt8 := lcsS (a.drop i) (b.drop k)
section
variable {a b : List UInt8}
theorem lcsN_le (a b : List UInt8) : lcsN a b ≤ a.length := by
  obtain ⟨h1, _, h2, _⟩ := lcsS_all _ a b (Nat.le_refl _)
  rw [← h2]; exact sub_len h1
theorem Ns_n (k : Nat) : Ns a b a.length k = 0 := by unfold Ns; rw [List.drop_length, lcsN_nil]; rfl
theorem Ns_m (i : Nat) : Ns a b i b.length = 0 := by unfold Ns; rw [List.drop_length, lcsN_nil']; rfl
theorem Ns_step (i k : Nat) (hi : i < a.length) (hk : k < b.length) : Ns a b i k = if a[i] = b[k] then max (max (Ns a b (i + 1) k) (Ns a b i (k + 1))) (Ns a b (i + 1) (k + 1) + 1) else max (Ns a b (i + 1) k) (Ns a b i (k + 1)) := by
  unfold Ns
  rw [List.drop_eq_getElem_cons hi, List.drop_eq_getElem_cons hk, lcsN_cons]
  split <;> omega
theorem Ns_nn (i k : Nat) : 0 ≤ Ns a b i k := by unfold Ns; omega
theorem Ns_le (i k : Nat) (ha : a.length ≤ 20) : Ns a b i k ≤ 20 := by
  unfold Ns
  have := lcsN_le (a.drop i) (b.drop k)
  rw [List.length_drop] at this
  omega
theorem Ss_n (k : Nat) : Ss a b a.length k = [] := by unfold Ss; rw [List.drop_length, lcsS_nil]
theorem Ss_m (i : Nat) : Ss a b i b.length = [] := by unfold Ss; rw [List.drop_length, lcsS_nil']
theorem Ss_step (i k : Nat) (hi : i < a.length) (hk : k < b.length) : Ss a b i k = if a[i] = b[k] then pickS (pickS (Ss a b (i + 1) k) (Ss a b i (k + 1))) (a[i] :: Ss a b (i + 1) (k + 1)) else pickS (Ss a b (i + 1) k) (Ss a b i (k + 1)) := by
  unfold Ss
  rw [List.drop_eq_getElem_cons hi, List.drop_eq_getElem_cons hk, lcsS_cons]
theorem Ss_len (i k : Nat) : ((Ss a b i k).length : Int) = Ns a b i k := by
  unfold Ss Ns
  rw [(lcsS_all _ (a.drop i) (b.drop k) (Nat.le_refl _)).2.2.1]
theorem Ss_le (i k : Nat) (ha : a.length ≤ 20) : (Ss a b i k).length ≤ 20 := by
  have h1 := Ss_len (a := a) (b := b) i k
  have h2 := Ns_le (a := a) (b := b) i k ha
  omega
end
theorem most_eq (x y : Int) : spec_l1Most.f x y = some (max x y) := by
  unfold spec_l1Most.f; split <;> congr 1 <;> omega
/-! What strings.Compare says. -/
theorem cmp_lt : ∀ a b : List UInt8, Lib.compareBytes a b < 0 ↔ ltB a b = true
  | [], [] => by simp [Lib.compareBytes, ltB]
  | [], _ :: _ => by simp [Lib.compareBytes, ltB]
  | _ :: _, [] => by simp [Lib.compareBytes, ltB]
  | x :: a, y :: b => by
    unfold Lib.compareBytes ltB
    by_cases e : x = y
    · subst e
      have : ¬ x < x := fun h => u8_asymm h h
      rw [if_neg this, if_neg this, if_pos rfl]
      exact cmp_lt a b
    · rw [if_neg e]
      by_cases l : x < y
      · rw [if_pos l]; simp [l]
      · rw [if_neg l, if_pos (u8_lt_of e l)]; simp [l]
theorem common1_ev (s t : ByteArray) (hs : (bl s).length ≤ 1000) (ht : (bl t).length ≤ 1000) : ∃ c, impl_common_1.f s t = some c ∧ (c < 0 ↔ better (bl s) (bl t) = true) := by
  unfold impl_common_1.f strings_Compare.f
  have es : (s.size : Int) = ((bl s).length : Int) := rfl
  have et : (t.size : Int) = ((bl t).length : Int) := rfl
  unfold better
  by_cases e : (s.size : Int) = (t.size : Int)
  · rw [if_pos e]
    refine ⟨_, rfl, ?_⟩
    rw [show Lib.compareBytes s.data.toList t.data.toList = Lib.compareBytes (bl s) (bl t) from rfl, cmp_lt]
    have h1 : (bl s).length = (bl t).length := by omega
    simp [h1]
  · rw [if_neg e]
    refine ⟨_, rfl, ?_⟩
    rw [wrap_id (by omega) (by omega)]
    have h1 : ¬ (bl s).length = (bl t).length := by omega
    simp only [h1, decide_false, Bool.false_and, Bool.or_false, decide_eq_true_eq]
    omega
def pickB (m t : ByteArray) : ByteArray := if better (bl t) (bl m) = true then t else m
theorem pickB_bl (m t : ByteArray) : bl (pickB m t) = pickS (bl m) (bl t) := by unfold pickB pickS; split <;> rfl
theorem min_step {R : ByteArray} (l : List ByteArray) (m : ByteArray) (j : Nat) (hj : j < l.length) (hl : l.length ≤ 3) (h1 : (bl l[j]).length ≤ 1000) (h2 : (bl m).length ≤ 1000)
    (h : Ev (fun k => slices_MinFunc_string_string.l0 k l (fun z0_ z1_ => impl_common_1.f z0_ z1_) (pickB m l[j]) ((j + 1 : Nat) : Int)) R) : Ev (fun k => slices_MinFunc_string_string.l0 k l (fun z0_ z1_ => impl_common_1.f z0_ z1_) m (j : Int)) R := by
  obtain ⟨c, e1, e2⟩ := common1_ev l[j] m h1 h2
  have er : rdOf ByteArray.empty l (j : Int) = l[j] := by unfold rdOf; simp [List.getD, hj]
  apply Ev.succ
  simp only [slices_MinFunc_string_string.l0, er, e1]
  refine Ev.pos (by omega) (Ev.pos (by omega) (Ev.bindc rfl ?_))
  have ew : wrap64 ((j : Int) + 1) = ((j + 1 : Nat) : Int) := by rw [wrap_id (by omega) (by omega)]; omega
  rw [ew]
  unfold pickB at h
  by_cases hb : better (bl l[j]) (bl m) = true
  · rw [if_pos hb] at h
    exact Ev.pos (e2.2 hb) h
  · rw [if_neg hb] at h
    exact Ev.neg (fun x => hb (e2.1 x)) h
theorem min_end (l : List ByteArray) (m : ByteArray) (F : ByteArray → ByteArray → Option Int) : Ev (fun k => slices_MinFunc_string_string.l0 k l F m (l.length : Int)) m := by
  apply Ev.succ
  simp only [slices_MinFunc_string_string.l0]
  exact Ev.neg (by omega) (Ev.now _)
theorem min2_ev (x y : ByteArray) (hx : (bl x).length ≤ 1000) (hy : (bl y).length ≤ 1000) : Ev (fun k => slices_MinFunc_string_string.f k [x, y] (fun z0_ z1_ => impl_common_1.f z0_ z1_)) (pickB x y) := by
  unfold slices_MinFunc_string_string.f
  refine Ev.neg (by simp) (Ev.pos (by simp) ?_)
  exact min_step [x, y] x 1 (by simp) (by simp) hy hx (min_end [x, y] _ _)
theorem min3_ev (x y z : ByteArray) (hx : (bl x).length ≤ 1000) (hy : (bl y).length ≤ 1000) (hz : (bl z).length ≤ 1000) : Ev (fun k => slices_MinFunc_string_string.f k ([x, y] ++ [z]) (fun z0_ z1_ => impl_common_1.f z0_ z1_)) (pickB (pickB x y) z) := by
  unfold slices_MinFunc_string_string.f
  refine Ev.neg (by simp) (Ev.pos (by simp) ?_)
  refine min_step ([x, y] ++ [z]) x 1 (by simp) (by simp) hy hx ?_
  refine min_step ([x, y] ++ [z]) _ 2 (by simp) (by simp) hz ?_ (min_end ([x, y] ++ [z]) _ _)
  show (bl (pickB x y)).length ≤ 1000
  rw [pickB_bl, pickS_len]; omega
section
variable {F : Nat → Nat → Int} {n m : Nat}
theorem put1 {T : List (List Int)} {i k : Nat} {v : Int} (h : InvG id 0 F n m T i (k : Int)) (hi : i ≤ n) (hk : k ≤ m) (hv : v = F i k) : InvG id 0 F n m (T.set i ((rd_L1 T (i : Int)).set k v)) i ((k : Int) - 1) := by
  rw [rd1_get]; exact h.put hi hk hv
theorem any1 {T : List (List Int)} {i k : Nat} (v : Int) (h : InvG id 0 F n m T i (k : Int)) (hi : i ≤ n) (hk : k ≤ m) : InvG id 0 F n m (T.set i ((rd_L1 T (i : Int)).set k v)) i (k : Int) := by
  rw [rd1_get]; exact h.any v hi hk
theorem all1 {T : List (List Int)} {i k : Nat} (v : Int) (h : AllG 0 n m T) (hi : i < T.length) (hk : k < m) : AllG 0 n m (T.set i ((rd_L1 T (i : Int)).set k v)) := by
  rw [rd1_get]; exact h.put v hi hk
theorem set1_row (T : List (List Int)) (i k : Nat) (v : Int) (hi : i < T.length) (hk : k < (rd_L1 T (i : Int)).length) : rd (rd_L1 (T.set i ((rd_L1 T (i : Int)).set k v)) (i : Int)) (k : Int) = v := by
  rw [rdc1, cG_set _ _ _ _ hi, if_pos rfl, getD_setG _ _ _ _ hk, if_pos rfl]
end
section
variable {G : Nat → Nat → List UInt8} {n m : Nat}
theorem put4 {T : List (List ByteArray)} {i k : Nat} {v : ByteArray} (h : InvG bl ByteArray.empty G n m T i (k : Int)) (hi : i ≤ n) (hk : k ≤ m) (hv : bl v = G i k) : InvG bl ByteArray.empty G n m (T.set i ((rd_L4 T (i : Int)).set k v)) i ((k : Int) - 1) := by
  rw [rd4_get]; exact h.put hi hk hv
end
attribute [irreducible] Ns Ss
attribute [local irreducible] rd_L1 rd rd_L4 rdOf
section
variable (s t : ByteArray) (hs : (bl s).length ≤ 20) (ht : (bl t).length ≤ 20)
include hs ht
theorem bkCommon_l2 (i : Nat) (hi : i < (bl s).length) : ∀ (d : Nat) (T : List (List Int)), d ≤ (bl t).length → InvG id 0 (Ns (bl s) (bl t)) (bl s).length (bl t).length T i ((d : Int) - 1) → AllG 0 (bl s).length (bl t).length T →
    ∃ T', InvG id 0 (Ns (bl s) (bl t)) (bl s).length (bl t).length T' i (-1) ∧ AllG 0 (bl s).length (bl t).length T' ∧ ∀ R, Ev (fun k => spec_bkCommon.l1 k s t T' ((i : Int) - 1)) R → Ev (fun k => spec_bkCommon.l2 k s t T i ((d : Int) - 1)) R
  | 0, T, hd, h, ha => ⟨T, by simpa using h, ha, fun R hR => by
    apply Ev.succ
    simp only [spec_bkCommon.l2]
    refine Ev.neg (by omega) ?_
    rw [wrap_id (by omega) (by omega)]
    exact hR⟩
  | d + 1, T, hd, h, ha => by
    rw [show (((d + 1 : Nat) : Int) - 1) = (d : Int) by omega] at h ⊢
    have hT : i < T.length := by rw [h.1.1]; omega
    have hli : Aside0 (((rd_L1 T (i : Int)).length : Int) = ((bl t).length : Int) + 1) := ⟨by have h_ := (ha i (by omega)).1; unfold lG at h_; rw [rd1_get, h_]; clear h_; omega⟩
    have hlj : Aside0 (((rd_L1 T ((i + 1 : Nat) : Int)).length : Int) = ((bl t).length : Int) + 1) := ⟨by have h_ := (ha (i + 1) (by omega)).1; unfold lG at h_; rw [rd1_get, h_]; clear h_; omega⟩
    have hlT : (T.length : Int) = ((bl s).length : Int) + 1 := by rw [h.1.1]; omega
    have es : (s.size : Int) = ((bl s).length : Int) := rfl
    have et : (t.size : Int) = ((bl t).length : Int) := rfl
    have ew : wrap64 ((d : Int) - 1) = (d : Int) - 1 := wrap_id (by omega) (by omega)
    have hd' : d < (bl t).length := by omega
    have e1 : wrap64 ((i : Int) + 1) = ((i + 1 : Nat) : Int) := by rw [wrap_id (by omega) (by omega)]; omega
    have e2 : wrap64 ((d : Int) + 1) = ((d + 1 : Nat) : Int) := by rw [wrap_id (by omega) (by omega)]; omega
    have v1 : Aside0 (rd (rd_L1 T ((i + 1 : Nat) : Int)) (d : Int) = Ns (bl s) (bl t) (i + 1) d) := ⟨(rdc1 T (i + 1) d).trans ((h.1.2 (i + 1) (Nat.le_refl _) hi).2 d (Nat.le_of_lt hd'))⟩
    have v3 : Aside0 (rd (rd_L1 T (i : Int)) ((d + 1 : Nat) : Int) = Ns (bl s) (bl t) i (d + 1)) := ⟨(rdc1 T i (d + 1)).trans (h.2.2 (d + 1) (Int.ofNat_lt.2 (Nat.lt_succ_self d)) hd')⟩
    have ll := Ns_step (a := bl s) (b := bl t) i d hi hd'
    have b1 := Ns_nn (a := bl s) (b := bl t) (i + 1) d
    have b2 := Ns_nn (a := bl s) (b := bl t) (i + 1) (d + 1)
    have b3 := Ns_nn (a := bl s) (b := bl t) i (d + 1)
    have g1 := Ns_le (a := bl s) (b := bl t) (i + 1) d hs
    have g2 := Ns_le (a := bl s) (b := bl t) (i + 1) (d + 1) hs
    have g3 := Ns_le (a := bl s) (b := bl t) i (d + 1) hs
    by_cases ce : (bl s)[i] = (bl t)[d]
    · rw [if_pos ce] at ll
      obtain ⟨w, hw⟩ : ∃ w, w = max (Ns (bl s) (bl t) (i + 1) d) (Ns (bl s) (bl t) i (d + 1)) := ⟨_, rfl⟩
      obtain ⟨Y, hY⟩ : ∃ Y, Y = T.set i ((rd_L1 T (i : Int)).set d w) := ⟨_, rfl⟩
      have hY1 : InvG id 0 (Ns (bl s) (bl t)) (bl s).length (bl t).length Y i (d : Int) := by rw [hY]; exact any1 w h (by omega) (by omega)
      have hY2 : AllG 0 (bl s).length (bl t).length Y := by rw [hY]; exact all1 w ha hT hd'
      have hYT : i < Y.length := by rw [hY, List.length_set]; exact hT
      have hYi : Aside0 (((rd_L1 Y (i : Int)).length : Int) = ((bl t).length : Int) + 1) := ⟨by have h_ := (hY2 i (by omega)).1; unfold lG at h_; rw [rd1_get, h_]; clear h_; omega⟩
      have hYj : Aside0 (((rd_L1 Y ((i + 1 : Nat) : Int)).length : Int) = ((bl t).length : Int) + 1) := ⟨by have h_ := (hY2 (i + 1) (by omega)).1; unfold lG at h_; rw [rd1_get, h_]; clear h_; omega⟩
      have hdN : d < (rd_L1 T (i : Int)).length := by have h_ := (ha i (by omega)).1; unfold lG at h_; rw [rd1_get, h_]; clear h_; omega
      have u1 : Aside0 (rd (rd_L1 Y (i : Int)) (d : Int) = w) := ⟨by rw [hY]; exact set1_row T i d w hT hdN⟩
      have u2 : Aside0 (rd (rd_L1 Y ((i + 1 : Nat) : Int)) ((d + 1 : Nat) : Int) = Ns (bl s) (bl t) (i + 1) (d + 1)) := ⟨(rdc1 Y (i + 1) (d + 1)).trans ((hY1.1.2 (i + 1) (Nat.le_refl _) hi).2 (d + 1) hd')⟩
      have ev : max w (wrap64 (Ns (bl s) (bl t) (i + 1) (d + 1) + 1)) = Ns (bl s) (bl t) i d := by rw [wrap_id (by omega) (by omega), ll, hw]
      obtain ⟨T', h1, h2, h3⟩ := bkCommon_l2 i hi d _ (by omega) (put1 hY1 (by omega) (by omega) ev) (all1 _ hY2 hYT hd')
      refine ⟨T', h1, h2, fun R hR => ?_⟩
      have go := h3 R hR
      clear h h1 h2 h3 hY1 hY2 hR ev
      apply Ev.succ
      simp only [spec_bkCommon.l2, e1, e2, v1.out, v3.out, hli.out, hlj.out, hlT, most_eq, Int.toNat_natCast, ← hw]
      clear v1 v3 hli hlj hlT hw ll hdN
      refine Ev.pos (by omega) (Ev.pos (by omega) (Ev.pos (by omega) (Ev.pos (by omega) (Ev.pos (by omega) (Ev.pos (by omega) (Ev.pos (by omega) (Ev.pos (by omega) (Ev.pos (by omega) (Ev.bindc rfl (Ev.pos (by omega) (Ev.bindc (congrArg some hY.symm) ?_)))))))))))
      simp only [hYi.out, hYj.out, u1.out, u2.out]
      clear hY hYi hYj u1 u2
      refine Ev.pos (by omega) (Ev.pos (by omega) ?_)
      rw [bt_nat s i hi, bt_nat t d hd']
      refine Ev.pos ((byte_eq _ _).2 ce) (Ev.pos (by omega) (Ev.pos (by omega) (Ev.bindc rfl ?_)))
      rw [ew]
      exact go
    · rw [if_neg ce] at ll
      obtain ⟨T', h1, h2, h3⟩ := bkCommon_l2 i hi d _ (by omega) (put1 h (by omega) (by omega) ll.symm) (all1 _ ha hT hd')
      refine ⟨T', h1, h2, fun R hR => ?_⟩
      have go := h3 R hR
      clear h h1 h2 h3 hR
      apply Ev.succ
      simp only [spec_bkCommon.l2, e1, e2, v1.out, v3.out, hli.out, hlj.out, hlT, most_eq, Int.toNat_natCast]
      clear v1 v3 hli hlj hlT ll
      refine Ev.pos (by omega) (Ev.pos (by omega) (Ev.pos (by omega) (Ev.pos (by omega) (Ev.pos (by omega) (Ev.pos (by omega) (Ev.pos (by omega) (Ev.pos (by omega) (Ev.pos (by omega) (Ev.bindc rfl (Ev.pos (by omega) (Ev.bindc rfl (Ev.pos (by omega) (Ev.pos (by omega) ?_)))))))))))))
      rw [bt_nat s i hi, bt_nat t d hd']
      refine Ev.neg (fun x => ce ((byte_eq _ _).1 x)) ?_
      rw [ew]
      exact go
theorem bkCommon_l1 : ∀ (j : Nat) (T : List (List Int)), j ≤ (bl s).length → DoneG id 0 (Ns (bl s) (bl t)) (bl s).length (bl t).length T j → AllG 0 (bl s).length (bl t).length T → ∃ T', DoneG id 0 (Ns (bl s) (bl t)) (bl s).length (bl t).length T' 0 ∧ Ev (fun k => spec_bkCommon.l1 k s t T ((j : Int) - 1)) T'
  | 0, T, hj, h, ha => ⟨T, h, by
    apply Ev.succ
    simp only [spec_bkCommon.l1]
    exact Ev.neg (by omega) (Ev.now _)⟩
  | j + 1, T, hj, h, ha => by
    have hlT : (T.length : Int) = ((bl s).length : Int) + 1 := by rw [h.1]; omega
    have et : (t.size : Int) = ((bl t).length : Int) := rfl
    obtain ⟨T1, h1, h2, h3⟩ := bkCommon_l2 s t hs ht j (by omega) (bl t).length T (Nat.le_refl _) (InvG.start h (ha j (by omega)).1 (by rw [(ha j (by omega)).2, Ns_m]; rfl)) ha
    obtain ⟨T', h4, h5⟩ := bkCommon_l1 j T1 (by omega) (h1.done (by omega)) h2
    refine ⟨T', h4, ?_⟩
    have go := h3 T' h5
    rw [show (((j + 1 : Nat) : Int) - 1) = (j : Int) by omega]
    apply Ev.succ
    simp only [spec_bkCommon.l1]
    refine Ev.pos (by omega) (Ev.pos (by omega) (Ev.pos (by omega) ?_))
    rw [wrap_id (by omega) (by omega)]
    exact go
theorem bkCommon_l0 (R : List (List Int)) (hR : Ev (fun k => spec_bkCommon.l1 k s t (List.replicate ((bl s).length + 1) (List.replicate ((bl t).length + 1) 0)) (((bl s).length : Int) - 1)) R) : ∀ (d i : Nat), i + d = (bl s).length + 1 → Ev (fun k => spec_bkCommon.l0 k s t (List.replicate i (List.replicate ((bl t).length + 1) 0)) i) R
  | 0, i, hi => by
    have es : (s.size : Int) = ((bl s).length : Int) := rfl
    apply Ev.succ
    simp only [spec_bkCommon.l0]
    refine Ev.neg (by omega) ?_
    rw [show i = (bl s).length + 1 by omega, wrap_id (by omega) (by omega)]
    exact hR
  | d + 1, i, hi => by
    have es : (s.size : Int) = ((bl s).length : Int) := rfl
    have et : (t.size : Int) = ((bl t).length : Int) := rfl
    have e1 : wrap64 ((t.size : Int) + 1) = (((bl t).length + 1 : Nat) : Int) := by rw [wrap_id (by omega) (by omega)]; omega
    have e2 : wrap64 ((i : Int) + 1) = ((i + 1 : Nat) : Int) := by rw [wrap_id (by omega) (by omega)]; omega
    apply Ev.succ
    simp only [spec_bkCommon.l0, e1, e2, Int.toNat_natCast, List.length_replicate]
    refine Ev.pos (by omega) (Ev.pos (by omega) (Ev.pos (by omega) (Ev.pos (by omega) ?_)))
    rw [← List.replicate_succ']
    exact bkCommon_l0 R hR d (i + 1) (by omega)
theorem bkCommon_ev : ∃ T, DoneG id 0 (Ns (bl s) (bl t)) (bl s).length (bl t).length T 0 ∧ Ev (fun k => spec_bkCommon.f k s t) T := by
  have hl : AllG (0 : Int) (bl s).length (bl t).length (List.replicate ((bl s).length + 1) (List.replicate ((bl t).length + 1) (0 : Int))) := by
    intro r hr
    exact ⟨by rw [lG_rep _ _ _ (by omega), List.length_replicate], cG_rep _ _ _ _ _ (by omega)⟩
  obtain ⟨T, h1, h2⟩ := bkCommon_l1 s t hs ht (bl s).length _ (Nat.le_refl _) ⟨List.length_replicate, fun r h1 h2 => ⟨(hl r h2).1, fun c hc => by
    obtain rfl : r = (bl s).length := by omega
    rw [cG_rep _ _ _ _ _ (by omega), Ns_n]; rfl⟩⟩ hl
  exact ⟨T, h1, bkCommon_l0 s t hs ht T h2 ((bl s).length + 1) 0 (by omega)⟩
end
end Go.Proofs.YtamhlbdjjfdbiaaDoor

