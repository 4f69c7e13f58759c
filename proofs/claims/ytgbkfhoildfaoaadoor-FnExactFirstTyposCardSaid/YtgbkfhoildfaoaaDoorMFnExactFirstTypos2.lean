/- Part 2 of 3 of the proof of: FnExactFirstTyposCardSaid: the law 'FnExactFirstTypos' answers true for every input, and leaves its arguments as they were. The row and its tied card, over the walk of its calls and the pure statement. -/
import Derived.Test.YtgbkfhoildfaoaaDoorMFnExactFirstTypos1
import Derived.Test.YtgbkfhoildfaoaaDoorWWords
import Derived.Test.YtgbkfhoildfaoaaDoorWMore
import Derived.Laws.Strings
import Derived.Lib.SlTrimSet
import Derived.Lib.Bytealg
-- printed by xprint.py
namespace Go.Proofs.YtgbkfhoildfaoaaDoor.P
open Go.RowKit Go.Proofs.YtgbkfhoildfaoaaDoorW.PrintWords Go.Proofs.YtgbkfhoildfaoaaDoorW.PrintLast Go.Proofs.YtgbkfhoildfaoaaDoorW.PrintMore
attribute [local go_sem] max2_int min2_int max_two min_two max_three min_three max_four min_four   -- for this text's walks alone
set_option linter.unusedVariables false
set_option linter.unusedSimpArgs false

/-! ### spec_bkTable: function 33 -/
mutual
def spec_bkTable.l0 : Nat → ByteArray → ByteArray → List (List Int) → Int → Option ((List (List Int)))
 | 0, _, _, _, _ => none
 | k + 1, x0, x1, x5, x6 => if x6 ≤ (x0.size : Int) then (if 0 ≤ (wrap64 ((x1.size : Int) + 1)) then (if (wrap64 ((x1.size : Int) + 1) : Int).toNat ≤ 35184372088832 then (if x5.length < 5864062014805 then (spec_bkTable.l0 k x0 x1 (x5 ++ [(List.replicate (wrap64 ((x1.size : Int) + 1) : Int).toNat 0)]) (wrap64 (x6 + 1))) else (none)) else (none)) else (none)) else (spec_bkTable.l1 k x0 x1 x5 (x0.size : Int))
def spec_bkTable.l1 : Nat → ByteArray → ByteArray → List (List Int) → Int → Option ((List (List Int)))
 | 0, _, _, _, _ => none
 | k + 1, x0, x1, x5, x7 => if x7 ≥ 0 then (if 0 ≤ x7 then (if x7 < (x5.length : Int) then (spec_bkTable.l2 k x0 x1 x5 x7 (x1.size : Int)) else (none)) else (none)) else (some x5)
def spec_bkTable.l2 : Nat → ByteArray → ByteArray → List (List Int) → Int → Int → Option ((List (List Int)))
 | 0, _, _, _, _, _ => none
 | k + 1, x0, x1, x5, x7, x9 => if x9 ≥ 0 then (if x7 = (x0.size : Int) then (if 0 ≤ x7 then (if x7 < (x5.length : Int) then (if 0 ≤ x9 then (if x9 < ((rd_L1 x5 x7).length : Int) then (spec_bkTable.l2 k x0 x1 (x5.set (x7 : Int).toNat ((rd_L1 x5 x7).set (x9 : Int).toNat (wrap64 ((x1.size : Int) - x9)))) x7 (wrap64 (x9 - 1))) else (none)) else (none)) else (none)) else (none)) else (if x9 = (x1.size : Int) then (if 0 ≤ x7 then (if x7 < (x5.length : Int) then (if 0 ≤ x9 then (if x9 < ((rd_L1 x5 x7).length : Int) then (spec_bkTable.l2 k x0 x1 (x5.set (x7 : Int).toNat ((rd_L1 x5 x7).set (x9 : Int).toNat (wrap64 ((x0.size : Int) - x7)))) x7 (wrap64 (x9 - 1))) else (none)) else (none)) else (none)) else (none)) else (if 0 ≤ (wrap64 (x7 + 1)) then (if (wrap64 (x7 + 1)) < (x5.length : Int) then (if 0 ≤ x9 then (if x9 < ((rd_L1 x5 (wrap64 (x7 + 1))).length : Int) then (if 0 ≤ x7 then (if x7 < (x5.length : Int) then (if 0 ≤ (wrap64 (x9 + 1)) then (if (wrap64 (x9 + 1)) < ((rd_L1 x5 x7).length : Int) then ((spec_l1Least.f (rd (rd_L1 x5 (wrap64 (x7 + 1))) x9) (rd (rd_L1 x5 x7) (wrap64 (x9 + 1)))).bind fun t120 => (if x7 < (x0.size : Int) then (if x9 < (x1.size : Int) then (if (bt x0 x7) = (bt x1 x9) then (if (wrap64 (x9 + 1)) < ((rd_L1 x5 (wrap64 (x7 + 1))).length : Int) then ((spec_l1Least.f (wrap64 (t120 + 1)) (wrap64 ((rd (rd_L1 x5 (wrap64 (x7 + 1))) (wrap64 (x9 + 1))) + 0))).bind fun t124 => (if x9 < ((rd_L1 x5 x7).length : Int) then (spec_bkTable.l2 k x0 x1 (x5.set (x7 : Int).toNat ((rd_L1 x5 x7).set (x9 : Int).toNat t124)) x7 (wrap64 (x9 - 1))) else (none))) else (none)) else (if (wrap64 (x9 + 1)) < ((rd_L1 x5 (wrap64 (x7 + 1))).length : Int) then ((spec_l1Least.f (wrap64 (t120 + 1)) (wrap64 ((rd (rd_L1 x5 (wrap64 (x7 + 1))) (wrap64 (x9 + 1))) + 1))).bind fun t131 => (if x9 < ((rd_L1 x5 x7).length : Int) then (spec_bkTable.l2 k x0 x1 (x5.set (x7 : Int).toNat ((rd_L1 x5 x7).set (x9 : Int).toNat t131)) x7 (wrap64 (x9 - 1))) else (none))) else (none))) else (none)) else (none))) else (none)) else (none)) else (none)) else (none)) else (none)) else (none)) else (none)) else (none)))) else (spec_bkTable.l1 k x0 x1 x5 (wrap64 (x7 - 1)))
end
def spec_bkTable.f (k : Nat) (a0 : ByteArray) (a1 : ByteArray) : Option ((List (List Int))) := spec_bkTable.l0 k a0 a1 ([] : List (List Int)) 0
theorem spec_bkTable.mono_l : ∀ k, (∀ y0 y1 y2 y3, LeO (spec_bkTable.l0 k y0 y1 y2 y3) (spec_bkTable.l0 (k + 1) y0 y1 y2 y3)) ∧ (∀ y0 y1 y2 y3, LeO (spec_bkTable.l1 k y0 y1 y2 y3) (spec_bkTable.l1 (k + 1) y0 y1 y2 y3)) ∧ (∀ y0 y1 y2 y3 y4, LeO (spec_bkTable.l2 k y0 y1 y2 y3 y4) (spec_bkTable.l2 (k + 1) y0 y1 y2 y3 y4))
 | 0 => ⟨by intros; intro r h; simp [spec_bkTable.l0] at h, by intros; intro r h; simp [spec_bkTable.l1] at h, by intros; intro r h; simp [spec_bkTable.l2] at h⟩
 | k + 1 => by
  obtain ⟨ih0, ih1, ih2⟩ := spec_bkTable.mono_l k
  refine ⟨?_, ?_, ?_⟩
  ·
   intro y0 y1 y2 y3
   unfold spec_bkTable.l0
   repeat' first
   | (with_reducible exact ih0 _ _ _ _)
   | (with_reducible exact ih1 _ _ _ _)
   | (with_reducible exact ih2 _ _ _ _ _)
   | (with_reducible exact LeO.refl _)
   | (with_reducible exact LeO.none _)
   | (with_reducible refine LeO.ite ?_ ?_)
   | (with_reducible refine LeO.bind ?_ (fun _ => ?_))
   | exact ih0 _ _ _ _
   | exact ih1 _ _ _ _
   | exact ih2 _ _ _ _ _
   | exact LeO.none _
   | refine LeO.ite ?_ ?_
   | refine LeO.bind ?_ (fun _ => ?_)
  ·
   intro y0 y1 y2 y3
   unfold spec_bkTable.l1
   repeat' first
   | (with_reducible exact ih0 _ _ _ _)
   | (with_reducible exact ih1 _ _ _ _)
   | (with_reducible exact ih2 _ _ _ _ _)
   | (with_reducible exact LeO.refl _)
   | (with_reducible exact LeO.none _)
   | (with_reducible refine LeO.ite ?_ ?_)
   | (with_reducible refine LeO.bind ?_ (fun _ => ?_))
   | exact ih0 _ _ _ _
   | exact ih1 _ _ _ _
   | exact ih2 _ _ _ _ _
   | exact LeO.none _
   | refine LeO.ite ?_ ?_
   | refine LeO.bind ?_ (fun _ => ?_)
  ·
   intro y0 y1 y2 y3 y4
   unfold spec_bkTable.l2
   repeat' first
   | (with_reducible exact ih0 _ _ _ _)
   | (with_reducible exact ih1 _ _ _ _)
   | (with_reducible exact ih2 _ _ _ _ _)
   | (with_reducible exact LeO.refl _)
   | (with_reducible exact LeO.none _)
   | (with_reducible refine LeO.ite ?_ ?_)
   | (with_reducible refine LeO.bind ?_ (fun _ => ?_))
   | exact ih0 _ _ _ _
   | exact ih1 _ _ _ _
   | exact ih2 _ _ _ _ _
   | exact LeO.none _
   | refine LeO.ite ?_ ?_
   | refine LeO.bind ?_ (fun _ => ?_)
theorem spec_bkTable.mono : ∀ y0 y1 k, LeO (spec_bkTable.f k y0 y1) (spec_bkTable.f (k + 1) y0 y1) := by
 intro y0 y1 k
 obtain ⟨ih0, ih1, ih2⟩ := spec_bkTable.mono_l k
 unfold spec_bkTable.f
 repeat' first
   | (with_reducible exact ih0 _ _ _ _)
   | (with_reducible exact ih1 _ _ _ _)
   | (with_reducible exact ih2 _ _ _ _ _)
   | (with_reducible exact LeO.refl _)
   | (with_reducible exact LeO.none _)
   | (with_reducible refine LeO.ite ?_ ?_)
   | (with_reducible refine LeO.bind ?_ (fun _ => ?_))
   | exact ih0 _ _ _ _
   | exact ih1 _ _ _ _
   | exact ih2 _ _ _ _ _
   | exact LeO.none _
   | refine LeO.ite ?_ ?_
   | refine LeO.bind ?_ (fun _ => ?_)
theorem spec_bkTable_alkeep {W w1 : World} {a : Addr} {v : Value} {g : Nat} (hg : W.grownBy w1 (some g)) (hne : a.block ≠ g) (h : W.cell? a = some v) : w1.cell? a = some v := by
 have hb := hg.block a.block (World.block_lt_of_cell? W _ h) (by simpa using hne)
 unfold World.cell? at h ⊢
 rw [hb]; exact h
theorem spec_bkTable_alfr {w w' : World} {m : Nat} {a : Addr} {b : Bool} (hq : w.drewN m = w') (h : w.frozen? a = b) : w'.frozen? a = b := by subst hq; exact h
theorem spec_bkTable_alne {ad : Addr} {n cap g j : Nat} (h : some g ≠ (Value.slice (some ad) n cap).ownBlock) : (ad.add j).block ≠ g := by
 intro e
 apply h
 rw [add_block] at e
 simp [Value.ownBlock, e]
theorem spec_bkTable_alst {W : World} {base : Nat} {ad : Addr} {n cap : Nat} {xs : List (List Int)} {i : Int} {g c : Nat} {k x : Int} (h : Kd.S (Kd.slice 3 (Kd.int .i64)) 41 W base (fun _ => True) (.slice (some ad) n cap) xs) (h0 : 0 ≤ i) (h1 : i < n) (hc : W.cell? (ad.add i.toNat) = some (.slice (some ⟨g, 0, none⟩) (rd_L1 xs i).length c)) :
  Kd.S (Kd.slice 3 (Kd.int .i64)) 41 (W.setCell ⟨g, k.toNat, none⟩ (.int .i64 x)) base (fun _ => True) (.slice (some ad) n cap) (xs.set i.toNat ((rd_L1 xs i).set k.toNat x)) ∧ (W.setCell ⟨g, k.toNat, none⟩ (.int .i64 x)).cell? (ad.add i.toNat) = some (.slice (some ⟨g, 0, none⟩) (rd_L1 xs i).length c) ∧ base ≤ g := by
 obtain ⟨oki, c_, hcl, hM, hcc, hok, hbk⟩ := Kd.S_borrow h [] i h0 h1
 obtain ⟨ve, rfl, ge⟩ := hM
 have hv := hcc 0 _ rfl
 rw [Nat.add_zero, show ((Kd.slice 3 (Kd.int .i64))).sz = 1 from rfl, Nat.mul_one] at hv
 replace hv := Option.some.inj (hv.symm.trans hc)
 subst hv
 replace ge := (show Kd.R (Kd.int .i64) 3 _ _ _ _ (rd_L1 xs i) from ge)
 have HP := Kd.R_putg ge k x
 exact ⟨hbk HP.2 (fun k_ e_ => by injection e_ with e_; subst e_; exact ge.1 _ rfl) (Kd.M_row HP.1), spec_bkTable_alkeep HP.2 (spec_bkTable_alne (hok _ (ge.1 _ rfl)).2) hc, Kd.R_base ge _ rfl⟩
set_option maxHeartbeats 8000000 in
set_option maxRecDepth 100000 in
theorem spec_bkTable.calls (k : Nat) (a0 : ByteArray) (a1 : ByteArray) (r : List (List Int)) (w : World) (h : spec_bkTable.f k a0 a1 = some r) :
  Calls Tryd.prog 33 #[.string a0, .string a1] w fun e w' => ∃ v0_ : Value, e = .returned (v0_) ∧ Kd.S (Kd.slice 3 (Kd.int .i64)) 41 w' w.heap.size (fun _ => True) v0_ r ∧ Below w.heap.size w w' := by
 have HB := Aside0.mk (Below.refl w.heap.size w)
 have H : (spec_bkTable.l0 k a0 a1 ([] : List (List Int)) 0) = some r := h
 clear h
 have H' := Aside0.mk H
 clear H
 go_enter Tryd.func33, Tryd.ntmps33
 go_wp2
 repeat (go_quiet (fail); try go_wp2)
 go_loopg [5, 6] k (fun kq v5 v6 w' => ∃ (x5_1 : List (List Int)) (x6_1 : Int), v6 = .int .i64 x6_1 ∧ Aside0 (spec_bkTable.l0 kq a0 a1 x5_1 x6_1 = some r) ∧ Aside0 (kq ≤ k) ∧ Aside0 (Kd.S (Kd.slice 3 (Kd.int .i64)) 41 w' w.heap.size (fun _ => True) v5 x5_1) ∧ Aside0 (Below w.heap.size w w'))
 case atStart => exact ⟨(([] : List (List Int))), (0), (by first | rfl | (simp; done) | (simp [*]; done)), H', ⟨Nat.le_refl _⟩, ⟨by first | exact Kd.S_nil _ _ _ _ _ | exact Kd.N_nil _ _ _ _ _ | exact Kd.V_nil _ _ _ _ _ | exact Kd.Q_nil _ _ _ _ _ | exact Kd.R_nil _ _ _ _ _⟩, ⟨by repeat (first | (with_reducible first | exact HB.out | apply below_alloc | apply pw_below_drewN | apply below_drew1) | exact HB.out)⟩⟩
 case round =>
  clear H'
  try clear p2
  obtain ⟨x5_1, x6_1, rfl, HA, HK1, HO_5, HB⟩ := hrel
  cases gk with
  | zero => exact absurd HA.out (by simp [spec_bkTable.l0])
  | succ k1 =>
   have H := HA.out
   clear HA
   simp only [spec_bkTable.l0] at H
   by_cases c3 : x6_1 ≤ (a0.size : Int)
   ·
    rw [if_pos c3] at H
    have c3b0 : decide (x6_1 ≤ (a0.size : Int)) = true := decide_eq_true c3
    clear c3
    obtain ⟨ji4, hji4⟩ : ∃ j_ : Int, (wrap64 ((a1.size : Int) + 1)) = j_ := ⟨_, rfl⟩
    replace H : (if 0 ≤ (ji4) then (if (ji4 : Int).toNat ≤ 35184372088832 then (if x5_1.length < 5864062014805 then (spec_bkTable.l0 k1 a0 a1 (x5_1 ++ [(List.replicate (ji4 : Int).toNat 0)]) (wrap64 (x6_1 + 1))) else (none)) else (none)) else (none)) = some r := by first | (rw [hji4] at H; exact H) | (simp only [hji4] at H ⊢; exact H)
    have hji4w : (IntKind.i64.wrap ((a1.size : Int) + 1)) = ji4 := (i64_w _).trans hji4
    by_cases c5 : 0 ≤ (ji4)
    ·
     rw [if_pos c5] at H
     have c5b0 := eq_true c5
     have c5b1 : decide (0 ≤ (ji4)) = true := decide_eq_true c5
     clear c5
     by_cases c6 : (ji4 : Int).toNat ≤ 35184372088832
     ·
      rw [if_pos c6] at H
      have c6b0 := eq_true c6
      have c6b1 : decide ((ji4 : Int).toNat ≤ 35184372088832) = true := decide_eq_true c6
      clear c6
      obtain ⟨y101, hy101⟩ : ∃ y_ : List Int, y_ = (List.replicate (ji4 : Int).toNat 0) := ⟨_, rfl⟩
      replace H : (if x5_1.length < 5864062014805 then (spec_bkTable.l0 k1 a0 a1 (x5_1 ++ [y101]) (wrap64 (x6_1 + 1))) else (none)) = some r := by first | (rw [hy101]; with_reducible exact H) | (have H2_ := (Option.bind_some _ _).symm.trans H; rw [hy101]; with_reducible exact H2_) | (have H2_ := (Option.bind_some _ _).symm.trans H; with_reducible exact H2_) | with_reducible exact H | (rw [hy101]; exact H) | exact H
      have Ny101 := Aside0.mk hy101
      clear hy101
      by_cases c7 : x5_1.length < 5864062014805
      ·
       rw [if_pos c7] at H
       have LMc7 := Aside0.mk c7
       clear c7
       obtain ⟨y104, hy104⟩ : ∃ y_ : List (List Int), y_ = (x5_1 ++ [y101]) := ⟨_, rfl⟩
       replace H : (spec_bkTable.l0 k1 a0 a1 y104 (wrap64 (x6_1 + 1))) = some r := by first | (rw [hy104]; with_reducible exact H) | (have H2_ := (Option.bind_some _ _).symm.trans H; rw [hy104]; with_reducible exact H2_) | (have H2_ := (Option.bind_some _ _).symm.trans H; with_reducible exact H2_) | with_reducible exact H | (rw [hy104]; exact H) | exact H
       have Ny104 := Aside0.mk hy104
       clear hy104
       have H' := Aside0.mk H
       clear H
       go_wp2_with (first | ((with_reducible refine gate_dst (N := 22) rfl ?_); refine Kd.R_make (Kd.int .i64) _ 3 rfl (N := 22) rfl 41 _ _ rfl ji4 rfl rfl Tryd.underlying41 (.int .i64 0) 8 info3 rfl (by decide) (by omega) 0 (ok := fun _ => True) (okp := fun _ => True) rfl (fun _ hk => hk) trivial (of_decide_eq_true (by first | (with_reducible assumption) | assumption)) (Nat.le_trans (Nat.mul_le_mul_right _ (of_decide_eq_true (by first | (with_reducible assumption) | assumption) : ji4.toNat ≤ 35184372088832)) (by omega)) (Below.refl _ _) (Nat.le_refl _) ?_; intro v102 w8 ho9 hb hg_ hnew_; clear hg_ hnew_; (first | rw [← Ny101.out] at ho9 | (simp only [Int.reduceToNat] at ho9; rw [← Ny101.out] at ho9)); have n0_ := Aside0.mk (Kd.S_elder' (by (with_reducible repeat (first | apply Kd.S_alloc | apply Kd.S_drewN | apply Kd.S_drew)); exact HO_5.out) (Kd.R_base ho9) hb); have n1_ := Aside0.mk (Kd.R_lower ho9 (below_size (by repeat (first | (with_reducible first | exact HB.out | apply below_alloc | apply pw_below_drewN | apply below_drew1) | exact HB.out)))); have n2_ := Aside0.mk (below_step (by repeat (first | (with_reducible first | exact HB.out | apply below_alloc | apply pw_below_drewN | apply below_drew1) | exact HB.out)) hb); clear HO_5; clear HB; have HO_5 := n0_; have HO103 := n1_; have HB := n2_; clear n0_ n1_ n2_; clear hb ho9; obtain ⟨Ao11, co11, eo11⟩ := Kd.R_slice HO103.out; subst eo11) | ((with_reducible refine gate_builtin (b := .append) (xs := #[.tmp 18, .tmp 23]) rfl ?_); at_builtin; refine Kd.S_append (Kd.slice 3 (Kd.int .i64)) (w0 := w) w.heap.size rfl (.tmp 18) (.tmp 23) 42 41 (.slice none 0 0) 24 rfl Tryd.underlying42 info41 rfl (by decide) (by omega) u5 x5_1 y101 [.slice Ao11 y101.length co11] (fun _ => True) (fun k_ => some k_ = (.slice Ao11 y101.length co11 : Value).ownBlock) rfl rfl ?aP (fun k_ hk_ => ((Kd.R_mono (ok' := fun k_ => ((fun _ => True)) k_ ∧ some k_ ≠ (u5 : Value).ownBlock) (Kd.R_apart' (HO103.out) (Kd.S_typed HO_5.out) (by decide)) (fun k_ hk => ⟨trivial, hk.2⟩))).1 k_ hk_.symm) ?aF ?aO ?aB ?aS ?aL ?_; (case aP => exact Kd.M_row (Kd.R_mono (Kd.R_tight rfl (Kd.R_mono (ok' := fun k_ => ((fun _ => True)) k_ ∧ some k_ ≠ (u5 : Value).ownBlock) (Kd.R_apart' (HO103.out) (Kd.S_typed HO_5.out) (by decide)) (fun k_ hk => ⟨trivial, hk.2⟩))) (fun _ h_ => h_))); (case aB => exact (by repeat (first | (with_reducible first | exact HB.out | apply below_alloc | apply pw_below_drewN | apply below_drew1) | exact HB.out))); (case aF => exact (fun _ _ => trivial)); (case aO => exact (by (with_reducible repeat (first | apply Kd.S_alloc | apply Kd.S_drewN | apply Kd.S_drew)); exact Kd.S_mono HO_5.out (fun k_ hk => ⟨trivial, fun e_ => hk.2 e_⟩))); (case aS => exact (below_size (by repeat (first | (with_reducible first | exact HB.out | apply below_alloc | apply pw_below_drewN | apply below_drew1) | exact HB.out)))); (case aL => have := LMc7.out; omega); intro v105 w10 ho hb hg hat; rw [← Ny104.out] at ho; have n0_ := Aside0.mk (hb); have n1_ := Aside0.mk (ho); clear HB; clear HO_5; clear HO103; have HB := n0_; have HO106 := n1_; clear n0_ n1_; clear ho hb hg hat))
       repeat (go_quiet (first | ((with_reducible refine gate_dst (N := 22) rfl ?_); refine Kd.R_make (Kd.int .i64) _ 3 rfl (N := 22) rfl 41 _ _ rfl ji4 rfl rfl Tryd.underlying41 (.int .i64 0) 8 info3 rfl (by decide) (by omega) 0 (ok := fun _ => True) (okp := fun _ => True) rfl (fun _ hk => hk) trivial (of_decide_eq_true (by first | (with_reducible assumption) | assumption)) (Nat.le_trans (Nat.mul_le_mul_right _ (of_decide_eq_true (by first | (with_reducible assumption) | assumption) : ji4.toNat ≤ 35184372088832)) (by omega)) (Below.refl _ _) (Nat.le_refl _) ?_; intro v102 w8 ho9 hb hg_ hnew_; clear hg_ hnew_; (first | rw [← Ny101.out] at ho9 | (simp only [Int.reduceToNat] at ho9; rw [← Ny101.out] at ho9)); have n0_ := Aside0.mk (Kd.S_elder' (by (with_reducible repeat (first | apply Kd.S_alloc | apply Kd.S_drewN | apply Kd.S_drew)); exact HO_5.out) (Kd.R_base ho9) hb); have n1_ := Aside0.mk (Kd.R_lower ho9 (below_size (by repeat (first | (with_reducible first | exact HB.out | apply below_alloc | apply pw_below_drewN | apply below_drew1) | exact HB.out)))); have n2_ := Aside0.mk (below_step (by repeat (first | (with_reducible first | exact HB.out | apply below_alloc | apply pw_below_drewN | apply below_drew1) | exact HB.out)) hb); clear HO_5; clear HB; have HO_5 := n0_; have HO103 := n1_; have HB := n2_; clear n0_ n1_ n2_; clear hb ho9; obtain ⟨Ao11, co11, eo11⟩ := Kd.R_slice HO103.out; subst eo11) | ((with_reducible refine gate_builtin (b := .append) (xs := #[.tmp 18, .tmp 23]) rfl ?_); at_builtin; refine Kd.S_append (Kd.slice 3 (Kd.int .i64)) (w0 := w) w.heap.size rfl (.tmp 18) (.tmp 23) 42 41 (.slice none 0 0) 24 rfl Tryd.underlying42 info41 rfl (by decide) (by omega) u5 x5_1 y101 [.slice Ao11 y101.length co11] (fun _ => True) (fun k_ => some k_ = (.slice Ao11 y101.length co11 : Value).ownBlock) rfl rfl ?aP (fun k_ hk_ => ((Kd.R_mono (ok' := fun k_ => ((fun _ => True)) k_ ∧ some k_ ≠ (u5 : Value).ownBlock) (Kd.R_apart' (HO103.out) (Kd.S_typed HO_5.out) (by decide)) (fun k_ hk => ⟨trivial, hk.2⟩))).1 k_ hk_.symm) ?aF ?aO ?aB ?aS ?aL ?_; (case aP => exact Kd.M_row (Kd.R_mono (Kd.R_tight rfl (Kd.R_mono (ok' := fun k_ => ((fun _ => True)) k_ ∧ some k_ ≠ (u5 : Value).ownBlock) (Kd.R_apart' (HO103.out) (Kd.S_typed HO_5.out) (by decide)) (fun k_ hk => ⟨trivial, hk.2⟩))) (fun _ h_ => h_))); (case aB => exact (by repeat (first | (with_reducible first | exact HB.out | apply below_alloc | apply pw_below_drewN | apply below_drew1) | exact HB.out))); (case aF => exact (fun _ _ => trivial)); (case aO => exact (by (with_reducible repeat (first | apply Kd.S_alloc | apply Kd.S_drewN | apply Kd.S_drew)); exact Kd.S_mono HO_5.out (fun k_ hk => ⟨trivial, fun e_ => hk.2 e_⟩))); (case aS => exact (below_size (by repeat (first | (with_reducible first | exact HB.out | apply below_alloc | apply pw_below_drewN | apply below_drew1) | exact HB.out)))); (case aL => have := LMc7.out; omega); intro v105 w10 ho hb hg hat; rw [← Ny104.out] at ho; have n0_ := Aside0.mk (hb); have n1_ := Aside0.mk (ho); clear HB; clear HO_5; clear HO103; have HB := n0_; have HO106 := n1_; clear n0_ n1_; clear ho hb hg hat)); try go_wp2_with (first | ((with_reducible refine gate_dst (N := 22) rfl ?_); refine Kd.R_make (Kd.int .i64) _ 3 rfl (N := 22) rfl 41 _ _ rfl ji4 rfl rfl Tryd.underlying41 (.int .i64 0) 8 info3 rfl (by decide) (by omega) 0 (ok := fun _ => True) (okp := fun _ => True) rfl (fun _ hk => hk) trivial (of_decide_eq_true (by first | (with_reducible assumption) | assumption)) (Nat.le_trans (Nat.mul_le_mul_right _ (of_decide_eq_true (by first | (with_reducible assumption) | assumption) : ji4.toNat ≤ 35184372088832)) (by omega)) (Below.refl _ _) (Nat.le_refl _) ?_; intro v102 w8 ho9 hb hg_ hnew_; clear hg_ hnew_; (first | rw [← Ny101.out] at ho9 | (simp only [Int.reduceToNat] at ho9; rw [← Ny101.out] at ho9)); have n0_ := Aside0.mk (Kd.S_elder' (by (with_reducible repeat (first | apply Kd.S_alloc | apply Kd.S_drewN | apply Kd.S_drew)); exact HO_5.out) (Kd.R_base ho9) hb); have n1_ := Aside0.mk (Kd.R_lower ho9 (below_size (by repeat (first | (with_reducible first | exact HB.out | apply below_alloc | apply pw_below_drewN | apply below_drew1) | exact HB.out)))); have n2_ := Aside0.mk (below_step (by repeat (first | (with_reducible first | exact HB.out | apply below_alloc | apply pw_below_drewN | apply below_drew1) | exact HB.out)) hb); clear HO_5; clear HB; have HO_5 := n0_; have HO103 := n1_; have HB := n2_; clear n0_ n1_ n2_; clear hb ho9; obtain ⟨Ao11, co11, eo11⟩ := Kd.R_slice HO103.out; subst eo11) | ((with_reducible refine gate_builtin (b := .append) (xs := #[.tmp 18, .tmp 23]) rfl ?_); at_builtin; refine Kd.S_append (Kd.slice 3 (Kd.int .i64)) (w0 := w) w.heap.size rfl (.tmp 18) (.tmp 23) 42 41 (.slice none 0 0) 24 rfl Tryd.underlying42 info41 rfl (by decide) (by omega) u5 x5_1 y101 [.slice Ao11 y101.length co11] (fun _ => True) (fun k_ => some k_ = (.slice Ao11 y101.length co11 : Value).ownBlock) rfl rfl ?aP (fun k_ hk_ => ((Kd.R_mono (ok' := fun k_ => ((fun _ => True)) k_ ∧ some k_ ≠ (u5 : Value).ownBlock) (Kd.R_apart' (HO103.out) (Kd.S_typed HO_5.out) (by decide)) (fun k_ hk => ⟨trivial, hk.2⟩))).1 k_ hk_.symm) ?aF ?aO ?aB ?aS ?aL ?_; (case aP => exact Kd.M_row (Kd.R_mono (Kd.R_tight rfl (Kd.R_mono (ok' := fun k_ => ((fun _ => True)) k_ ∧ some k_ ≠ (u5 : Value).ownBlock) (Kd.R_apart' (HO103.out) (Kd.S_typed HO_5.out) (by decide)) (fun k_ hk => ⟨trivial, hk.2⟩))) (fun _ h_ => h_))); (case aB => exact (by repeat (first | (with_reducible first | exact HB.out | apply below_alloc | apply pw_below_drewN | apply below_drew1) | exact HB.out))); (case aF => exact (fun _ _ => trivial)); (case aO => exact (by (with_reducible repeat (first | apply Kd.S_alloc | apply Kd.S_drewN | apply Kd.S_drew)); exact Kd.S_mono HO_5.out (fun k_ hk => ⟨trivial, fun e_ => hk.2 e_⟩))); (case aS => exact (below_size (by repeat (first | (with_reducible first | exact HB.out | apply below_alloc | apply pw_below_drewN | apply below_drew1) | exact HB.out)))); (case aL => have := LMc7.out; omega); intro v105 w10 ho hb hg hat; rw [← Ny104.out] at ho; have n0_ := Aside0.mk (hb); have n1_ := Aside0.mk (ho); clear HB; clear HO_5; clear HO103; have HB := n0_; have HO106 := n1_; clear n0_ n1_; clear ho hb hg hat)))
       go_roundg k1
       case measure => have := HK1.out; omega
       case rel => exact ⟨(y104), (wrap64 (x6_1 + 1)), (by first | rfl | (simp; done) | (simp [*]; done)), H', ⟨by have := HK1.out; omega⟩, ⟨by (with_reducible repeat (first | apply Kd.S_alloc | apply Kd.S_drewN | apply Kd.S_drew)); exact HO106.out⟩, ⟨by repeat (first | (with_reducible first | exact HB.out | apply below_alloc | apply pw_below_drewN | apply below_drew1) | exact HB.out)⟩⟩
      ·
       rw [if_neg c7] at H
       exact absurd H (by simp)
     ·
      rw [if_neg c6] at H
      exact absurd H (by simp)
    ·
     rw [if_neg c5] at H
     exact absurd H (by simp)
   ·
    rw [if_neg c3] at H
    have c3b0 : decide (x6_1 ≤ (a0.size : Int)) = false := decide_eq_false c3
    clear c3
    have H' := Aside0.mk H
    clear H
    go_wp2
    repeat (go_quiet (fail); try go_wp2)
    go_loopg [7] k1 (fun kq v7 w' => ∃ (x5_2 : List (List Int)) (x7_2 : Int), v7 = .int .i64 x7_2 ∧ Aside0 (spec_bkTable.l1 kq a0 a1 x5_2 x7_2 = some r) ∧ Aside0 (kq ≤ k1) ∧ Aside0 (Kd.S (Kd.slice 3 (Kd.int .i64)) 41 w' w.heap.size (fun _ => True) u5 x5_2) ∧ Aside0 (Below w.heap.size w w'))
    case atStart => exact ⟨(x5_1), ((a0.size : Int)), (by first | rfl | (simp; done) | (simp [*]; done)), H', ⟨Nat.le_refl _⟩, ⟨by (with_reducible repeat (first | apply Kd.S_alloc | apply Kd.S_drewN | apply Kd.S_drew)); exact HO_5.out⟩, ⟨by repeat (first | (with_reducible first | exact HB.out | apply below_alloc | apply pw_below_drewN | apply below_drew1) | exact HB.out)⟩⟩
    case round =>
     clear H'
     try clear p2
     try clear c3
     try clear c3b0
     try clear c5
     try clear c5b0
     try clear c5b1
     try clear c6
     try clear c6b0
     try clear c6b1
     try clear p6
     try clear c7
     try clear p2
     obtain ⟨x5_2, x7_2, rfl, HA, HK2, HO_5, HB⟩ := hrel
     cases gk with
     | zero => exact absurd HA.out (by simp [spec_bkTable.l1])
     | succ k2 =>
      have H := HA.out
      clear HA
      simp only [spec_bkTable.l1] at H
      by_cases c12 : x7_2 ≥ 0
      ·
       rw [if_pos c12] at H
       have c12b0 : decide (0 ≤ x7_2) = true := decide_eq_true c12
       clear c12
       by_cases c13 : 0 ≤ x7_2
       ·
        rw [if_pos c13] at H
        have c13b0 : decide (0 ≤ x7_2) = true := decide_eq_true c13
        clear c13
        by_cases c14 : x7_2 < (x5_2.length : Int)
        ·
         rw [if_pos c14] at H
         have c14b0 : decide (x7_2 < (x5_2.length : Int)) = true := decide_eq_true c14
         clear c14
         have H' := Aside0.mk H
         clear H
         obtain ⟨Ao15, co15, eo15⟩ := Kd.S_slice HO_5.out
         subst eo15
         have p107 : 0 ≤ (x7_2 : Int) := of_decide_eq_true (by first | (with_reducible assumption) | assumption)
         have q107 : x7_2 < (x5_2.length : Int) := of_decide_eq_true (by first | (with_reducible assumption) | assumption)
         obtain ⟨ad107, A107_0, c107_0, e107, hx107_0, hl107_0, hi107_0⟩ := at_L1 (Kd.S_reads' HO_5.out).2.2 x7_2 p107 q107
         cases e107
         obtain ⟨ce107, hce107, hMe107, hcc107⟩ := Kd.S_get HO_5.out [] x7_2 p107 (by first | exact q107 | exact of_decide_eq_true (by first | (with_reducible assumption) | assumption) | (have e_ := (Kd.S_reads' HO_5.out).1; omega))
         obtain ⟨ve107_0, rfl, ge107_0⟩ := hMe107
         have hv107_0 := hcc107 0 _ rfl
         rw [Nat.add_zero, show ((Kd.slice 3 (Kd.int .i64))).sz = 1 from rfl, Nat.mul_one] at hv107_0
         replace hv107_0 := Option.some.inj (hv107_0.symm.trans hx107_0)
         rw [hv107_0] at ge107_0
         have HL107_0 := Aside0.mk (show Kd.R (Kd.int .i64) 3 _ _ _ _ (rd_L1 x5_2 x7_2) from ge107_0)
         clear hv107_0 ge107_0
         have HX107_0 := Aside0.mk hx107_0
         clear hcc107 hce107
         have HR107_0 := Aside0.mk hi107_0
         have HC107_0 := Aside0.mk hl107_0
         clear hi107_0 hl107_0
         replace p107 := eq_true p107
         replace q107 := eq_true q107
         go_wp2
         repeat (go_quiet (fail); try go_wp2)
         generalize hu8_ : (Value.slice A107_0 (rd_L1 x5_2 x7_2).length c107_0) = ual8
         have HE8 := Aside0.mk (HX107_0.out.trans (congrArg some hu8_))
         clear hu8_
         go_loopg [9] k2 (fun kq v9 w' => ∃ (x5_3 : List (List Int)) (x9_3 : Int), v9 = .int .i64 x9_3 ∧ Aside0 (spec_bkTable.l2 kq a0 a1 x5_3 x7_2 x9_3 = some r) ∧ Aside0 (kq ≤ k2) ∧ Aside0 (Kd.S (Kd.slice 3 (Kd.int .i64)) 41 w' w.heap.size (fun _ => True) (.slice (some ad107) x5_2.length co15) x5_3) ∧ Aside0 (Below w.heap.size w w') ∧ Aside0 (w'.cell? (ad107.add (x7_2 : Int).toNat) = some ual8))
         case atStart => exact ⟨(x5_2), ((a1.size : Int)), (by first | rfl | (simp; done) | (simp [*]; done)), H', ⟨Nat.le_refl _⟩, ⟨by (with_reducible repeat (first | apply Kd.S_alloc | apply Kd.S_drewN | apply Kd.S_drew)); exact HO_5.out⟩, ⟨by repeat (first | (with_reducible first | exact HB.out | apply below_alloc | apply pw_below_drewN | apply below_drew1) | exact HB.out)⟩, ⟨by exact HE8.out⟩⟩
         case round =>
          clear H'
          try clear c1
          try clear p1
          try clear q1
          try clear hx1
          try clear p2
          try clear c3
          try clear c3b0
          try clear c5
          try clear c5b0
          try clear c5b1
          try clear c6
          try clear c6b0
          try clear c6b1
          try clear p6
          try clear c7
          try clear c10
          try clear p10
          try clear q10
          try clear hx10
          try clear c12
          try clear c12b0
          try clear c13
          try clear c13b0
          try clear c14
          try clear c14b0
          try clear hx107_0
          try clear p107
          try clear p2
          try clear p6
          try clear q107
          obtain ⟨x5_3, x9_3, rfl, HA, HK3, HO_5, HB, HE8⟩ := hrel
          have hl5_3 := (Kd.S_reads' HO_5.out).1
          rw [hl5_3] at HO_5
          (try simp only [hl5_3])
          cases gk with
          | zero => exact absurd HA.out (by simp [spec_bkTable.l2])
          | succ k3 =>
           have H := HA.out
           clear HA
           simp only [spec_bkTable.l2] at H
           by_cases c16 : x9_3 ≥ 0
           ·
            rw [if_pos c16] at H
            have c16b0 : decide (0 ≤ x9_3) = true := decide_eq_true c16
            clear c16
            by_cases c17 : x7_2 = (a0.size : Int)
            ·
             rw [if_pos c17] at H
             have c17b0 : (x7_2 == (a0.size : Int)) = true := beq_iff_eq.mpr c17
             have c17b1 : (x7_2 != (a0.size : Int)) = false := bne_eq_false_iff_eq.mpr c17
             clear c17
             by_cases c18 : 0 ≤ x7_2
             ·
              rw [if_pos c18] at H
              have c18b0 : decide (0 ≤ x7_2) = true := decide_eq_true c18
              clear c18
              by_cases c19 : x7_2 < (x5_3.length : Int)
              ·
               rw [if_pos c19] at H
               have c19b0 : decide (x7_2 < (x5_3.length : Int)) = true := decide_eq_true c19
               (try (have c19b0_ := c19b0; rw [hl5_3] at c19b0_))
               clear c19
               by_cases c20 : 0 ≤ x9_3
               ·
                rw [if_pos c20] at H
                have c20b0 : decide (0 ≤ x9_3) = true := decide_eq_true c20
                clear c20
                by_cases c21 : x9_3 < ((rd_L1 x5_3 x7_2).length : Int)
                ·
                 rw [if_pos c21] at H
                 have c21b0 : decide (x9_3 < ((rd_L1 x5_3 x7_2).length : Int)) = true := decide_eq_true c21
                 (try (have c21b0_ := c21b0; rw [hl5_3] at c21b0_))
                 clear c21
                 obtain ⟨y109, hy109⟩ : ∃ y_ : List Int, y_ = ((rd_L1 x5_3 x7_2).set (x9_3 : Int).toNat (wrap64 ((a1.size : Int) - x9_3))) := ⟨_, rfl⟩
                 replace H : (spec_bkTable.l2 k3 a0 a1 (x5_3.set (x7_2 : Int).toNat y109) x7_2 (wrap64 (x9_3 - 1))) = some r := by first | (rw [hy109]; with_reducible exact H) | (have H2_ := (Option.bind_some _ _).symm.trans H; rw [hy109]; with_reducible exact H2_) | (have H2_ := (Option.bind_some _ _).symm.trans H; with_reducible exact H2_) | with_reducible exact H | (rw [hy109]; exact H) | exact H
                 have Ny109 := Aside0.mk hy109
                 clear hy109
                 obtain ⟨y111, hy111⟩ : ∃ y_ : List (List Int), y_ = (x5_3.set (x7_2 : Int).toNat y109) := ⟨_, rfl⟩
                 replace H : (spec_bkTable.l2 k3 a0 a1 y111 x7_2 (wrap64 (x9_3 - 1))) = some r := by first | (rw [hy111]; with_reducible exact H) | (have H2_ := (Option.bind_some _ _).symm.trans H; rw [hy111]; with_reducible exact H2_) | (have H2_ := (Option.bind_some _ _).symm.trans H; with_reducible exact H2_) | with_reducible exact H | (rw [hy111]; exact H) | exact H
                 have Ny111 := Aside0.mk hy111
                 clear hy111
                 have H' := Aside0.mk H
                 clear H
                 have p108 : 0 ≤ (x7_2 : Int) := of_decide_eq_true (by first | (with_reducible assumption) | assumption)
                 have q108 : x7_2 < (x5_3.length : Int) := of_decide_eq_true (by first | (with_reducible assumption) | assumption)
                 obtain ⟨ad108, A108_0, c108_0, e108, hx108_0, hl108_0, hi108_0⟩ := at_L1 (Kd.S_reads' HO_5.out).2.2 x7_2 p108 q108
                 obtain rfl : ad107 = ad108 := (by injection e108)
                 obtain ⟨ce108, hce108, hMe108, hcc108⟩ := Kd.S_get HO_5.out [] x7_2 p108 (by first | exact q108 | exact of_decide_eq_true (by first | (with_reducible assumption) | assumption) | (have e_ := (Kd.S_reads' HO_5.out).1; omega))
                 obtain ⟨ve108_0, rfl, ge108_0⟩ := hMe108
                 have hv108_0 := hcc108 0 _ rfl
                 rw [Nat.add_zero, show ((Kd.slice 3 (Kd.int .i64))).sz = 1 from rfl, Nat.mul_one] at hv108_0
                 replace hv108_0 := Option.some.inj (hv108_0.symm.trans hx108_0)
                 rw [hv108_0] at ge108_0
                 have HL108_0 := Aside0.mk (show Kd.R (Kd.int .i64) 3 _ _ _ _ (rd_L1 x5_3 x7_2) from ge108_0)
                 clear hv108_0 ge108_0
                 have HX108_0 := Aside0.mk hx108_0
                 (try (have eal_ := Option.some.inj (HE8.out.symm.trans hx108_0)))
                 (try subst eal_)
                 clear hcc108 hce108
                 have HR108_0 := Aside0.mk hi108_0
                 have HC108_0 := Aside0.mk hl108_0
                 clear hi108_0 hl108_0
                 replace p108 := eq_true p108
                 replace q108 := eq_true q108
                 have p22 : 0 ≤ (x9_3 : Int) := of_decide_eq_true (by first | (with_reducible assumption) | assumption)
                 have q22 : (x9_3 : Int) < (((rd_L1 x5_3 x7_2).length : Int) : Int) := of_decide_eq_true (by first | (with_reducible assumption) | assumption)
                 obtain ⟨go22, co22, eo22, gb22, gl22, cl22, HG22⟩ := Kd.R_form HL108_0.out (by omega)
                 (first | cases eo22 | (injection eo22 with ea_ en_ ec_; (first | subst ea_ | (injection ea_ with ea_; subst ea_)); subst ec_; clear en_))
                 have GB22 := Aside0.mk gb22
                 have GG22 := Aside0.mk HG22
                 clear gb22 gl22 HG22
                 obtain ⟨hx22_0, hf22_0⟩ := Kd.R_celln 0 HL108_0.out (x9_3 : Int) p22 q22
                 replace p22 := eq_true p22
                 replace q22 := eq_true q22
                 have hq23 : (x7_2 : Int) < (x5_3.length : Int) := (by have h_ : (x7_2 : Int) < ((x5_3.length : Int) : Int) := of_decide_eq_true (by first | (with_reducible assumption) | assumption); first | exact h_ | (have e_ := (Kd.S_reads' HO_5.out).1; omega) | simpa only [List.length_set, List.length_set] using h_)
                 obtain ⟨oki23, ce23, hcl23, hM23, hcc23, hok23, hbk23⟩ := Kd.S_borrow HO_5.out [] (x7_2 : Int) (of_decide_eq_true (by first | (with_reducible assumption) | assumption)) hq23
                 obtain ⟨ve23_0, rfl, ge23_0⟩ := hM23
                 have hv23 := hcc23 0 _ rfl
                 rw [Nat.add_zero, show ((Kd.slice 3 (Kd.int .i64))).sz = 1 from rfl, Nat.mul_one] at hv23
                 replace hv23 := Option.some.inj (hv23.symm.trans HX108_0.out)
                 subst hv23
                 clear hcc23 hcl23
                 replace ge23_0 := (show Kd.R (Kd.int .i64) 3 _ _ _ _ (rd_L1 x5_3 x7_2) from ge23_0)
                 have HP23 := Kd.R_putg ge23_0 (x9_3 : Int) (wrap64 ((a1.size : Int) - x9_3))
                 go_wp2_with (first | ((with_reducible refine gate_store (t := 3) (p := 90) rfl ?_); (try (rw [drewN_self wr]; generalize hq_ : World.drewN wr _ = wr; have n0_ := Aside0.mk (Kd.S_at hq_ HO_5.out); have n1_ := Aside0.mk (Kd.R_at hq_ HL108_0.out); have n2_ := Aside0.mk (below_at hq_ HB.out); have nx_ := Aside0.mk (cell_at hq_ HX108_0.out); clear HX108_0; have HX108_0 := nx_; clear nx_; have nf_ := spec_bkTable_alfr hq_ hf22_0; clear hf22_0; have hf22_0 := nf_; clear nf_; have ne8_ := Aside0.mk (cell_at hq_ HE8.out); clear HE8; have HE8 := ne8_; clear ne8_; clear hq_ HO_5 HL108_0 HB; have HO_5 := n0_; have HL108_0 := n1_; have HB := n2_; clear n0_ n1_ n2_; (try (have hq23 : (x7_2 : Int) < (x5_3.length : Int) := (by have h_ : (x7_2 : Int) < ((x5_3.length : Int) : Int) := of_decide_eq_true (by first | (with_reducible assumption) | assumption); first | exact h_ | (have e_ := (Kd.S_reads' HO_5.out).1; omega) | simpa only [List.length_set, List.length_set] using h_))); (try (obtain ⟨oki23, ce23, hcl23, hM23, hcc23, hok23, hbk23⟩ := Kd.S_borrow HO_5.out [] (x7_2 : Int) (of_decide_eq_true (by first | (with_reducible assumption) | assumption)) hq23)); (try (obtain ⟨ve23_0, rfl, ge23_0⟩ := hM23)); (try (have hv23 := hcc23 0 _ rfl)); (try (rw [Nat.add_zero, show ((Kd.slice 3 (Kd.int .i64))).sz = 1 from rfl, Nat.mul_one] at hv23)); (try (replace hv23 := Option.some.inj (hv23.symm.trans HX108_0.out))); (try (subst hv23)); (try (clear hcc23 hcl23)); (try (replace ge23_0 := (show Kd.R (Kd.int .i64) 3 _ _ _ _ (rd_L1 x5_3 x7_2) from ge23_0))); (try (have HP23 := Kd.R_putg ge23_0 (x9_3 : Int) (wrap64 ((a1.size : Int) - x9_3)))))); refine store_event (t := 3) (p := 90) (v := ?vo_w24) (w1 := (wr.setCell ⟨go22, (x9_3 : Int).toNat, none⟩ (.int .i64 (wrap64 ((a1.size : Int) - x9_3))))) ?hg ?ho ?hn ?hr ?_; (case ho => rfl); (case hg => rfl); (case hn => rfl); (case hr => first | (go_simp; done) | (go_simp; rfl)); intro w24 hw; have hg : wr.grownBy w24 (some go22) := (by rw [hw]; exact HP23.2); have hz_ : Kd.R (Kd.int .i64) 3 w24 w.heap.size oki23 (.slice (some ⟨go22, 0, none⟩) (rd_L1 x5_3 x7_2).length c108_0) y109 := (by rw [hw, Ny109.out]; exact HP23.1); have hp_ : Kd.S (Kd.slice 3 (Kd.int .i64)) 41 w24 w.heap.size (fun _ => True) (.slice (some ad107) x5_3.length co15) y111 := (by rw [Ny111.out]; exact hbk23 hg (fun k_ e_ => by injection e_ with e_; subst e_; exact ge23_0.1 _ rfl) (Kd.M_row hz_)); have hm_ := Kd.R_mono hz_ hok23; clear HP23 hbk23; have n0_ := Aside0.mk (hp_); have n1_ := Aside0.mk ((by rw [hw]; exact below_set (HB.out) GB22.out : Below w.heap.size w w24)); have n2_ := Aside0.mk (hm_); have n3_ := Aside0.mk ((Kd.R_reads' hm_).2.1); clear HO_5; clear HB; clear HL108_0; have HO_5 := n0_; have HB := n1_; have HL135 := n2_; have HC110 := n3_; clear n0_ n1_ n2_ n3_; have ne8_ := Aside0.mk (spec_bkTable_alkeep hg (spec_bkTable_alne (hok23 _ (ge23_0.1 _ rfl)).2) HE8.out); clear HE8; have HE8 := ne8_; clear ne8_; clear hg hw hp_ hz_ hm_ hok23))
                 repeat (go_quiet (first | ((with_reducible refine gate_store (t := 3) (p := 90) rfl ?_); (try (rw [drewN_self wr]; generalize hq_ : World.drewN wr _ = wr; have n0_ := Aside0.mk (Kd.S_at hq_ HO_5.out); have n1_ := Aside0.mk (Kd.R_at hq_ HL108_0.out); have n2_ := Aside0.mk (below_at hq_ HB.out); have nx_ := Aside0.mk (cell_at hq_ HX108_0.out); clear HX108_0; have HX108_0 := nx_; clear nx_; have nf_ := spec_bkTable_alfr hq_ hf22_0; clear hf22_0; have hf22_0 := nf_; clear nf_; have ne8_ := Aside0.mk (cell_at hq_ HE8.out); clear HE8; have HE8 := ne8_; clear ne8_; clear hq_ HO_5 HL108_0 HB; have HO_5 := n0_; have HL108_0 := n1_; have HB := n2_; clear n0_ n1_ n2_; (try (have hq23 : (x7_2 : Int) < (x5_3.length : Int) := (by have h_ : (x7_2 : Int) < ((x5_3.length : Int) : Int) := of_decide_eq_true (by first | (with_reducible assumption) | assumption); first | exact h_ | (have e_ := (Kd.S_reads' HO_5.out).1; omega) | simpa only [List.length_set, List.length_set] using h_))); (try (obtain ⟨oki23, ce23, hcl23, hM23, hcc23, hok23, hbk23⟩ := Kd.S_borrow HO_5.out [] (x7_2 : Int) (of_decide_eq_true (by first | (with_reducible assumption) | assumption)) hq23)); (try (obtain ⟨ve23_0, rfl, ge23_0⟩ := hM23)); (try (have hv23 := hcc23 0 _ rfl)); (try (rw [Nat.add_zero, show ((Kd.slice 3 (Kd.int .i64))).sz = 1 from rfl, Nat.mul_one] at hv23)); (try (replace hv23 := Option.some.inj (hv23.symm.trans HX108_0.out))); (try (subst hv23)); (try (clear hcc23 hcl23)); (try (replace ge23_0 := (show Kd.R (Kd.int .i64) 3 _ _ _ _ (rd_L1 x5_3 x7_2) from ge23_0))); (try (have HP23 := Kd.R_putg ge23_0 (x9_3 : Int) (wrap64 ((a1.size : Int) - x9_3)))))); refine store_event (t := 3) (p := 90) (v := ?vo_w24) (w1 := (wr.setCell ⟨go22, (x9_3 : Int).toNat, none⟩ (.int .i64 (wrap64 ((a1.size : Int) - x9_3))))) ?hg ?ho ?hn ?hr ?_; (case ho => rfl); (case hg => rfl); (case hn => rfl); (case hr => first | (go_simp; done) | (go_simp; rfl)); intro w24 hw; have hg : wr.grownBy w24 (some go22) := (by rw [hw]; exact HP23.2); have hz_ : Kd.R (Kd.int .i64) 3 w24 w.heap.size oki23 (.slice (some ⟨go22, 0, none⟩) (rd_L1 x5_3 x7_2).length c108_0) y109 := (by rw [hw, Ny109.out]; exact HP23.1); have hp_ : Kd.S (Kd.slice 3 (Kd.int .i64)) 41 w24 w.heap.size (fun _ => True) (.slice (some ad107) x5_3.length co15) y111 := (by rw [Ny111.out]; exact hbk23 hg (fun k_ e_ => by injection e_ with e_; subst e_; exact ge23_0.1 _ rfl) (Kd.M_row hz_)); have hm_ := Kd.R_mono hz_ hok23; clear HP23 hbk23; have n0_ := Aside0.mk (hp_); have n1_ := Aside0.mk ((by rw [hw]; exact below_set (HB.out) GB22.out : Below w.heap.size w w24)); have n2_ := Aside0.mk (hm_); have n3_ := Aside0.mk ((Kd.R_reads' hm_).2.1); clear HO_5; clear HB; clear HL108_0; have HO_5 := n0_; have HB := n1_; have HL135 := n2_; have HC110 := n3_; clear n0_ n1_ n2_ n3_; have ne8_ := Aside0.mk (spec_bkTable_alkeep hg (spec_bkTable_alne (hok23 _ (ge23_0.1 _ rfl)).2) HE8.out); clear HE8; have HE8 := ne8_; clear ne8_; clear hg hw hp_ hz_ hm_ hok23)); try go_wp2_with (first | ((with_reducible refine gate_store (t := 3) (p := 90) rfl ?_); (try (rw [drewN_self wr]; generalize hq_ : World.drewN wr _ = wr; have n0_ := Aside0.mk (Kd.S_at hq_ HO_5.out); have n1_ := Aside0.mk (Kd.R_at hq_ HL108_0.out); have n2_ := Aside0.mk (below_at hq_ HB.out); have nx_ := Aside0.mk (cell_at hq_ HX108_0.out); clear HX108_0; have HX108_0 := nx_; clear nx_; have nf_ := spec_bkTable_alfr hq_ hf22_0; clear hf22_0; have hf22_0 := nf_; clear nf_; have ne8_ := Aside0.mk (cell_at hq_ HE8.out); clear HE8; have HE8 := ne8_; clear ne8_; clear hq_ HO_5 HL108_0 HB; have HO_5 := n0_; have HL108_0 := n1_; have HB := n2_; clear n0_ n1_ n2_; (try (have hq23 : (x7_2 : Int) < (x5_3.length : Int) := (by have h_ : (x7_2 : Int) < ((x5_3.length : Int) : Int) := of_decide_eq_true (by first | (with_reducible assumption) | assumption); first | exact h_ | (have e_ := (Kd.S_reads' HO_5.out).1; omega) | simpa only [List.length_set, List.length_set] using h_))); (try (obtain ⟨oki23, ce23, hcl23, hM23, hcc23, hok23, hbk23⟩ := Kd.S_borrow HO_5.out [] (x7_2 : Int) (of_decide_eq_true (by first | (with_reducible assumption) | assumption)) hq23)); (try (obtain ⟨ve23_0, rfl, ge23_0⟩ := hM23)); (try (have hv23 := hcc23 0 _ rfl)); (try (rw [Nat.add_zero, show ((Kd.slice 3 (Kd.int .i64))).sz = 1 from rfl, Nat.mul_one] at hv23)); (try (replace hv23 := Option.some.inj (hv23.symm.trans HX108_0.out))); (try (subst hv23)); (try (clear hcc23 hcl23)); (try (replace ge23_0 := (show Kd.R (Kd.int .i64) 3 _ _ _ _ (rd_L1 x5_3 x7_2) from ge23_0))); (try (have HP23 := Kd.R_putg ge23_0 (x9_3 : Int) (wrap64 ((a1.size : Int) - x9_3)))))); refine store_event (t := 3) (p := 90) (v := ?vo_w24) (w1 := (wr.setCell ⟨go22, (x9_3 : Int).toNat, none⟩ (.int .i64 (wrap64 ((a1.size : Int) - x9_3))))) ?hg ?ho ?hn ?hr ?_; (case ho => rfl); (case hg => rfl); (case hn => rfl); (case hr => first | (go_simp; done) | (go_simp; rfl)); intro w24 hw; have hg : wr.grownBy w24 (some go22) := (by rw [hw]; exact HP23.2); have hz_ : Kd.R (Kd.int .i64) 3 w24 w.heap.size oki23 (.slice (some ⟨go22, 0, none⟩) (rd_L1 x5_3 x7_2).length c108_0) y109 := (by rw [hw, Ny109.out]; exact HP23.1); have hp_ : Kd.S (Kd.slice 3 (Kd.int .i64)) 41 w24 w.heap.size (fun _ => True) (.slice (some ad107) x5_3.length co15) y111 := (by rw [Ny111.out]; exact hbk23 hg (fun k_ e_ => by injection e_ with e_; subst e_; exact ge23_0.1 _ rfl) (Kd.M_row hz_)); have hm_ := Kd.R_mono hz_ hok23; clear HP23 hbk23; have n0_ := Aside0.mk (hp_); have n1_ := Aside0.mk ((by rw [hw]; exact below_set (HB.out) GB22.out : Below w.heap.size w w24)); have n2_ := Aside0.mk (hm_); have n3_ := Aside0.mk ((Kd.R_reads' hm_).2.1); clear HO_5; clear HB; clear HL108_0; have HO_5 := n0_; have HB := n1_; have HL135 := n2_; have HC110 := n3_; clear n0_ n1_ n2_ n3_; have ne8_ := Aside0.mk (spec_bkTable_alkeep hg (spec_bkTable_alne (hok23 _ (ge23_0.1 _ rfl)).2) HE8.out); clear HE8; have HE8 := ne8_; clear ne8_; clear hg hw hp_ hz_ hm_ hok23)))
                 (try simp only [← hl5_3])
                 go_roundg k3
                 case measure => have := HK1.out; have := HK2.out; have := HK3.out; omega
                 case rel => exact ⟨(y111), (wrap64 (x9_3 - 1)), (by first | rfl | (simp; done) | (simp [*]; done)), H', ⟨by have := HK1.out; have := HK2.out; have := HK3.out; omega⟩, ⟨by (try simp only [hl5_3]); (with_reducible repeat (first | apply Kd.S_alloc | apply Kd.S_drewN | apply Kd.S_drew)); exact HO_5.out⟩, ⟨by repeat (first | (with_reducible first | exact HB.out | apply below_alloc | apply pw_below_drewN | apply below_drew1) | exact HB.out)⟩, ⟨by exact HE8.out⟩⟩
                ·
                 rw [if_neg c21] at H
                 exact absurd H (by simp)
               ·
                rw [if_neg c20] at H
                exact absurd H (by simp)
              ·
               rw [if_neg c19] at H
               exact absurd H (by simp)
             ·
              rw [if_neg c18] at H
              exact absurd H (by simp)
            ·
             rw [if_neg c17] at H
             have c17b0 : (x7_2 == (a0.size : Int)) = false := beq_eq_false_iff_ne.mpr c17
             have c17b1 : (x7_2 != (a0.size : Int)) = true := bne_iff_ne.mpr c17
             by_cases c25 : x9_3 = (a1.size : Int)
             ·
              rw [if_pos c25] at H
              have c25b0 : (x9_3 == (a1.size : Int)) = true := beq_iff_eq.mpr c25
              have c25b1 : (x9_3 != (a1.size : Int)) = false := bne_eq_false_iff_eq.mpr c25
              clear c25
              by_cases c26 : 0 ≤ x7_2
              ·
               rw [if_pos c26] at H
               have c26b0 : decide (0 ≤ x7_2) = true := decide_eq_true c26
               clear c26
               by_cases c27 : x7_2 < (x5_3.length : Int)
               ·
                rw [if_pos c27] at H
                have c27b0 : decide (x7_2 < (x5_3.length : Int)) = true := decide_eq_true c27
                (try (have c27b0_ := c27b0; rw [hl5_3] at c27b0_))
                clear c27
                by_cases c28 : 0 ≤ x9_3
                ·
                 rw [if_pos c28] at H
                 have c28b0 : decide (0 ≤ x9_3) = true := decide_eq_true c28
                 clear c28
                 by_cases c29 : x9_3 < ((rd_L1 x5_3 x7_2).length : Int)
                 ·
                  rw [if_pos c29] at H
                  have c29b0 : decide (x9_3 < ((rd_L1 x5_3 x7_2).length : Int)) = true := decide_eq_true c29
                  (try (have c29b0_ := c29b0; rw [hl5_3] at c29b0_))
                  clear c29
                  obtain ⟨y113, hy113⟩ : ∃ y_ : List Int, y_ = ((rd_L1 x5_3 x7_2).set (x9_3 : Int).toNat (wrap64 ((a0.size : Int) - x7_2))) := ⟨_, rfl⟩
                  replace H : (spec_bkTable.l2 k3 a0 a1 (x5_3.set (x7_2 : Int).toNat y113) x7_2 (wrap64 (x9_3 - 1))) = some r := by first | (rw [hy113]; with_reducible exact H) | (have H2_ := (Option.bind_some _ _).symm.trans H; rw [hy113]; with_reducible exact H2_) | (have H2_ := (Option.bind_some _ _).symm.trans H; with_reducible exact H2_) | with_reducible exact H | (rw [hy113]; exact H) | exact H
                  have Ny113 := Aside0.mk hy113
                  clear hy113
                  obtain ⟨y115, hy115⟩ : ∃ y_ : List (List Int), y_ = (x5_3.set (x7_2 : Int).toNat y113) := ⟨_, rfl⟩
                  replace H : (spec_bkTable.l2 k3 a0 a1 y115 x7_2 (wrap64 (x9_3 - 1))) = some r := by first | (rw [hy115]; with_reducible exact H) | (have H2_ := (Option.bind_some _ _).symm.trans H; rw [hy115]; with_reducible exact H2_) | (have H2_ := (Option.bind_some _ _).symm.trans H; with_reducible exact H2_) | with_reducible exact H | (rw [hy115]; exact H) | exact H
                  have Ny115 := Aside0.mk hy115
                  clear hy115
                  have H' := Aside0.mk H
                  clear H
                  have p112 : 0 ≤ (x7_2 : Int) := of_decide_eq_true (by first | (with_reducible assumption) | assumption)
                  have q112 : x7_2 < (x5_3.length : Int) := of_decide_eq_true (by first | (with_reducible assumption) | assumption)
                  obtain ⟨ad112, A112_0, c112_0, e112, hx112_0, hl112_0, hi112_0⟩ := at_L1 (Kd.S_reads' HO_5.out).2.2 x7_2 p112 q112
                  obtain rfl : ad107 = ad112 := (by injection e112)
                  obtain ⟨ce112, hce112, hMe112, hcc112⟩ := Kd.S_get HO_5.out [] x7_2 p112 (by first | exact q112 | exact of_decide_eq_true (by first | (with_reducible assumption) | assumption) | (have e_ := (Kd.S_reads' HO_5.out).1; omega))
                  obtain ⟨ve112_0, rfl, ge112_0⟩ := hMe112
                  have hv112_0 := hcc112 0 _ rfl
                  rw [Nat.add_zero, show ((Kd.slice 3 (Kd.int .i64))).sz = 1 from rfl, Nat.mul_one] at hv112_0
                  replace hv112_0 := Option.some.inj (hv112_0.symm.trans hx112_0)
                  rw [hv112_0] at ge112_0
                  have HL112_0 := Aside0.mk (show Kd.R (Kd.int .i64) 3 _ _ _ _ (rd_L1 x5_3 x7_2) from ge112_0)
                  clear hv112_0 ge112_0
                  have HX112_0 := Aside0.mk hx112_0
                  (try (have eal_ := Option.some.inj (HE8.out.symm.trans hx112_0)))
                  (try subst eal_)
                  clear hcc112 hce112
                  have HR112_0 := Aside0.mk hi112_0
                  have HC112_0 := Aside0.mk hl112_0
                  clear hi112_0 hl112_0
                  replace p112 := eq_true p112
                  replace q112 := eq_true q112
                  have p30 : 0 ≤ (x9_3 : Int) := of_decide_eq_true (by first | (with_reducible assumption) | assumption)
                  have q30 : (x9_3 : Int) < (((rd_L1 x5_3 x7_2).length : Int) : Int) := of_decide_eq_true (by first | (with_reducible assumption) | assumption)
                  obtain ⟨go30, co30, eo30, gb30, gl30, cl30, HG30⟩ := Kd.R_form HL112_0.out (by omega)
                  (first | cases eo30 | (injection eo30 with ea_ en_ ec_; (first | subst ea_ | (injection ea_ with ea_; subst ea_)); subst ec_; clear en_))
                  have GB30 := Aside0.mk gb30
                  have GG30 := Aside0.mk HG30
                  clear gb30 gl30 HG30
                  obtain ⟨hx30_0, hf30_0⟩ := Kd.R_celln 0 HL112_0.out (x9_3 : Int) p30 q30
                  replace p30 := eq_true p30
                  replace q30 := eq_true q30
                  have hq31 : (x7_2 : Int) < (x5_3.length : Int) := (by have h_ : (x7_2 : Int) < ((x5_3.length : Int) : Int) := of_decide_eq_true (by first | (with_reducible assumption) | assumption); first | exact h_ | (have e_ := (Kd.S_reads' HO_5.out).1; omega) | simpa only [List.length_set, List.length_set] using h_)
                  obtain ⟨oki31, ce31, hcl31, hM31, hcc31, hok31, hbk31⟩ := Kd.S_borrow HO_5.out [] (x7_2 : Int) (of_decide_eq_true (by first | (with_reducible assumption) | assumption)) hq31
                  obtain ⟨ve31_0, rfl, ge31_0⟩ := hM31
                  have hv31 := hcc31 0 _ rfl
                  rw [Nat.add_zero, show ((Kd.slice 3 (Kd.int .i64))).sz = 1 from rfl, Nat.mul_one] at hv31
                  replace hv31 := Option.some.inj (hv31.symm.trans HX112_0.out)
                  subst hv31
                  clear hcc31 hcl31
                  replace ge31_0 := (show Kd.R (Kd.int .i64) 3 _ _ _ _ (rd_L1 x5_3 x7_2) from ge31_0)
                  have HP31 := Kd.R_putg ge31_0 (x9_3 : Int) (wrap64 ((a0.size : Int) - x7_2))
                  go_wp2_with (first | ((with_reducible refine gate_store (t := 3) (p := 102) rfl ?_); (try (rw [drewN_self wr]; generalize hq_ : World.drewN wr _ = wr; have n0_ := Aside0.mk (Kd.S_at hq_ HO_5.out); have n1_ := Aside0.mk (Kd.R_at hq_ HL112_0.out); have n2_ := Aside0.mk (below_at hq_ HB.out); have nx_ := Aside0.mk (cell_at hq_ HX112_0.out); clear HX112_0; have HX112_0 := nx_; clear nx_; have nf_ := spec_bkTable_alfr hq_ hf30_0; clear hf30_0; have hf30_0 := nf_; clear nf_; have ne8_ := Aside0.mk (cell_at hq_ HE8.out); clear HE8; have HE8 := ne8_; clear ne8_; clear hq_ HO_5 HL112_0 HB; have HO_5 := n0_; have HL112_0 := n1_; have HB := n2_; clear n0_ n1_ n2_; (try (have hq31 : (x7_2 : Int) < (x5_3.length : Int) := (by have h_ : (x7_2 : Int) < ((x5_3.length : Int) : Int) := of_decide_eq_true (by first | (with_reducible assumption) | assumption); first | exact h_ | (have e_ := (Kd.S_reads' HO_5.out).1; omega) | simpa only [List.length_set, List.length_set] using h_))); (try (obtain ⟨oki31, ce31, hcl31, hM31, hcc31, hok31, hbk31⟩ := Kd.S_borrow HO_5.out [] (x7_2 : Int) (of_decide_eq_true (by first | (with_reducible assumption) | assumption)) hq31)); (try (obtain ⟨ve31_0, rfl, ge31_0⟩ := hM31)); (try (have hv31 := hcc31 0 _ rfl)); (try (rw [Nat.add_zero, show ((Kd.slice 3 (Kd.int .i64))).sz = 1 from rfl, Nat.mul_one] at hv31)); (try (replace hv31 := Option.some.inj (hv31.symm.trans HX112_0.out))); (try (subst hv31)); (try (clear hcc31 hcl31)); (try (replace ge31_0 := (show Kd.R (Kd.int .i64) 3 _ _ _ _ (rd_L1 x5_3 x7_2) from ge31_0))); (try (have HP31 := Kd.R_putg ge31_0 (x9_3 : Int) (wrap64 ((a0.size : Int) - x7_2)))))); refine store_event (t := 3) (p := 102) (v := ?vo_w32) (w1 := (wr.setCell ⟨go30, (x9_3 : Int).toNat, none⟩ (.int .i64 (wrap64 ((a0.size : Int) - x7_2))))) ?hg ?ho ?hn ?hr ?_; (case ho => rfl); (case hg => rfl); (case hn => rfl); (case hr => first | (go_simp; done) | (go_simp; rfl)); intro w32 hw; have hg : wr.grownBy w32 (some go30) := (by rw [hw]; exact HP31.2); have hz_ : Kd.R (Kd.int .i64) 3 w32 w.heap.size oki31 (.slice (some ⟨go30, 0, none⟩) (rd_L1 x5_3 x7_2).length c112_0) y113 := (by rw [hw, Ny113.out]; exact HP31.1); have hp_ : Kd.S (Kd.slice 3 (Kd.int .i64)) 41 w32 w.heap.size (fun _ => True) (.slice (some ad107) x5_3.length co15) y115 := (by rw [Ny115.out]; exact hbk31 hg (fun k_ e_ => by injection e_ with e_; subst e_; exact ge31_0.1 _ rfl) (Kd.M_row hz_)); have hm_ := Kd.R_mono hz_ hok31; clear HP31 hbk31; have n0_ := Aside0.mk (hp_); have n1_ := Aside0.mk ((by rw [hw]; exact below_set (HB.out) GB30.out : Below w.heap.size w w32)); have n2_ := Aside0.mk (hm_); have n3_ := Aside0.mk ((Kd.R_reads' hm_).2.1); clear HO_5; clear HB; clear HL112_0; have HO_5 := n0_; have HB := n1_; have HL136 := n2_; have HC114 := n3_; clear n0_ n1_ n2_ n3_; have ne8_ := Aside0.mk (spec_bkTable_alkeep hg (spec_bkTable_alne (hok31 _ (ge31_0.1 _ rfl)).2) HE8.out); clear HE8; have HE8 := ne8_; clear ne8_; clear hg hw hp_ hz_ hm_ hok31))
                  repeat (go_quiet (first | ((with_reducible refine gate_store (t := 3) (p := 102) rfl ?_); (try (rw [drewN_self wr]; generalize hq_ : World.drewN wr _ = wr; have n0_ := Aside0.mk (Kd.S_at hq_ HO_5.out); have n1_ := Aside0.mk (Kd.R_at hq_ HL112_0.out); have n2_ := Aside0.mk (below_at hq_ HB.out); have nx_ := Aside0.mk (cell_at hq_ HX112_0.out); clear HX112_0; have HX112_0 := nx_; clear nx_; have nf_ := spec_bkTable_alfr hq_ hf30_0; clear hf30_0; have hf30_0 := nf_; clear nf_; have ne8_ := Aside0.mk (cell_at hq_ HE8.out); clear HE8; have HE8 := ne8_; clear ne8_; clear hq_ HO_5 HL112_0 HB; have HO_5 := n0_; have HL112_0 := n1_; have HB := n2_; clear n0_ n1_ n2_; (try (have hq31 : (x7_2 : Int) < (x5_3.length : Int) := (by have h_ : (x7_2 : Int) < ((x5_3.length : Int) : Int) := of_decide_eq_true (by first | (with_reducible assumption) | assumption); first | exact h_ | (have e_ := (Kd.S_reads' HO_5.out).1; omega) | simpa only [List.length_set, List.length_set] using h_))); (try (obtain ⟨oki31, ce31, hcl31, hM31, hcc31, hok31, hbk31⟩ := Kd.S_borrow HO_5.out [] (x7_2 : Int) (of_decide_eq_true (by first | (with_reducible assumption) | assumption)) hq31)); (try (obtain ⟨ve31_0, rfl, ge31_0⟩ := hM31)); (try (have hv31 := hcc31 0 _ rfl)); (try (rw [Nat.add_zero, show ((Kd.slice 3 (Kd.int .i64))).sz = 1 from rfl, Nat.mul_one] at hv31)); (try (replace hv31 := Option.some.inj (hv31.symm.trans HX112_0.out))); (try (subst hv31)); (try (clear hcc31 hcl31)); (try (replace ge31_0 := (show Kd.R (Kd.int .i64) 3 _ _ _ _ (rd_L1 x5_3 x7_2) from ge31_0))); (try (have HP31 := Kd.R_putg ge31_0 (x9_3 : Int) (wrap64 ((a0.size : Int) - x7_2)))))); refine store_event (t := 3) (p := 102) (v := ?vo_w32) (w1 := (wr.setCell ⟨go30, (x9_3 : Int).toNat, none⟩ (.int .i64 (wrap64 ((a0.size : Int) - x7_2))))) ?hg ?ho ?hn ?hr ?_; (case ho => rfl); (case hg => rfl); (case hn => rfl); (case hr => first | (go_simp; done) | (go_simp; rfl)); intro w32 hw; have hg : wr.grownBy w32 (some go30) := (by rw [hw]; exact HP31.2); have hz_ : Kd.R (Kd.int .i64) 3 w32 w.heap.size oki31 (.slice (some ⟨go30, 0, none⟩) (rd_L1 x5_3 x7_2).length c112_0) y113 := (by rw [hw, Ny113.out]; exact HP31.1); have hp_ : Kd.S (Kd.slice 3 (Kd.int .i64)) 41 w32 w.heap.size (fun _ => True) (.slice (some ad107) x5_3.length co15) y115 := (by rw [Ny115.out]; exact hbk31 hg (fun k_ e_ => by injection e_ with e_; subst e_; exact ge31_0.1 _ rfl) (Kd.M_row hz_)); have hm_ := Kd.R_mono hz_ hok31; clear HP31 hbk31; have n0_ := Aside0.mk (hp_); have n1_ := Aside0.mk ((by rw [hw]; exact below_set (HB.out) GB30.out : Below w.heap.size w w32)); have n2_ := Aside0.mk (hm_); have n3_ := Aside0.mk ((Kd.R_reads' hm_).2.1); clear HO_5; clear HB; clear HL112_0; have HO_5 := n0_; have HB := n1_; have HL136 := n2_; have HC114 := n3_; clear n0_ n1_ n2_ n3_; have ne8_ := Aside0.mk (spec_bkTable_alkeep hg (spec_bkTable_alne (hok31 _ (ge31_0.1 _ rfl)).2) HE8.out); clear HE8; have HE8 := ne8_; clear ne8_; clear hg hw hp_ hz_ hm_ hok31)); try go_wp2_with (first | ((with_reducible refine gate_store (t := 3) (p := 102) rfl ?_); (try (rw [drewN_self wr]; generalize hq_ : World.drewN wr _ = wr; have n0_ := Aside0.mk (Kd.S_at hq_ HO_5.out); have n1_ := Aside0.mk (Kd.R_at hq_ HL112_0.out); have n2_ := Aside0.mk (below_at hq_ HB.out); have nx_ := Aside0.mk (cell_at hq_ HX112_0.out); clear HX112_0; have HX112_0 := nx_; clear nx_; have nf_ := spec_bkTable_alfr hq_ hf30_0; clear hf30_0; have hf30_0 := nf_; clear nf_; have ne8_ := Aside0.mk (cell_at hq_ HE8.out); clear HE8; have HE8 := ne8_; clear ne8_; clear hq_ HO_5 HL112_0 HB; have HO_5 := n0_; have HL112_0 := n1_; have HB := n2_; clear n0_ n1_ n2_; (try (have hq31 : (x7_2 : Int) < (x5_3.length : Int) := (by have h_ : (x7_2 : Int) < ((x5_3.length : Int) : Int) := of_decide_eq_true (by first | (with_reducible assumption) | assumption); first | exact h_ | (have e_ := (Kd.S_reads' HO_5.out).1; omega) | simpa only [List.length_set, List.length_set] using h_))); (try (obtain ⟨oki31, ce31, hcl31, hM31, hcc31, hok31, hbk31⟩ := Kd.S_borrow HO_5.out [] (x7_2 : Int) (of_decide_eq_true (by first | (with_reducible assumption) | assumption)) hq31)); (try (obtain ⟨ve31_0, rfl, ge31_0⟩ := hM31)); (try (have hv31 := hcc31 0 _ rfl)); (try (rw [Nat.add_zero, show ((Kd.slice 3 (Kd.int .i64))).sz = 1 from rfl, Nat.mul_one] at hv31)); (try (replace hv31 := Option.some.inj (hv31.symm.trans HX112_0.out))); (try (subst hv31)); (try (clear hcc31 hcl31)); (try (replace ge31_0 := (show Kd.R (Kd.int .i64) 3 _ _ _ _ (rd_L1 x5_3 x7_2) from ge31_0))); (try (have HP31 := Kd.R_putg ge31_0 (x9_3 : Int) (wrap64 ((a0.size : Int) - x7_2)))))); refine store_event (t := 3) (p := 102) (v := ?vo_w32) (w1 := (wr.setCell ⟨go30, (x9_3 : Int).toNat, none⟩ (.int .i64 (wrap64 ((a0.size : Int) - x7_2))))) ?hg ?ho ?hn ?hr ?_; (case ho => rfl); (case hg => rfl); (case hn => rfl); (case hr => first | (go_simp; done) | (go_simp; rfl)); intro w32 hw; have hg : wr.grownBy w32 (some go30) := (by rw [hw]; exact HP31.2); have hz_ : Kd.R (Kd.int .i64) 3 w32 w.heap.size oki31 (.slice (some ⟨go30, 0, none⟩) (rd_L1 x5_3 x7_2).length c112_0) y113 := (by rw [hw, Ny113.out]; exact HP31.1); have hp_ : Kd.S (Kd.slice 3 (Kd.int .i64)) 41 w32 w.heap.size (fun _ => True) (.slice (some ad107) x5_3.length co15) y115 := (by rw [Ny115.out]; exact hbk31 hg (fun k_ e_ => by injection e_ with e_; subst e_; exact ge31_0.1 _ rfl) (Kd.M_row hz_)); have hm_ := Kd.R_mono hz_ hok31; clear HP31 hbk31; have n0_ := Aside0.mk (hp_); have n1_ := Aside0.mk ((by rw [hw]; exact below_set (HB.out) GB30.out : Below w.heap.size w w32)); have n2_ := Aside0.mk (hm_); have n3_ := Aside0.mk ((Kd.R_reads' hm_).2.1); clear HO_5; clear HB; clear HL112_0; have HO_5 := n0_; have HB := n1_; have HL136 := n2_; have HC114 := n3_; clear n0_ n1_ n2_ n3_; have ne8_ := Aside0.mk (spec_bkTable_alkeep hg (spec_bkTable_alne (hok31 _ (ge31_0.1 _ rfl)).2) HE8.out); clear HE8; have HE8 := ne8_; clear ne8_; clear hg hw hp_ hz_ hm_ hok31)))
                  (try simp only [← hl5_3])
                  go_roundg k3
                  case measure => have := HK1.out; have := HK2.out; have := HK3.out; omega
                  case rel => exact ⟨(y115), (wrap64 (x9_3 - 1)), (by first | rfl | (simp; done) | (simp [*]; done)), H', ⟨by have := HK1.out; have := HK2.out; have := HK3.out; omega⟩, ⟨by (try simp only [hl5_3]); (with_reducible repeat (first | apply Kd.S_alloc | apply Kd.S_drewN | apply Kd.S_drew)); exact HO_5.out⟩, ⟨by repeat (first | (with_reducible first | exact HB.out | apply below_alloc | apply pw_below_drewN | apply below_drew1) | exact HB.out)⟩, ⟨by exact HE8.out⟩⟩
                 ·
                  rw [if_neg c29] at H
                  exact absurd H (by simp)
                ·
                 rw [if_neg c28] at H
                 exact absurd H (by simp)
               ·
                rw [if_neg c27] at H
                exact absurd H (by simp)
              ·
               rw [if_neg c26] at H
               exact absurd H (by simp)
             ·
              rw [if_neg c25] at H
              have c25b0 : (x9_3 == (a1.size : Int)) = false := beq_eq_false_iff_ne.mpr c25
              have c25b1 : (x9_3 != (a1.size : Int)) = true := bne_iff_ne.mpr c25
              obtain ⟨ji33, hji33⟩ : ∃ j_ : Int, (wrap64 (x7_2 + 1)) = j_ := ⟨_, rfl⟩
              replace H : (if 0 ≤ (ji33) then (if (ji33) < (x5_3.length : Int) then (if 0 ≤ x9_3 then (if x9_3 < ((rd_L1 x5_3 (ji33)).length : Int) then (if 0 ≤ x7_2 then (if x7_2 < (x5_3.length : Int) then (if 0 ≤ (wrap64 (x9_3 + 1)) then (if (wrap64 (x9_3 + 1)) < ((rd_L1 x5_3 x7_2).length : Int) then ((spec_l1Least.f (rd (rd_L1 x5_3 (ji33)) x9_3) (rd (rd_L1 x5_3 x7_2) (wrap64 (x9_3 + 1)))).bind fun t120 => (if x7_2 < (a0.size : Int) then (if x9_3 < (a1.size : Int) then (if (bt a0 x7_2) = (bt a1 x9_3) then (if (wrap64 (x9_3 + 1)) < ((rd_L1 x5_3 (ji33)).length : Int) then ((spec_l1Least.f (wrap64 (t120 + 1)) (wrap64 ((rd (rd_L1 x5_3 (ji33)) (wrap64 (x9_3 + 1))) + 0))).bind fun t124 => (if x9_3 < ((rd_L1 x5_3 x7_2).length : Int) then (spec_bkTable.l2 k3 a0 a1 (x5_3.set (x7_2 : Int).toNat ((rd_L1 x5_3 x7_2).set (x9_3 : Int).toNat t124)) x7_2 (wrap64 (x9_3 - 1))) else (none))) else (none)) else (if (wrap64 (x9_3 + 1)) < ((rd_L1 x5_3 (ji33)).length : Int) then ((spec_l1Least.f (wrap64 (t120 + 1)) (wrap64 ((rd (rd_L1 x5_3 (ji33)) (wrap64 (x9_3 + 1))) + 1))).bind fun t131 => (if x9_3 < ((rd_L1 x5_3 x7_2).length : Int) then (spec_bkTable.l2 k3 a0 a1 (x5_3.set (x7_2 : Int).toNat ((rd_L1 x5_3 x7_2).set (x9_3 : Int).toNat t131)) x7_2 (wrap64 (x9_3 - 1))) else (none))) else (none))) else (none)) else (none))) else (none)) else (none)) else (none)) else (none)) else (none)) else (none)) else (none)) else (none)) = some r := by first | (rw [hji33] at H; exact H) | (simp only [hji33] at H ⊢; exact H)
              have hji33w : (IntKind.i64.wrap (x7_2 + 1)) = ji33 := (i64_w _).trans hji33
              by_cases c34 : 0 ≤ (ji33)
              ·
               rw [if_pos c34] at H
               have c34b0 : decide (0 ≤ (ji33)) = true := decide_eq_true c34
               clear c34
               by_cases c35 : (ji33) < (x5_3.length : Int)
               ·
                rw [if_pos c35] at H
                have c35b0 : decide ((ji33) < (x5_3.length : Int)) = true := decide_eq_true c35
                (try (have c35b0_ := c35b0; rw [hl5_3] at c35b0_))
                clear c35
                by_cases c36 : 0 ≤ x9_3
                ·
                 rw [if_pos c36] at H
                 have c36b0 : decide (0 ≤ x9_3) = true := decide_eq_true c36
                 clear c36
                 by_cases c37 : x9_3 < ((rd_L1 x5_3 (ji33)).length : Int)
                 ·
                  rw [if_pos c37] at H
                  have c37b0 : decide (x9_3 < ((rd_L1 x5_3 (ji33)).length : Int)) = true := decide_eq_true c37
                  (try (have c37b0_ := c37b0; rw [hl5_3] at c37b0_))
                  clear c37
                  by_cases c38 : 0 ≤ x7_2
                  ·
                   rw [if_pos c38] at H
                   have c38b0 : decide (0 ≤ x7_2) = true := decide_eq_true c38
                   clear c38
                   by_cases c39 : x7_2 < (x5_3.length : Int)
                   ·
                    rw [if_pos c39] at H
                    have c39b0 : decide (x7_2 < (x5_3.length : Int)) = true := decide_eq_true c39
                    (try (have c39b0_ := c39b0; rw [hl5_3] at c39b0_))
                    clear c39
                    obtain ⟨ji40, hji40⟩ : ∃ j_ : Int, (wrap64 (x9_3 + 1)) = j_ := ⟨_, rfl⟩
                    replace H : (if 0 ≤ (ji40) then (if (ji40) < ((rd_L1 x5_3 x7_2).length : Int) then ((spec_l1Least.f (rd (rd_L1 x5_3 (ji33)) x9_3) (rd (rd_L1 x5_3 x7_2) (ji40))).bind fun t120 => (if x7_2 < (a0.size : Int) then (if x9_3 < (a1.size : Int) then (if (bt a0 x7_2) = (bt a1 x9_3) then (if (ji40) < ((rd_L1 x5_3 (ji33)).length : Int) then ((spec_l1Least.f (wrap64 (t120 + 1)) (wrap64 ((rd (rd_L1 x5_3 (ji33)) (ji40)) + 0))).bind fun t124 => (if x9_3 < ((rd_L1 x5_3 x7_2).length : Int) then (spec_bkTable.l2 k3 a0 a1 (x5_3.set (x7_2 : Int).toNat ((rd_L1 x5_3 x7_2).set (x9_3 : Int).toNat t124)) x7_2 (wrap64 (x9_3 - 1))) else (none))) else (none)) else (if (ji40) < ((rd_L1 x5_3 (ji33)).length : Int) then ((spec_l1Least.f (wrap64 (t120 + 1)) (wrap64 ((rd (rd_L1 x5_3 (ji33)) (ji40)) + 1))).bind fun t131 => (if x9_3 < ((rd_L1 x5_3 x7_2).length : Int) then (spec_bkTable.l2 k3 a0 a1 (x5_3.set (x7_2 : Int).toNat ((rd_L1 x5_3 x7_2).set (x9_3 : Int).toNat t131)) x7_2 (wrap64 (x9_3 - 1))) else (none))) else (none))) else (none)) else (none))) else (none)) else (none)) = some r := by first | (rw [hji40] at H; exact H) | (simp only [hji40] at H ⊢; exact H)
                    have hji40w : (IntKind.i64.wrap (x9_3 + 1)) = ji40 := (i64_w _).trans hji40
                    by_cases c41 : 0 ≤ (ji40)
                    ·
                     rw [if_pos c41] at H
                     have c41b0 : decide (0 ≤ (ji40)) = true := decide_eq_true c41
                     clear c41
                     by_cases c42 : (ji40) < ((rd_L1 x5_3 x7_2).length : Int)
                     ·
                      rw [if_pos c42] at H
                      have c42b0 : decide ((ji40) < ((rd_L1 x5_3 x7_2).length : Int)) = true := decide_eq_true c42
                      (try (have c42b0_ := c42b0; rw [hl5_3] at c42b0_))
                      clear c42
                      replace H := Option.bind_eq_some_iff.mp H
                      obtain ⟨t120, A430, H⟩ := H
                      replace H : (if x7_2 < (a0.size : Int) then (if x9_3 < (a1.size : Int) then (if (bt a0 x7_2) = (bt a1 x9_3) then (if (ji40) < ((rd_L1 x5_3 (ji33)).length : Int) then ((spec_l1Least.f (wrap64 (t120 + 1)) (wrap64 ((rd (rd_L1 x5_3 (ji33)) (ji40)) + 0))).bind fun t124 => (if x9_3 < ((rd_L1 x5_3 x7_2).length : Int) then (spec_bkTable.l2 k3 a0 a1 (x5_3.set (x7_2 : Int).toNat ((rd_L1 x5_3 x7_2).set (x9_3 : Int).toNat t124)) x7_2 (wrap64 (x9_3 - 1))) else (none))) else (none)) else (if (ji40) < ((rd_L1 x5_3 (ji33)).length : Int) then ((spec_l1Least.f (wrap64 (t120 + 1)) (wrap64 ((rd (rd_L1 x5_3 (ji33)) (ji40)) + 1))).bind fun t131 => (if x9_3 < ((rd_L1 x5_3 x7_2).length : Int) then (spec_bkTable.l2 k3 a0 a1 (x5_3.set (x7_2 : Int).toNat ((rd_L1 x5_3 x7_2).set (x9_3 : Int).toNat t131)) x7_2 (wrap64 (x9_3 - 1))) else (none))) else (none))) else (none)) else (none)) = some r := H
                      have A43 := Aside0.mk A430
                      clear A430
                      by_cases c44 : x7_2 < (a0.size : Int)
                      ·
                       rw [if_pos c44] at H
                       have c44b0 : decide (x7_2 < (a0.size : Int)) = true := decide_eq_true c44
                       clear c44
                       by_cases c46 : x9_3 < (a1.size : Int)
                       ·
                        rw [if_pos c46] at H
                        have c46b0 : decide (x9_3 < (a1.size : Int)) = true := decide_eq_true c46
                        clear c46
                        by_cases c48 : (bt a0 x7_2) = (bt a1 x9_3)
                        ·
                         rw [if_pos c48] at H
                         have c48b0 : ((bt a0 x7_2) == (bt a1 x9_3)) = true := beq_iff_eq.mpr c48
                         have c48b1 : ((bt a0 x7_2) != (bt a1 x9_3)) = false := bne_eq_false_iff_eq.mpr c48
                         clear c48
                         by_cases c49 : (ji40) < ((rd_L1 x5_3 (ji33)).length : Int)
                         ·
                          rw [if_pos c49] at H
                          have c49b0 : decide ((ji40) < ((rd_L1 x5_3 (ji33)).length : Int)) = true := decide_eq_true c49
                          (try (have c49b0_ := c49b0; rw [hl5_3] at c49b0_))
                          clear c49
                          replace H := Option.bind_eq_some_iff.mp H
                          obtain ⟨t124, A500, H⟩ := H
                          replace H : (if x9_3 < ((rd_L1 x5_3 x7_2).length : Int) then (spec_bkTable.l2 k3 a0 a1 (x5_3.set (x7_2 : Int).toNat ((rd_L1 x5_3 x7_2).set (x9_3 : Int).toNat t124)) x7_2 (wrap64 (x9_3 - 1))) else (none)) = some r := H
                          have A50 := Aside0.mk A500
                          clear A500
                          by_cases c51 : x9_3 < ((rd_L1 x5_3 x7_2).length : Int)
                          ·
                           rw [if_pos c51] at H
                           have c51b0 : decide (x9_3 < ((rd_L1 x5_3 x7_2).length : Int)) = true := decide_eq_true c51
                           (try (have c51b0_ := c51b0; rw [hl5_3] at c51b0_))
                           clear c51
                           obtain ⟨y125, hy125⟩ : ∃ y_ : List Int, y_ = ((rd_L1 x5_3 x7_2).set (x9_3 : Int).toNat t124) := ⟨_, rfl⟩
                           replace H : (spec_bkTable.l2 k3 a0 a1 (x5_3.set (x7_2 : Int).toNat y125) x7_2 (wrap64 (x9_3 - 1))) = some r := by first | (rw [hy125]; with_reducible exact H) | (have H2_ := (Option.bind_some _ _).symm.trans H; rw [hy125]; with_reducible exact H2_) | (have H2_ := (Option.bind_some _ _).symm.trans H; with_reducible exact H2_) | with_reducible exact H | (rw [hy125]; exact H) | exact H
                           have Ny125 := Aside0.mk hy125
                           clear hy125
                           obtain ⟨y127, hy127⟩ : ∃ y_ : List (List Int), y_ = (x5_3.set (x7_2 : Int).toNat y125) := ⟨_, rfl⟩
                           replace H : (spec_bkTable.l2 k3 a0 a1 y127 x7_2 (wrap64 (x9_3 - 1))) = some r := by first | (rw [hy127]; with_reducible exact H) | (have H2_ := (Option.bind_some _ _).symm.trans H; rw [hy127]; with_reducible exact H2_) | (have H2_ := (Option.bind_some _ _).symm.trans H; with_reducible exact H2_) | with_reducible exact H | (rw [hy127]; exact H) | exact H
                           have Ny127 := Aside0.mk hy127
                           clear hy127
                           have H' := Aside0.mk H
                           clear H
                           have p116 : 0 ≤ ((ji33) : Int) := of_decide_eq_true (by first | (with_reducible assumption) | assumption)
                           have q116 : (ji33) < (x5_3.length : Int) := of_decide_eq_true (by first | (with_reducible assumption) | assumption)
                           obtain ⟨ad116, A116_0, c116_0, e116, hx116_0, hl116_0, hi116_0⟩ := at_L1 (Kd.S_reads' HO_5.out).2.2 (ji33) p116 q116
                           obtain rfl : ad107 = ad116 := (by injection e116)
                           obtain ⟨ce116, hce116, hMe116, hcc116⟩ := Kd.S_get HO_5.out [] (ji33) p116 (by first | exact q116 | exact of_decide_eq_true (by first | (with_reducible assumption) | assumption) | (have e_ := (Kd.S_reads' HO_5.out).1; omega))
                           obtain ⟨ve116_0, rfl, ge116_0⟩ := hMe116
                           have hv116_0 := hcc116 0 _ rfl
                           rw [Nat.add_zero, show ((Kd.slice 3 (Kd.int .i64))).sz = 1 from rfl, Nat.mul_one] at hv116_0
                           replace hv116_0 := Option.some.inj (hv116_0.symm.trans hx116_0)
                           rw [hv116_0] at ge116_0
                           have HL116_0 := Aside0.mk (show Kd.R (Kd.int .i64) 3 _ _ _ _ (rd_L1 x5_3 (ji33)) from ge116_0)
                           clear hv116_0 ge116_0
                           have HX116_0 := Aside0.mk hx116_0
                           clear hcc116 hce116
                           have HR116_0 := Aside0.mk hi116_0
                           have HC116_0 := Aside0.mk hl116_0
                           clear hi116_0 hl116_0
                           replace p116 := eq_true p116
                           replace q116 := eq_true q116
                           have p117 : 0 ≤ (x9_3 : Int) := of_decide_eq_true (by first | (with_reducible assumption) | assumption)
                           have q117 : x9_3 < ((rd_L1 x5_3 (ji33)).length : Int) := of_decide_eq_true (by first | (with_reducible assumption) | assumption)
                           obtain ⟨ad117, e117, hx117_0⟩ := Kd.at_int (by repeat (first | (with_reducible exact HR116_0.out) | (with_reducible refine Kd.C_alloc ?_ _) | (with_reducible refine Kd.C_drewN ?_ _) | (with_reducible refine Kd.C_drew ?_) | exact HR116_0.out)) x9_3 p117 q117
                           cases e117
                           replace p117 := eq_true p117
                           replace q117 := eq_true q117
                           have p118 : 0 ≤ (x7_2 : Int) := of_decide_eq_true (by first | (with_reducible assumption) | assumption)
                           have q118 : x7_2 < (x5_3.length : Int) := of_decide_eq_true (by first | (with_reducible assumption) | assumption)
                           obtain ⟨ad118, A118_0, c118_0, e118, hx118_0, hl118_0, hi118_0⟩ := at_L1 (Kd.S_reads' HO_5.out).2.2 x7_2 p118 q118
                           obtain rfl : ad107 = ad118 := (by injection e118)
                           obtain ⟨ce118, hce118, hMe118, hcc118⟩ := Kd.S_get HO_5.out [] x7_2 p118 (by first | exact q118 | exact of_decide_eq_true (by first | (with_reducible assumption) | assumption) | (have e_ := (Kd.S_reads' HO_5.out).1; omega))
                           obtain ⟨ve118_0, rfl, ge118_0⟩ := hMe118
                           have hv118_0 := hcc118 0 _ rfl
                           rw [Nat.add_zero, show ((Kd.slice 3 (Kd.int .i64))).sz = 1 from rfl, Nat.mul_one] at hv118_0
                           replace hv118_0 := Option.some.inj (hv118_0.symm.trans hx118_0)
                           rw [hv118_0] at ge118_0
                           have HL118_0 := Aside0.mk (show Kd.R (Kd.int .i64) 3 _ _ _ _ (rd_L1 x5_3 x7_2) from ge118_0)
                           clear hv118_0 ge118_0
                           have HX118_0 := Aside0.mk hx118_0
                           (try (have eal_ := Option.some.inj (HE8.out.symm.trans hx118_0)))
                           (try subst eal_)
                           clear hcc118 hce118
                           have HR118_0 := Aside0.mk hi118_0
                           have HC118_0 := Aside0.mk hl118_0
                           clear hi118_0 hl118_0
                           replace p118 := eq_true p118
                           replace q118 := eq_true q118
                           have p119 : 0 ≤ ((ji40) : Int) := of_decide_eq_true (by first | (with_reducible assumption) | assumption)
                           have q119 : (ji40) < ((rd_L1 x5_3 x7_2).length : Int) := of_decide_eq_true (by first | (with_reducible assumption) | assumption)
                           obtain ⟨ad119, e119, hx119_0⟩ := Kd.at_int (by repeat (first | (with_reducible exact HR118_0.out) | (with_reducible refine Kd.C_alloc ?_ _) | (with_reducible refine Kd.C_drewN ?_ _) | (with_reducible refine Kd.C_drew ?_) | exact HR118_0.out)) (ji40) p119 q119
                           cases e119
                           replace p119 := eq_true p119
                           replace q119 := eq_true q119
                           go_wp2_with (first | (go_at_call 47; (with_reducible refine (spec_l1Least.calls (rd (rd_L1 x5_3 (ji33)) x9_3) (rd (rd_L1 x5_3 x7_2) (ji40)) t120 _ A43.out).mono ?_); rintro e w' ⟨rfl, ⟨nd, rfl⟩⟩; (try first | exact ⟨rfl, _, World.drewN_drewN _ _ _⟩ | exact ⟨rfl, _, Eq.trans (World.drewN_drewN _ _ _) (congrArg (World.drewN _) (Nat.add_assoc _ _ _))⟩); have p45 : 0 ≤ (x7_2 : Int) := of_decide_eq_true (by first | (with_reducible assumption) | assumption); have q45 : x7_2 < (a0.size : Int) := of_decide_eq_true (by first | (with_reducible assumption) | assumption); have hx45 := bt_at a0 x7_2; replace p45 := eq_true p45; replace q45 := eq_true q45; have p47 : 0 ≤ (x9_3 : Int) := of_decide_eq_true (by first | (with_reducible assumption) | assumption); have q47 : x9_3 < (a1.size : Int) := of_decide_eq_true (by first | (with_reducible assumption) | assumption); have hx47 := bt_at a1 x9_3; replace p47 := eq_true p47; replace q47 := eq_true q47; have p121 : 0 ≤ (x7_2 : Int) := of_decide_eq_true (by first | (with_reducible assumption) | assumption); have q121 : x7_2 < (x5_3.length : Int) := of_decide_eq_true (by first | (with_reducible assumption) | assumption); obtain ⟨ad121, A121_0, c121_0, e121, hx121_0, hl121_0, hi121_0⟩ := at_L1 (Kd.S_reads' HO_5.out).2.2 x7_2 p121 q121; obtain rfl : ad107 = ad121 := (by injection e121); obtain ⟨ce121, hce121, hMe121, hcc121⟩ := Kd.S_get HO_5.out [] x7_2 p121 (by first | exact q121 | exact of_decide_eq_true (by first | (with_reducible assumption) | assumption) | (have e_ := (Kd.S_reads' HO_5.out).1; omega)); obtain ⟨ve121_0, rfl, ge121_0⟩ := hMe121; have hv121_0 := hcc121 0 _ rfl; rw [Nat.add_zero, show ((Kd.slice 3 (Kd.int .i64))).sz = 1 from rfl, Nat.mul_one] at hv121_0; replace hv121_0 := Option.some.inj (hv121_0.symm.trans hx121_0); rw [hv121_0] at ge121_0; have HL121_0 := Aside0.mk (show Kd.R (Kd.int .i64) 3 _ _ _ _ (rd_L1 x5_3 x7_2) from ge121_0); clear hv121_0 ge121_0; have HX121_0 := Aside0.mk hx121_0; (try (have eal_ := Option.some.inj (HE8.out.symm.trans hx121_0))); (try subst eal_); clear hcc121 hce121; have HR121_0 := Aside0.mk hi121_0; have HC121_0 := Aside0.mk hl121_0; clear hi121_0 hl121_0; replace p121 := eq_true p121; replace q121 := eq_true q121; have ea_ := Option.some.inj (hx118_0.symm.trans hx121_0); injection ea_ with ea_ en_ ec_; subst ea_; subst ec_; clear en_; have p122 : 0 ≤ ((ji33) : Int) := of_decide_eq_true (by first | (with_reducible assumption) | assumption); have q122 : (ji33) < (x5_3.length : Int) := of_decide_eq_true (by first | (with_reducible assumption) | assumption); obtain ⟨ad122, A122_0, c122_0, e122, hx122_0, hl122_0, hi122_0⟩ := at_L1 (Kd.S_reads' HO_5.out).2.2 (ji33) p122 q122; obtain rfl : ad107 = ad122 := (by injection e122); obtain ⟨ce122, hce122, hMe122, hcc122⟩ := Kd.S_get HO_5.out [] (ji33) p122 (by first | exact q122 | exact of_decide_eq_true (by first | (with_reducible assumption) | assumption) | (have e_ := (Kd.S_reads' HO_5.out).1; omega)); obtain ⟨ve122_0, rfl, ge122_0⟩ := hMe122; have hv122_0 := hcc122 0 _ rfl; rw [Nat.add_zero, show ((Kd.slice 3 (Kd.int .i64))).sz = 1 from rfl, Nat.mul_one] at hv122_0; replace hv122_0 := Option.some.inj (hv122_0.symm.trans hx122_0); rw [hv122_0] at ge122_0; have HL122_0 := Aside0.mk (show Kd.R (Kd.int .i64) 3 _ _ _ _ (rd_L1 x5_3 (ji33)) from ge122_0); clear hv122_0 ge122_0; have HX122_0 := Aside0.mk hx122_0; clear hcc122 hce122; have HR122_0 := Aside0.mk hi122_0; have HC122_0 := Aside0.mk hl122_0; clear hi122_0 hl122_0; replace p122 := eq_true p122; replace q122 := eq_true q122; have ea_ := Option.some.inj (hx116_0.symm.trans hx122_0); injection ea_ with ea_ en_ ec_; subst ea_; subst ec_; clear en_; have p123 : 0 ≤ ((ji40) : Int) := of_decide_eq_true (by first | (with_reducible assumption) | assumption); have q123 : (ji40) < ((rd_L1 x5_3 (ji33)).length : Int) := of_decide_eq_true (by first | (with_reducible assumption) | assumption); obtain ⟨ad123, e123, hx123_0⟩ := Kd.at_int (by repeat (first | (with_reducible exact HR122_0.out) | (with_reducible refine Kd.C_alloc ?_ _) | (with_reducible refine Kd.C_drewN ?_ _) | (with_reducible refine Kd.C_drew ?_) | exact HR122_0.out)) (ji40) p123 q123; cases e123; replace p123 := eq_true p123; replace q123 := eq_true q123) | (go_at_call 47; (with_reducible refine (spec_l1Least.calls (wrap64 (t120 + 1)) (wrap64 (rd (rd_L1 x5_3 (ji33)) (ji40))) t124 _ (by have h_ := A50.out; simp only [Int.add_zero] at h_; exact h_)).mono ?_); rintro e w' ⟨rfl, ⟨nd, rfl⟩⟩; (try first | exact ⟨rfl, _, World.drewN_drewN _ _ _⟩ | exact ⟨rfl, _, Eq.trans (World.drewN_drewN _ _ _) (congrArg (World.drewN _) (Nat.add_assoc _ _ _))⟩); have p52 : 0 ≤ (x9_3 : Int) := of_decide_eq_true (by first | (with_reducible assumption) | assumption); have q52 : (x9_3 : Int) < (((rd_L1 x5_3 x7_2).length : Int) : Int) := of_decide_eq_true (by first | (with_reducible assumption) | assumption); obtain ⟨go52, co52, eo52, gb52, gl52, cl52, HG52⟩ := Kd.R_form HL121_0.out (by omega); (first | cases eo52 | (injection eo52 with ea_ en_ ec_; (first | subst ea_ | (injection ea_ with ea_; subst ea_)); subst ec_; clear en_)); have GB52 := Aside0.mk gb52; have GG52 := Aside0.mk HG52; clear gb52 gl52 HG52; (first | simp only [add_plain] at hx119_0 | skip); obtain ⟨hx52_0, hf52_0⟩ := Kd.R_celln 0 HL121_0.out (x9_3 : Int) p52 q52; replace p52 := eq_true p52; replace q52 := eq_true q52; have hq53 : (x7_2 : Int) < (x5_3.length : Int) := (by have h_ : (x7_2 : Int) < ((x5_3.length : Int) : Int) := of_decide_eq_true (by first | (with_reducible assumption) | assumption); first | exact h_ | (have e_ := (Kd.S_reads' HO_5.out).1; omega) | simpa only [List.length_set, List.length_set] using h_); obtain ⟨oki53, ce53, hcl53, hM53, hcc53, hok53, hbk53⟩ := Kd.S_borrow HO_5.out [] (x7_2 : Int) (of_decide_eq_true (by first | (with_reducible assumption) | assumption)) hq53; obtain ⟨ve53_0, rfl, ge53_0⟩ := hM53; have hv53 := hcc53 0 _ rfl; rw [Nat.add_zero, show ((Kd.slice 3 (Kd.int .i64))).sz = 1 from rfl, Nat.mul_one] at hv53; replace hv53 := Option.some.inj (hv53.symm.trans HX121_0.out); subst hv53; clear hcc53 hcl53; replace ge53_0 := (show Kd.R (Kd.int .i64) 3 _ _ _ _ (rd_L1 x5_3 x7_2) from ge53_0); have HP53 := Kd.R_putg ge53_0 (x9_3 : Int) t124) | ((with_reducible refine gate_store (t := 3) (p := 78) rfl ?_); (try (rw [drewN_self wr]; generalize hq_ : World.drewN wr _ = wr; have n0_ := Aside0.mk (Kd.S_at hq_ HO_5.out); have n1_ := Aside0.mk (Kd.R_at hq_ HL121_0.out); have n2_ := Aside0.mk (below_at hq_ HB.out); have nx_ := Aside0.mk (cell_at hq_ HX121_0.out); clear HX121_0; have HX121_0 := nx_; clear nx_; have nf_ := spec_bkTable_alfr hq_ hf52_0; clear hf52_0; have hf52_0 := nf_; clear nf_; have ne8_ := Aside0.mk (cell_at hq_ HE8.out); clear HE8; have HE8 := ne8_; clear ne8_; clear hq_ HO_5 HL121_0 HB; have HO_5 := n0_; have HL121_0 := n1_; have HB := n2_; clear n0_ n1_ n2_; (try (have hq53 : (x7_2 : Int) < (x5_3.length : Int) := (by have h_ : (x7_2 : Int) < ((x5_3.length : Int) : Int) := of_decide_eq_true (by first | (with_reducible assumption) | assumption); first | exact h_ | (have e_ := (Kd.S_reads' HO_5.out).1; omega) | simpa only [List.length_set, List.length_set] using h_))); (try (obtain ⟨oki53, ce53, hcl53, hM53, hcc53, hok53, hbk53⟩ := Kd.S_borrow HO_5.out [] (x7_2 : Int) (of_decide_eq_true (by first | (with_reducible assumption) | assumption)) hq53)); (try (obtain ⟨ve53_0, rfl, ge53_0⟩ := hM53)); (try (have hv53 := hcc53 0 _ rfl)); (try (rw [Nat.add_zero, show ((Kd.slice 3 (Kd.int .i64))).sz = 1 from rfl, Nat.mul_one] at hv53)); (try (replace hv53 := Option.some.inj (hv53.symm.trans HX121_0.out))); (try (subst hv53)); (try (clear hcc53 hcl53)); (try (replace ge53_0 := (show Kd.R (Kd.int .i64) 3 _ _ _ _ (rd_L1 x5_3 x7_2) from ge53_0))); (try (have HP53 := Kd.R_putg ge53_0 (x9_3 : Int) t124)))); refine store_event (t := 3) (p := 78) (v := ?vo_w54) (w1 := (wr.setCell ⟨go52, (x9_3 : Int).toNat, none⟩ (.int .i64 t124))) ?hg ?ho ?hn ?hr ?_; (case ho => rfl); (case hg => rfl); (case hn => rfl); (case hr => first | (go_simp; done) | (go_simp; rfl)); intro w54 hw; have hg : wr.grownBy w54 (some go52) := (by rw [hw]; exact HP53.2); have hz_ : Kd.R (Kd.int .i64) 3 w54 w.heap.size oki53 (.slice (some ⟨go52, 0, none⟩) (rd_L1 x5_3 x7_2).length c118_0) y125 := (by rw [hw, Ny125.out]; exact HP53.1); have hp_ : Kd.S (Kd.slice 3 (Kd.int .i64)) 41 w54 w.heap.size (fun _ => True) (.slice (some ad107) x5_3.length co15) y127 := (by rw [Ny127.out]; exact hbk53 hg (fun k_ e_ => by injection e_ with e_; subst e_; exact ge53_0.1 _ rfl) (Kd.M_row hz_)); have hm_ := Kd.R_mono hz_ hok53; clear HP53 hbk53; have n0_ := Aside0.mk (hp_); have n1_ := Aside0.mk ((by rw [hw]; exact below_set (HB.out) GB52.out : Below w.heap.size w w54)); have n2_ := Aside0.mk (hm_); have n3_ := Aside0.mk ((Kd.R_reads' hm_).2.1); clear HO_5; clear HB; clear HL116_0; clear HL118_0; clear HL121_0; clear HL122_0; have HO_5 := n0_; have HB := n1_; have HL137 := n2_; have HC126 := n3_; clear n0_ n1_ n2_ n3_; have ne8_ := Aside0.mk (spec_bkTable_alkeep hg (spec_bkTable_alne (hok53 _ (ge53_0.1 _ rfl)).2) HE8.out); clear HE8; have HE8 := ne8_; clear ne8_; clear hg hw hp_ hz_ hm_ hok53))
                           repeat (go_quiet (first | (go_at_call 47; (with_reducible refine (spec_l1Least.calls (rd (rd_L1 x5_3 (ji33)) x9_3) (rd (rd_L1 x5_3 x7_2) (ji40)) t120 _ A43.out).mono ?_); rintro e w' ⟨rfl, ⟨nd, rfl⟩⟩; (try first | exact ⟨rfl, _, World.drewN_drewN _ _ _⟩ | exact ⟨rfl, _, Eq.trans (World.drewN_drewN _ _ _) (congrArg (World.drewN _) (Nat.add_assoc _ _ _))⟩); have p45 : 0 ≤ (x7_2 : Int) := of_decide_eq_true (by first | (with_reducible assumption) | assumption); have q45 : x7_2 < (a0.size : Int) := of_decide_eq_true (by first | (with_reducible assumption) | assumption); have hx45 := bt_at a0 x7_2; replace p45 := eq_true p45; replace q45 := eq_true q45; have p47 : 0 ≤ (x9_3 : Int) := of_decide_eq_true (by first | (with_reducible assumption) | assumption); have q47 : x9_3 < (a1.size : Int) := of_decide_eq_true (by first | (with_reducible assumption) | assumption); have hx47 := bt_at a1 x9_3; replace p47 := eq_true p47; replace q47 := eq_true q47; have p121 : 0 ≤ (x7_2 : Int) := of_decide_eq_true (by first | (with_reducible assumption) | assumption); have q121 : x7_2 < (x5_3.length : Int) := of_decide_eq_true (by first | (with_reducible assumption) | assumption); obtain ⟨ad121, A121_0, c121_0, e121, hx121_0, hl121_0, hi121_0⟩ := at_L1 (Kd.S_reads' HO_5.out).2.2 x7_2 p121 q121; obtain rfl : ad107 = ad121 := (by injection e121); obtain ⟨ce121, hce121, hMe121, hcc121⟩ := Kd.S_get HO_5.out [] x7_2 p121 (by first | exact q121 | exact of_decide_eq_true (by first | (with_reducible assumption) | assumption) | (have e_ := (Kd.S_reads' HO_5.out).1; omega)); obtain ⟨ve121_0, rfl, ge121_0⟩ := hMe121; have hv121_0 := hcc121 0 _ rfl; rw [Nat.add_zero, show ((Kd.slice 3 (Kd.int .i64))).sz = 1 from rfl, Nat.mul_one] at hv121_0; replace hv121_0 := Option.some.inj (hv121_0.symm.trans hx121_0); rw [hv121_0] at ge121_0; have HL121_0 := Aside0.mk (show Kd.R (Kd.int .i64) 3 _ _ _ _ (rd_L1 x5_3 x7_2) from ge121_0); clear hv121_0 ge121_0; have HX121_0 := Aside0.mk hx121_0; (try (have eal_ := Option.some.inj (HE8.out.symm.trans hx121_0))); (try subst eal_); clear hcc121 hce121; have HR121_0 := Aside0.mk hi121_0; have HC121_0 := Aside0.mk hl121_0; clear hi121_0 hl121_0; replace p121 := eq_true p121; replace q121 := eq_true q121; have ea_ := Option.some.inj (hx118_0.symm.trans hx121_0); injection ea_ with ea_ en_ ec_; subst ea_; subst ec_; clear en_; have p122 : 0 ≤ ((ji33) : Int) := of_decide_eq_true (by first | (with_reducible assumption) | assumption); have q122 : (ji33) < (x5_3.length : Int) := of_decide_eq_true (by first | (with_reducible assumption) | assumption); obtain ⟨ad122, A122_0, c122_0, e122, hx122_0, hl122_0, hi122_0⟩ := at_L1 (Kd.S_reads' HO_5.out).2.2 (ji33) p122 q122; obtain rfl : ad107 = ad122 := (by injection e122); obtain ⟨ce122, hce122, hMe122, hcc122⟩ := Kd.S_get HO_5.out [] (ji33) p122 (by first | exact q122 | exact of_decide_eq_true (by first | (with_reducible assumption) | assumption) | (have e_ := (Kd.S_reads' HO_5.out).1; omega)); obtain ⟨ve122_0, rfl, ge122_0⟩ := hMe122; have hv122_0 := hcc122 0 _ rfl; rw [Nat.add_zero, show ((Kd.slice 3 (Kd.int .i64))).sz = 1 from rfl, Nat.mul_one] at hv122_0; replace hv122_0 := Option.some.inj (hv122_0.symm.trans hx122_0); rw [hv122_0] at ge122_0; have HL122_0 := Aside0.mk (show Kd.R (Kd.int .i64) 3 _ _ _ _ (rd_L1 x5_3 (ji33)) from ge122_0); clear hv122_0 ge122_0; have HX122_0 := Aside0.mk hx122_0; clear hcc122 hce122; have HR122_0 := Aside0.mk hi122_0; have HC122_0 := Aside0.mk hl122_0; clear hi122_0 hl122_0; replace p122 := eq_true p122; replace q122 := eq_true q122; have ea_ := Option.some.inj (hx116_0.symm.trans hx122_0); injection ea_ with ea_ en_ ec_; subst ea_; subst ec_; clear en_; have p123 : 0 ≤ ((ji40) : Int) := of_decide_eq_true (by first | (with_reducible assumption) | assumption); have q123 : (ji40) < ((rd_L1 x5_3 (ji33)).length : Int) := of_decide_eq_true (by first | (with_reducible assumption) | assumption); obtain ⟨ad123, e123, hx123_0⟩ := Kd.at_int (by repeat (first | (with_reducible exact HR122_0.out) | (with_reducible refine Kd.C_alloc ?_ _) | (with_reducible refine Kd.C_drewN ?_ _) | (with_reducible refine Kd.C_drew ?_) | exact HR122_0.out)) (ji40) p123 q123; cases e123; replace p123 := eq_true p123; replace q123 := eq_true q123) | (go_at_call 47; (with_reducible refine (spec_l1Least.calls (wrap64 (t120 + 1)) (wrap64 (rd (rd_L1 x5_3 (ji33)) (ji40))) t124 _ (by have h_ := A50.out; simp only [Int.add_zero] at h_; exact h_)).mono ?_); rintro e w' ⟨rfl, ⟨nd, rfl⟩⟩; (try first | exact ⟨rfl, _, World.drewN_drewN _ _ _⟩ | exact ⟨rfl, _, Eq.trans (World.drewN_drewN _ _ _) (congrArg (World.drewN _) (Nat.add_assoc _ _ _))⟩); have p52 : 0 ≤ (x9_3 : Int) := of_decide_eq_true (by first | (with_reducible assumption) | assumption); have q52 : (x9_3 : Int) < (((rd_L1 x5_3 x7_2).length : Int) : Int) := of_decide_eq_true (by first | (with_reducible assumption) | assumption); obtain ⟨go52, co52, eo52, gb52, gl52, cl52, HG52⟩ := Kd.R_form HL121_0.out (by omega); (first | cases eo52 | (injection eo52 with ea_ en_ ec_; (first | subst ea_ | (injection ea_ with ea_; subst ea_)); subst ec_; clear en_)); have GB52 := Aside0.mk gb52; have GG52 := Aside0.mk HG52; clear gb52 gl52 HG52; (first | simp only [add_plain] at hx119_0 | skip); obtain ⟨hx52_0, hf52_0⟩ := Kd.R_celln 0 HL121_0.out (x9_3 : Int) p52 q52; replace p52 := eq_true p52; replace q52 := eq_true q52; have hq53 : (x7_2 : Int) < (x5_3.length : Int) := (by have h_ : (x7_2 : Int) < ((x5_3.length : Int) : Int) := of_decide_eq_true (by first | (with_reducible assumption) | assumption); first | exact h_ | (have e_ := (Kd.S_reads' HO_5.out).1; omega) | simpa only [List.length_set, List.length_set] using h_); obtain ⟨oki53, ce53, hcl53, hM53, hcc53, hok53, hbk53⟩ := Kd.S_borrow HO_5.out [] (x7_2 : Int) (of_decide_eq_true (by first | (with_reducible assumption) | assumption)) hq53; obtain ⟨ve53_0, rfl, ge53_0⟩ := hM53; have hv53 := hcc53 0 _ rfl; rw [Nat.add_zero, show ((Kd.slice 3 (Kd.int .i64))).sz = 1 from rfl, Nat.mul_one] at hv53; replace hv53 := Option.some.inj (hv53.symm.trans HX121_0.out); subst hv53; clear hcc53 hcl53; replace ge53_0 := (show Kd.R (Kd.int .i64) 3 _ _ _ _ (rd_L1 x5_3 x7_2) from ge53_0); have HP53 := Kd.R_putg ge53_0 (x9_3 : Int) t124) | ((with_reducible refine gate_store (t := 3) (p := 78) rfl ?_); (try (rw [drewN_self wr]; generalize hq_ : World.drewN wr _ = wr; have n0_ := Aside0.mk (Kd.S_at hq_ HO_5.out); have n1_ := Aside0.mk (Kd.R_at hq_ HL137.out); have n2_ := Aside0.mk (below_at hq_ HB.out); clear hq_ HO_5 HL137 HB; have HO_5 := n0_; have HL137 := n1_; have HB := n2_; clear n0_ n1_ n2_; (try (have hq53 : (x7_2 : Int) < (x5_3.length : Int) := (by have h_ : (x7_2 : Int) < ((x5_3.length : Int) : Int) := of_decide_eq_true (by first | (with_reducible assumption) | assumption); first | exact h_ | (have e_ := (Kd.S_reads' HO_5.out).1; omega) | simpa only [List.length_set, List.length_set] using h_))); (try (obtain ⟨oki53, ce53, hcl53, hM53, hcc53, hok53, hbk53⟩ := Kd.S_borrow HO_5.out [] (x7_2 : Int) (of_decide_eq_true (by first | (with_reducible assumption) | assumption)) hq53)); (try (obtain ⟨ve53_0, rfl, ge53_0⟩ := hM53)); (try (have hv53 := hcc53 0 _ rfl)); (try (rw [Nat.add_zero, show ((Kd.slice 3 (Kd.int .i64))).sz = 1 from rfl, Nat.mul_one] at hv53)); (try (replace hv53 := Option.some.inj (hv53.symm.trans HX121_0.out))); (try (subst hv53)); (try (clear hcc53 hcl53)); (try (replace ge53_0 := (show Kd.R (Kd.int .i64) 3 _ _ _ _ (rd_L1 x5_3 x7_2) from ge53_0))); (try (have HP53 := Kd.R_putg ge53_0 (x9_3 : Int) t124)))); refine store_event (t := 3) (p := 78) (v := ?vo_w54) (w1 := (wr.setCell ⟨go52, (x9_3 : Int).toNat, none⟩ (.int .i64 t124))) ?hg ?ho ?hn ?hr ?_; (case ho => rfl); (case hg => rfl); (case hn => rfl); (case hr => first | (go_simp; done) | (go_simp; rfl)); intro w54 hw; have hg : wr.grownBy w54 (some go52) := (by rw [hw]; exact HP53.2); have hz_ : Kd.R (Kd.int .i64) 3 w54 w.heap.size oki53 (.slice (some ⟨go52, 0, none⟩) (rd_L1 x5_3 x7_2).length c118_0) y125 := (by rw [hw, Ny125.out]; exact HP53.1); have hp_ : Kd.S (Kd.slice 3 (Kd.int .i64)) 41 w54 w.heap.size (fun _ => True) (.slice (some ad107) x5_3.length co15) y127 := (by rw [Ny127.out]; exact hbk53 hg (fun k_ e_ => by injection e_ with e_; subst e_; exact ge53_0.1 _ rfl) (Kd.M_row hz_)); have hm_ := Kd.R_mono hz_ hok53; clear HP53 hbk53; have n0_ := Aside0.mk (hp_); have n1_ := Aside0.mk ((by rw [hw]; exact below_set (HB.out) GB52.out : Below w.heap.size w w54)); have n2_ := Aside0.mk (hm_); have n3_ := Aside0.mk ((Kd.R_reads' hm_).2.1); clear HO_5; clear HB; clear HL116_0; clear HL118_0; clear HL121_0; clear HL122_0; have HO_5 := n0_; have HB := n1_; have HL137 := n2_; have HC126 := n3_; clear n0_ n1_ n2_ n3_; clear hg hw hp_ hz_ hm_ hok53)); try go_wp2_with (first | (go_at_call 47; (with_reducible refine (spec_l1Least.calls (rd (rd_L1 x5_3 (ji33)) x9_3) (rd (rd_L1 x5_3 x7_2) (ji40)) t120 _ A43.out).mono ?_); rintro e w' ⟨rfl, ⟨nd, rfl⟩⟩; (try first | exact ⟨rfl, _, World.drewN_drewN _ _ _⟩ | exact ⟨rfl, _, Eq.trans (World.drewN_drewN _ _ _) (congrArg (World.drewN _) (Nat.add_assoc _ _ _))⟩); have p45 : 0 ≤ (x7_2 : Int) := of_decide_eq_true (by first | (with_reducible assumption) | assumption); have q45 : x7_2 < (a0.size : Int) := of_decide_eq_true (by first | (with_reducible assumption) | assumption); have hx45 := bt_at a0 x7_2; replace p45 := eq_true p45; replace q45 := eq_true q45; have p47 : 0 ≤ (x9_3 : Int) := of_decide_eq_true (by first | (with_reducible assumption) | assumption); have q47 : x9_3 < (a1.size : Int) := of_decide_eq_true (by first | (with_reducible assumption) | assumption); have hx47 := bt_at a1 x9_3; replace p47 := eq_true p47; replace q47 := eq_true q47; have p121 : 0 ≤ (x7_2 : Int) := of_decide_eq_true (by first | (with_reducible assumption) | assumption); have q121 : x7_2 < (x5_3.length : Int) := of_decide_eq_true (by first | (with_reducible assumption) | assumption); obtain ⟨ad121, A121_0, c121_0, e121, hx121_0, hl121_0, hi121_0⟩ := at_L1 (Kd.S_reads' HO_5.out).2.2 x7_2 p121 q121; obtain rfl : ad107 = ad121 := (by injection e121); obtain ⟨ce121, hce121, hMe121, hcc121⟩ := Kd.S_get HO_5.out [] x7_2 p121 (by first | exact q121 | exact of_decide_eq_true (by first | (with_reducible assumption) | assumption) | (have e_ := (Kd.S_reads' HO_5.out).1; omega)); obtain ⟨ve121_0, rfl, ge121_0⟩ := hMe121; have hv121_0 := hcc121 0 _ rfl; rw [Nat.add_zero, show ((Kd.slice 3 (Kd.int .i64))).sz = 1 from rfl, Nat.mul_one] at hv121_0; replace hv121_0 := Option.some.inj (hv121_0.symm.trans hx121_0); rw [hv121_0] at ge121_0; have HL121_0 := Aside0.mk (show Kd.R (Kd.int .i64) 3 _ _ _ _ (rd_L1 x5_3 x7_2) from ge121_0); clear hv121_0 ge121_0; have HX121_0 := Aside0.mk hx121_0; (try (have eal_ := Option.some.inj (HE8.out.symm.trans hx121_0))); (try subst eal_); clear hcc121 hce121; have HR121_0 := Aside0.mk hi121_0; have HC121_0 := Aside0.mk hl121_0; clear hi121_0 hl121_0; replace p121 := eq_true p121; replace q121 := eq_true q121; have ea_ := Option.some.inj (hx118_0.symm.trans hx121_0); injection ea_ with ea_ en_ ec_; subst ea_; subst ec_; clear en_; have p122 : 0 ≤ ((ji33) : Int) := of_decide_eq_true (by first | (with_reducible assumption) | assumption); have q122 : (ji33) < (x5_3.length : Int) := of_decide_eq_true (by first | (with_reducible assumption) | assumption); obtain ⟨ad122, A122_0, c122_0, e122, hx122_0, hl122_0, hi122_0⟩ := at_L1 (Kd.S_reads' HO_5.out).2.2 (ji33) p122 q122; obtain rfl : ad107 = ad122 := (by injection e122); obtain ⟨ce122, hce122, hMe122, hcc122⟩ := Kd.S_get HO_5.out [] (ji33) p122 (by first | exact q122 | exact of_decide_eq_true (by first | (with_reducible assumption) | assumption) | (have e_ := (Kd.S_reads' HO_5.out).1; omega)); obtain ⟨ve122_0, rfl, ge122_0⟩ := hMe122; have hv122_0 := hcc122 0 _ rfl; rw [Nat.add_zero, show ((Kd.slice 3 (Kd.int .i64))).sz = 1 from rfl, Nat.mul_one] at hv122_0; replace hv122_0 := Option.some.inj (hv122_0.symm.trans hx122_0); rw [hv122_0] at ge122_0; have HL122_0 := Aside0.mk (show Kd.R (Kd.int .i64) 3 _ _ _ _ (rd_L1 x5_3 (ji33)) from ge122_0); clear hv122_0 ge122_0; have HX122_0 := Aside0.mk hx122_0; clear hcc122 hce122; have HR122_0 := Aside0.mk hi122_0; have HC122_0 := Aside0.mk hl122_0; clear hi122_0 hl122_0; replace p122 := eq_true p122; replace q122 := eq_true q122; have ea_ := Option.some.inj (hx116_0.symm.trans hx122_0); injection ea_ with ea_ en_ ec_; subst ea_; subst ec_; clear en_; have p123 : 0 ≤ ((ji40) : Int) := of_decide_eq_true (by first | (with_reducible assumption) | assumption); have q123 : (ji40) < ((rd_L1 x5_3 (ji33)).length : Int) := of_decide_eq_true (by first | (with_reducible assumption) | assumption); obtain ⟨ad123, e123, hx123_0⟩ := Kd.at_int (by repeat (first | (with_reducible exact HR122_0.out) | (with_reducible refine Kd.C_alloc ?_ _) | (with_reducible refine Kd.C_drewN ?_ _) | (with_reducible refine Kd.C_drew ?_) | exact HR122_0.out)) (ji40) p123 q123; cases e123; replace p123 := eq_true p123; replace q123 := eq_true q123) | (go_at_call 47; (with_reducible refine (spec_l1Least.calls (wrap64 (t120 + 1)) (wrap64 (rd (rd_L1 x5_3 (ji33)) (ji40))) t124 _ (by have h_ := A50.out; simp only [Int.add_zero] at h_; exact h_)).mono ?_); rintro e w' ⟨rfl, ⟨nd, rfl⟩⟩; (try first | exact ⟨rfl, _, World.drewN_drewN _ _ _⟩ | exact ⟨rfl, _, Eq.trans (World.drewN_drewN _ _ _) (congrArg (World.drewN _) (Nat.add_assoc _ _ _))⟩); have p52 : 0 ≤ (x9_3 : Int) := of_decide_eq_true (by first | (with_reducible assumption) | assumption); have q52 : (x9_3 : Int) < (((rd_L1 x5_3 x7_2).length : Int) : Int) := of_decide_eq_true (by first | (with_reducible assumption) | assumption); obtain ⟨go52, co52, eo52, gb52, gl52, cl52, HG52⟩ := Kd.R_form HL121_0.out (by omega); (first | cases eo52 | (injection eo52 with ea_ en_ ec_; (first | subst ea_ | (injection ea_ with ea_; subst ea_)); subst ec_; clear en_)); have GB52 := Aside0.mk gb52; have GG52 := Aside0.mk HG52; clear gb52 gl52 HG52; (first | simp only [add_plain] at hx119_0 | skip); obtain ⟨hx52_0, hf52_0⟩ := Kd.R_celln 0 HL121_0.out (x9_3 : Int) p52 q52; replace p52 := eq_true p52; replace q52 := eq_true q52; have hq53 : (x7_2 : Int) < (x5_3.length : Int) := (by have h_ : (x7_2 : Int) < ((x5_3.length : Int) : Int) := of_decide_eq_true (by first | (with_reducible assumption) | assumption); first | exact h_ | (have e_ := (Kd.S_reads' HO_5.out).1; omega) | simpa only [List.length_set, List.length_set] using h_); obtain ⟨oki53, ce53, hcl53, hM53, hcc53, hok53, hbk53⟩ := Kd.S_borrow HO_5.out [] (x7_2 : Int) (of_decide_eq_true (by first | (with_reducible assumption) | assumption)) hq53; obtain ⟨ve53_0, rfl, ge53_0⟩ := hM53; have hv53 := hcc53 0 _ rfl; rw [Nat.add_zero, show ((Kd.slice 3 (Kd.int .i64))).sz = 1 from rfl, Nat.mul_one] at hv53; replace hv53 := Option.some.inj (hv53.symm.trans HX121_0.out); subst hv53; clear hcc53 hcl53; replace ge53_0 := (show Kd.R (Kd.int .i64) 3 _ _ _ _ (rd_L1 x5_3 x7_2) from ge53_0); have HP53 := Kd.R_putg ge53_0 (x9_3 : Int) t124) | ((with_reducible refine gate_store (t := 3) (p := 78) rfl ?_); (try (rw [drewN_self wr]; generalize hq_ : World.drewN wr _ = wr; have n0_ := Aside0.mk (Kd.S_at hq_ HO_5.out); have n1_ := Aside0.mk (Kd.R_at hq_ HL137.out); have n2_ := Aside0.mk (below_at hq_ HB.out); clear hq_ HO_5 HL137 HB; have HO_5 := n0_; have HL137 := n1_; have HB := n2_; clear n0_ n1_ n2_; (try (have hq53 : (x7_2 : Int) < (x5_3.length : Int) := (by have h_ : (x7_2 : Int) < ((x5_3.length : Int) : Int) := of_decide_eq_true (by first | (with_reducible assumption) | assumption); first | exact h_ | (have e_ := (Kd.S_reads' HO_5.out).1; omega) | simpa only [List.length_set, List.length_set] using h_))); (try (obtain ⟨oki53, ce53, hcl53, hM53, hcc53, hok53, hbk53⟩ := Kd.S_borrow HO_5.out [] (x7_2 : Int) (of_decide_eq_true (by first | (with_reducible assumption) | assumption)) hq53)); (try (obtain ⟨ve53_0, rfl, ge53_0⟩ := hM53)); (try (have hv53 := hcc53 0 _ rfl)); (try (rw [Nat.add_zero, show ((Kd.slice 3 (Kd.int .i64))).sz = 1 from rfl, Nat.mul_one] at hv53)); (try (replace hv53 := Option.some.inj (hv53.symm.trans HX121_0.out))); (try (subst hv53)); (try (clear hcc53 hcl53)); (try (replace ge53_0 := (show Kd.R (Kd.int .i64) 3 _ _ _ _ (rd_L1 x5_3 x7_2) from ge53_0))); (try (have HP53 := Kd.R_putg ge53_0 (x9_3 : Int) t124)))); refine store_event (t := 3) (p := 78) (v := ?vo_w54) (w1 := (wr.setCell ⟨go52, (x9_3 : Int).toNat, none⟩ (.int .i64 t124))) ?hg ?ho ?hn ?hr ?_; (case ho => rfl); (case hg => rfl); (case hn => rfl); (case hr => first | (go_simp; done) | (go_simp; rfl)); intro w54 hw; have hg : wr.grownBy w54 (some go52) := (by rw [hw]; exact HP53.2); have hz_ : Kd.R (Kd.int .i64) 3 w54 w.heap.size oki53 (.slice (some ⟨go52, 0, none⟩) (rd_L1 x5_3 x7_2).length c118_0) y125 := (by rw [hw, Ny125.out]; exact HP53.1); have hp_ : Kd.S (Kd.slice 3 (Kd.int .i64)) 41 w54 w.heap.size (fun _ => True) (.slice (some ad107) x5_3.length co15) y127 := (by rw [Ny127.out]; exact hbk53 hg (fun k_ e_ => by injection e_ with e_; subst e_; exact ge53_0.1 _ rfl) (Kd.M_row hz_)); have hm_ := Kd.R_mono hz_ hok53; clear HP53 hbk53; have n0_ := Aside0.mk (hp_); have n1_ := Aside0.mk ((by rw [hw]; exact below_set (HB.out) GB52.out : Below w.heap.size w w54)); have n2_ := Aside0.mk (hm_); have n3_ := Aside0.mk ((Kd.R_reads' hm_).2.1); clear HO_5; clear HB; clear HL116_0; clear HL118_0; clear HL121_0; clear HL122_0; have HO_5 := n0_; have HB := n1_; have HL137 := n2_; have HC126 := n3_; clear n0_ n1_ n2_ n3_; clear hg hw hp_ hz_ hm_ hok53)))
                           generalize hq_ : World.drewN wr _ = wq_
                           have hs_ := spec_bkTable_alst (k := x9_3) (x := t124) (Kd.S_at hq_ HO_5.out) (of_eq_true p121) (of_eq_true q121) (cell_at hq_ HE8.out)
                           have n0_ := hs_.1
                           rw [← Ny125.out, ← Ny127.out] at n0_
                           have n1_ := Aside0.mk (below_set (below_at hq_ HB.out) hs_.2.2 (j := (x9_3 : Int).toNat) (v := .int .i64 t124))
                           have n2_ := Aside0.mk hs_.2.1
                           clear HO_5 HB HE8
                           have HO_5 := Aside0.mk n0_
                           have HB := n1_
                           have HE8 := n2_
                           clear n0_ n1_ n2_ hs_
                           (try simp only [← hl5_3])
                           go_roundg k3
                           case measure => have := HK1.out; have := HK2.out; have := HK3.out; omega
                           case rel => exact ⟨(y127), (wrap64 (x9_3 - 1)), (by first | rfl | (simp; done) | (simp [*]; done)), H', ⟨by have := HK1.out; have := HK2.out; have := HK3.out; omega⟩, ⟨by (try simp only [hl5_3]); (with_reducible repeat (first | apply Kd.S_alloc | apply Kd.S_drewN | apply Kd.S_drew)); exact HO_5.out⟩, ⟨by repeat (first | (with_reducible first | exact HB.out | apply below_alloc | apply pw_below_drewN | apply below_drew1) | exact HB.out)⟩, ⟨by exact HE8.out⟩⟩
                          ·
                           rw [if_neg c51] at H
                           exact absurd H (by simp)
                         ·
                          rw [if_neg c49] at H
                          exact absurd H (by simp)
                        ·
                         rw [if_neg c48] at H
                         have c48b0 : ((bt a0 x7_2) == (bt a1 x9_3)) = false := beq_eq_false_iff_ne.mpr c48
                         have c48b1 : ((bt a0 x7_2) != (bt a1 x9_3)) = true := bne_iff_ne.mpr c48
                         by_cases c55 : (ji40) < ((rd_L1 x5_3 (ji33)).length : Int)
                         ·
                          rw [if_pos c55] at H
                          have c55b0 : decide ((ji40) < ((rd_L1 x5_3 (ji33)).length : Int)) = true := decide_eq_true c55
                          (try (have c55b0_ := c55b0; rw [hl5_3] at c55b0_))
                          clear c55
                          replace H := Option.bind_eq_some_iff.mp H
                          obtain ⟨t131, A560, H⟩ := H
                          replace H : (if x9_3 < ((rd_L1 x5_3 x7_2).length : Int) then (spec_bkTable.l2 k3 a0 a1 (x5_3.set (x7_2 : Int).toNat ((rd_L1 x5_3 x7_2).set (x9_3 : Int).toNat t131)) x7_2 (wrap64 (x9_3 - 1))) else (none)) = some r := H
                          have A56 := Aside0.mk A560
                          clear A560
                          by_cases c57 : x9_3 < ((rd_L1 x5_3 x7_2).length : Int)
                          ·
                           rw [if_pos c57] at H
                           have c57b0 : decide (x9_3 < ((rd_L1 x5_3 x7_2).length : Int)) = true := decide_eq_true c57
                           (try (have c57b0_ := c57b0; rw [hl5_3] at c57b0_))
                           clear c57
                           obtain ⟨y132, hy132⟩ : ∃ y_ : List Int, y_ = ((rd_L1 x5_3 x7_2).set (x9_3 : Int).toNat t131) := ⟨_, rfl⟩
                           replace H : (spec_bkTable.l2 k3 a0 a1 (x5_3.set (x7_2 : Int).toNat y132) x7_2 (wrap64 (x9_3 - 1))) = some r := by first | (rw [hy132]; with_reducible exact H) | (have H2_ := (Option.bind_some _ _).symm.trans H; rw [hy132]; with_reducible exact H2_) | (have H2_ := (Option.bind_some _ _).symm.trans H; with_reducible exact H2_) | with_reducible exact H | (rw [hy132]; exact H) | exact H
                           have Ny132 := Aside0.mk hy132
                           clear hy132
                           obtain ⟨y134, hy134⟩ : ∃ y_ : List (List Int), y_ = (x5_3.set (x7_2 : Int).toNat y132) := ⟨_, rfl⟩
                           replace H : (spec_bkTable.l2 k3 a0 a1 y134 x7_2 (wrap64 (x9_3 - 1))) = some r := by first | (rw [hy134]; with_reducible exact H) | (have H2_ := (Option.bind_some _ _).symm.trans H; rw [hy134]; with_reducible exact H2_) | (have H2_ := (Option.bind_some _ _).symm.trans H; with_reducible exact H2_) | with_reducible exact H | (rw [hy134]; exact H) | exact H
                           have Ny134 := Aside0.mk hy134
                           clear hy134
                           have H' := Aside0.mk H
                           clear H
                           have p116 : 0 ≤ ((ji33) : Int) := of_decide_eq_true (by first | (with_reducible assumption) | assumption)
                           have q116 : (ji33) < (x5_3.length : Int) := of_decide_eq_true (by first | (with_reducible assumption) | assumption)
                           obtain ⟨ad116, A116_0, c116_0, e116, hx116_0, hl116_0, hi116_0⟩ := at_L1 (Kd.S_reads' HO_5.out).2.2 (ji33) p116 q116
                           obtain rfl : ad107 = ad116 := (by injection e116)
                           obtain ⟨ce116, hce116, hMe116, hcc116⟩ := Kd.S_get HO_5.out [] (ji33) p116 (by first | exact q116 | exact of_decide_eq_true (by first | (with_reducible assumption) | assumption) | (have e_ := (Kd.S_reads' HO_5.out).1; omega))
                           obtain ⟨ve116_0, rfl, ge116_0⟩ := hMe116
                           have hv116_0 := hcc116 0 _ rfl
                           rw [Nat.add_zero, show ((Kd.slice 3 (Kd.int .i64))).sz = 1 from rfl, Nat.mul_one] at hv116_0
                           replace hv116_0 := Option.some.inj (hv116_0.symm.trans hx116_0)
                           rw [hv116_0] at ge116_0
                           have HL116_0 := Aside0.mk (show Kd.R (Kd.int .i64) 3 _ _ _ _ (rd_L1 x5_3 (ji33)) from ge116_0)
                           clear hv116_0 ge116_0
                           have HX116_0 := Aside0.mk hx116_0
                           clear hcc116 hce116
                           have HR116_0 := Aside0.mk hi116_0
                           have HC116_0 := Aside0.mk hl116_0
                           clear hi116_0 hl116_0
                           replace p116 := eq_true p116
                           replace q116 := eq_true q116
                           have p117 : 0 ≤ (x9_3 : Int) := of_decide_eq_true (by first | (with_reducible assumption) | assumption)
                           have q117 : x9_3 < ((rd_L1 x5_3 (ji33)).length : Int) := of_decide_eq_true (by first | (with_reducible assumption) | assumption)
                           obtain ⟨ad117, e117, hx117_0⟩ := Kd.at_int (by repeat (first | (with_reducible exact HR116_0.out) | (with_reducible refine Kd.C_alloc ?_ _) | (with_reducible refine Kd.C_drewN ?_ _) | (with_reducible refine Kd.C_drew ?_) | exact HR116_0.out)) x9_3 p117 q117
                           cases e117
                           replace p117 := eq_true p117
                           replace q117 := eq_true q117
                           have p118 : 0 ≤ (x7_2 : Int) := of_decide_eq_true (by first | (with_reducible assumption) | assumption)
                           have q118 : x7_2 < (x5_3.length : Int) := of_decide_eq_true (by first | (with_reducible assumption) | assumption)
                           obtain ⟨ad118, A118_0, c118_0, e118, hx118_0, hl118_0, hi118_0⟩ := at_L1 (Kd.S_reads' HO_5.out).2.2 x7_2 p118 q118
                           obtain rfl : ad107 = ad118 := (by injection e118)
                           obtain ⟨ce118, hce118, hMe118, hcc118⟩ := Kd.S_get HO_5.out [] x7_2 p118 (by first | exact q118 | exact of_decide_eq_true (by first | (with_reducible assumption) | assumption) | (have e_ := (Kd.S_reads' HO_5.out).1; omega))
                           obtain ⟨ve118_0, rfl, ge118_0⟩ := hMe118
                           have hv118_0 := hcc118 0 _ rfl
                           rw [Nat.add_zero, show ((Kd.slice 3 (Kd.int .i64))).sz = 1 from rfl, Nat.mul_one] at hv118_0
                           replace hv118_0 := Option.some.inj (hv118_0.symm.trans hx118_0)
                           rw [hv118_0] at ge118_0
                           have HL118_0 := Aside0.mk (show Kd.R (Kd.int .i64) 3 _ _ _ _ (rd_L1 x5_3 x7_2) from ge118_0)
                           clear hv118_0 ge118_0
                           have HX118_0 := Aside0.mk hx118_0
                           (try (have eal_ := Option.some.inj (HE8.out.symm.trans hx118_0)))
                           (try subst eal_)
                           clear hcc118 hce118
                           have HR118_0 := Aside0.mk hi118_0
                           have HC118_0 := Aside0.mk hl118_0
                           clear hi118_0 hl118_0
                           replace p118 := eq_true p118
                           replace q118 := eq_true q118
                           have p119 : 0 ≤ ((ji40) : Int) := of_decide_eq_true (by first | (with_reducible assumption) | assumption)
                           have q119 : (ji40) < ((rd_L1 x5_3 x7_2).length : Int) := of_decide_eq_true (by first | (with_reducible assumption) | assumption)
                           obtain ⟨ad119, e119, hx119_0⟩ := Kd.at_int (by repeat (first | (with_reducible exact HR118_0.out) | (with_reducible refine Kd.C_alloc ?_ _) | (with_reducible refine Kd.C_drewN ?_ _) | (with_reducible refine Kd.C_drew ?_) | exact HR118_0.out)) (ji40) p119 q119
                           cases e119
                           replace p119 := eq_true p119
                           replace q119 := eq_true q119
                           go_wp2_with (first | (go_at_call 47; (with_reducible refine (spec_l1Least.calls (rd (rd_L1 x5_3 (ji33)) x9_3) (rd (rd_L1 x5_3 x7_2) (ji40)) t120 _ A43.out).mono ?_); rintro e w' ⟨rfl, ⟨nd, rfl⟩⟩; (try first | exact ⟨rfl, _, World.drewN_drewN _ _ _⟩ | exact ⟨rfl, _, Eq.trans (World.drewN_drewN _ _ _) (congrArg (World.drewN _) (Nat.add_assoc _ _ _))⟩); have p45 : 0 ≤ (x7_2 : Int) := of_decide_eq_true (by first | (with_reducible assumption) | assumption); have q45 : x7_2 < (a0.size : Int) := of_decide_eq_true (by first | (with_reducible assumption) | assumption); have hx45 := bt_at a0 x7_2; replace p45 := eq_true p45; replace q45 := eq_true q45; have p47 : 0 ≤ (x9_3 : Int) := of_decide_eq_true (by first | (with_reducible assumption) | assumption); have q47 : x9_3 < (a1.size : Int) := of_decide_eq_true (by first | (with_reducible assumption) | assumption); have hx47 := bt_at a1 x9_3; replace p47 := eq_true p47; replace q47 := eq_true q47; have p128 : 0 ≤ (x7_2 : Int) := of_decide_eq_true (by first | (with_reducible assumption) | assumption); have q128 : x7_2 < (x5_3.length : Int) := of_decide_eq_true (by first | (with_reducible assumption) | assumption); obtain ⟨ad128, A128_0, c128_0, e128, hx128_0, hl128_0, hi128_0⟩ := at_L1 (Kd.S_reads' HO_5.out).2.2 x7_2 p128 q128; obtain rfl : ad107 = ad128 := (by injection e128); obtain ⟨ce128, hce128, hMe128, hcc128⟩ := Kd.S_get HO_5.out [] x7_2 p128 (by first | exact q128 | exact of_decide_eq_true (by first | (with_reducible assumption) | assumption) | (have e_ := (Kd.S_reads' HO_5.out).1; omega)); obtain ⟨ve128_0, rfl, ge128_0⟩ := hMe128; have hv128_0 := hcc128 0 _ rfl; rw [Nat.add_zero, show ((Kd.slice 3 (Kd.int .i64))).sz = 1 from rfl, Nat.mul_one] at hv128_0; replace hv128_0 := Option.some.inj (hv128_0.symm.trans hx128_0); rw [hv128_0] at ge128_0; have HL128_0 := Aside0.mk (show Kd.R (Kd.int .i64) 3 _ _ _ _ (rd_L1 x5_3 x7_2) from ge128_0); clear hv128_0 ge128_0; have HX128_0 := Aside0.mk hx128_0; (try (have eal_ := Option.some.inj (HE8.out.symm.trans hx128_0))); (try subst eal_); clear hcc128 hce128; have HR128_0 := Aside0.mk hi128_0; have HC128_0 := Aside0.mk hl128_0; clear hi128_0 hl128_0; replace p128 := eq_true p128; replace q128 := eq_true q128; have ea_ := Option.some.inj (hx118_0.symm.trans hx128_0); injection ea_ with ea_ en_ ec_; subst ea_; subst ec_; clear en_; have p129 : 0 ≤ ((ji33) : Int) := of_decide_eq_true (by first | (with_reducible assumption) | assumption); have q129 : (ji33) < (x5_3.length : Int) := of_decide_eq_true (by first | (with_reducible assumption) | assumption); obtain ⟨ad129, A129_0, c129_0, e129, hx129_0, hl129_0, hi129_0⟩ := at_L1 (Kd.S_reads' HO_5.out).2.2 (ji33) p129 q129; obtain rfl : ad107 = ad129 := (by injection e129); obtain ⟨ce129, hce129, hMe129, hcc129⟩ := Kd.S_get HO_5.out [] (ji33) p129 (by first | exact q129 | exact of_decide_eq_true (by first | (with_reducible assumption) | assumption) | (have e_ := (Kd.S_reads' HO_5.out).1; omega)); obtain ⟨ve129_0, rfl, ge129_0⟩ := hMe129; have hv129_0 := hcc129 0 _ rfl; rw [Nat.add_zero, show ((Kd.slice 3 (Kd.int .i64))).sz = 1 from rfl, Nat.mul_one] at hv129_0; replace hv129_0 := Option.some.inj (hv129_0.symm.trans hx129_0); rw [hv129_0] at ge129_0; have HL129_0 := Aside0.mk (show Kd.R (Kd.int .i64) 3 _ _ _ _ (rd_L1 x5_3 (ji33)) from ge129_0); clear hv129_0 ge129_0; have HX129_0 := Aside0.mk hx129_0; clear hcc129 hce129; have HR129_0 := Aside0.mk hi129_0; have HC129_0 := Aside0.mk hl129_0; clear hi129_0 hl129_0; replace p129 := eq_true p129; replace q129 := eq_true q129; have ea_ := Option.some.inj (hx116_0.symm.trans hx129_0); injection ea_ with ea_ en_ ec_; subst ea_; subst ec_; clear en_; have p130 : 0 ≤ ((ji40) : Int) := of_decide_eq_true (by first | (with_reducible assumption) | assumption); have q130 : (ji40) < ((rd_L1 x5_3 (ji33)).length : Int) := of_decide_eq_true (by first | (with_reducible assumption) | assumption); obtain ⟨ad130, e130, hx130_0⟩ := Kd.at_int (by repeat (first | (with_reducible exact HR129_0.out) | (with_reducible refine Kd.C_alloc ?_ _) | (with_reducible refine Kd.C_drewN ?_ _) | (with_reducible refine Kd.C_drew ?_) | exact HR129_0.out)) (ji40) p130 q130; cases e130; replace p130 := eq_true p130; replace q130 := eq_true q130) | (go_at_call 47; (with_reducible refine (spec_l1Least.calls (wrap64 (t120 + 1)) (wrap64 ((rd (rd_L1 x5_3 (ji33)) (ji40)) + 1)) t131 _ A56.out).mono ?_); rintro e w' ⟨rfl, ⟨nd, rfl⟩⟩; (try first | exact ⟨rfl, _, World.drewN_drewN _ _ _⟩ | exact ⟨rfl, _, Eq.trans (World.drewN_drewN _ _ _) (congrArg (World.drewN _) (Nat.add_assoc _ _ _))⟩); have p58 : 0 ≤ (x9_3 : Int) := of_decide_eq_true (by first | (with_reducible assumption) | assumption); have q58 : (x9_3 : Int) < (((rd_L1 x5_3 x7_2).length : Int) : Int) := of_decide_eq_true (by first | (with_reducible assumption) | assumption); obtain ⟨go58, co58, eo58, gb58, gl58, cl58, HG58⟩ := Kd.R_form HL128_0.out (by omega); (first | cases eo58 | (injection eo58 with ea_ en_ ec_; (first | subst ea_ | (injection ea_ with ea_; subst ea_)); subst ec_; clear en_)); have GB58 := Aside0.mk gb58; have GG58 := Aside0.mk HG58; clear gb58 gl58 HG58; (first | simp only [add_plain] at hx119_0 | skip); obtain ⟨hx58_0, hf58_0⟩ := Kd.R_celln 0 HL128_0.out (x9_3 : Int) p58 q58; replace p58 := eq_true p58; replace q58 := eq_true q58; have hq59 : (x7_2 : Int) < (x5_3.length : Int) := (by have h_ : (x7_2 : Int) < ((x5_3.length : Int) : Int) := of_decide_eq_true (by first | (with_reducible assumption) | assumption); first | exact h_ | (have e_ := (Kd.S_reads' HO_5.out).1; omega) | simpa only [List.length_set, List.length_set] using h_); obtain ⟨oki59, ce59, hcl59, hM59, hcc59, hok59, hbk59⟩ := Kd.S_borrow HO_5.out [] (x7_2 : Int) (of_decide_eq_true (by first | (with_reducible assumption) | assumption)) hq59; obtain ⟨ve59_0, rfl, ge59_0⟩ := hM59; have hv59 := hcc59 0 _ rfl; rw [Nat.add_zero, show ((Kd.slice 3 (Kd.int .i64))).sz = 1 from rfl, Nat.mul_one] at hv59; replace hv59 := Option.some.inj (hv59.symm.trans HX128_0.out); subst hv59; clear hcc59 hcl59; replace ge59_0 := (show Kd.R (Kd.int .i64) 3 _ _ _ _ (rd_L1 x5_3 x7_2) from ge59_0); have HP59 := Kd.R_putg ge59_0 (x9_3 : Int) t131) | ((with_reducible refine gate_store (t := 3) (p := 78) rfl ?_); (try (rw [drewN_self wr]; generalize hq_ : World.drewN wr _ = wr; have n0_ := Aside0.mk (Kd.S_at hq_ HO_5.out); have n1_ := Aside0.mk (Kd.R_at hq_ HL128_0.out); have n2_ := Aside0.mk (below_at hq_ HB.out); have nx_ := Aside0.mk (cell_at hq_ HX128_0.out); clear HX128_0; have HX128_0 := nx_; clear nx_; have nf_ := spec_bkTable_alfr hq_ hf58_0; clear hf58_0; have hf58_0 := nf_; clear nf_; have ne8_ := Aside0.mk (cell_at hq_ HE8.out); clear HE8; have HE8 := ne8_; clear ne8_; clear hq_ HO_5 HL128_0 HB; have HO_5 := n0_; have HL128_0 := n1_; have HB := n2_; clear n0_ n1_ n2_; (try (have hq59 : (x7_2 : Int) < (x5_3.length : Int) := (by have h_ : (x7_2 : Int) < ((x5_3.length : Int) : Int) := of_decide_eq_true (by first | (with_reducible assumption) | assumption); first | exact h_ | (have e_ := (Kd.S_reads' HO_5.out).1; omega) | simpa only [List.length_set, List.length_set] using h_))); (try (obtain ⟨oki59, ce59, hcl59, hM59, hcc59, hok59, hbk59⟩ := Kd.S_borrow HO_5.out [] (x7_2 : Int) (of_decide_eq_true (by first | (with_reducible assumption) | assumption)) hq59)); (try (obtain ⟨ve59_0, rfl, ge59_0⟩ := hM59)); (try (have hv59 := hcc59 0 _ rfl)); (try (rw [Nat.add_zero, show ((Kd.slice 3 (Kd.int .i64))).sz = 1 from rfl, Nat.mul_one] at hv59)); (try (replace hv59 := Option.some.inj (hv59.symm.trans HX128_0.out))); (try (subst hv59)); (try (clear hcc59 hcl59)); (try (replace ge59_0 := (show Kd.R (Kd.int .i64) 3 _ _ _ _ (rd_L1 x5_3 x7_2) from ge59_0))); (try (have HP59 := Kd.R_putg ge59_0 (x9_3 : Int) t131)))); refine store_event (t := 3) (p := 78) (v := ?vo_w60) (w1 := (wr.setCell ⟨go58, (x9_3 : Int).toNat, none⟩ (.int .i64 t131))) ?hg ?ho ?hn ?hr ?_; (case ho => rfl); (case hg => rfl); (case hn => rfl); (case hr => first | (go_simp; done) | (go_simp; rfl)); intro w60 hw; have hg : wr.grownBy w60 (some go58) := (by rw [hw]; exact HP59.2); have hz_ : Kd.R (Kd.int .i64) 3 w60 w.heap.size oki59 (.slice (some ⟨go58, 0, none⟩) (rd_L1 x5_3 x7_2).length c118_0) y132 := (by rw [hw, Ny132.out]; exact HP59.1); have hp_ : Kd.S (Kd.slice 3 (Kd.int .i64)) 41 w60 w.heap.size (fun _ => True) (.slice (some ad107) x5_3.length co15) y134 := (by rw [Ny134.out]; exact hbk59 hg (fun k_ e_ => by injection e_ with e_; subst e_; exact ge59_0.1 _ rfl) (Kd.M_row hz_)); have hm_ := Kd.R_mono hz_ hok59; clear HP59 hbk59; have n0_ := Aside0.mk (hp_); have n1_ := Aside0.mk ((by rw [hw]; exact below_set (HB.out) GB58.out : Below w.heap.size w w60)); have n2_ := Aside0.mk (hm_); have n3_ := Aside0.mk ((Kd.R_reads' hm_).2.1); clear HO_5; clear HB; clear HL116_0; clear HL118_0; clear HL128_0; clear HL129_0; have HO_5 := n0_; have HB := n1_; have HL138 := n2_; have HC133 := n3_; clear n0_ n1_ n2_ n3_; have ne8_ := Aside0.mk (spec_bkTable_alkeep hg (spec_bkTable_alne (hok59 _ (ge59_0.1 _ rfl)).2) HE8.out); clear HE8; have HE8 := ne8_; clear ne8_; clear hg hw hp_ hz_ hm_ hok59))
                           repeat (go_quiet (first | (go_at_call 47; (with_reducible refine (spec_l1Least.calls (rd (rd_L1 x5_3 (ji33)) x9_3) (rd (rd_L1 x5_3 x7_2) (ji40)) t120 _ A43.out).mono ?_); rintro e w' ⟨rfl, ⟨nd, rfl⟩⟩; (try first | exact ⟨rfl, _, World.drewN_drewN _ _ _⟩ | exact ⟨rfl, _, Eq.trans (World.drewN_drewN _ _ _) (congrArg (World.drewN _) (Nat.add_assoc _ _ _))⟩); have p45 : 0 ≤ (x7_2 : Int) := of_decide_eq_true (by first | (with_reducible assumption) | assumption); have q45 : x7_2 < (a0.size : Int) := of_decide_eq_true (by first | (with_reducible assumption) | assumption); have hx45 := bt_at a0 x7_2; replace p45 := eq_true p45; replace q45 := eq_true q45; have p47 : 0 ≤ (x9_3 : Int) := of_decide_eq_true (by first | (with_reducible assumption) | assumption); have q47 : x9_3 < (a1.size : Int) := of_decide_eq_true (by first | (with_reducible assumption) | assumption); have hx47 := bt_at a1 x9_3; replace p47 := eq_true p47; replace q47 := eq_true q47; have p128 : 0 ≤ (x7_2 : Int) := of_decide_eq_true (by first | (with_reducible assumption) | assumption); have q128 : x7_2 < (x5_3.length : Int) := of_decide_eq_true (by first | (with_reducible assumption) | assumption); obtain ⟨ad128, A128_0, c128_0, e128, hx128_0, hl128_0, hi128_0⟩ := at_L1 (Kd.S_reads' HO_5.out).2.2 x7_2 p128 q128; obtain rfl : ad107 = ad128 := (by injection e128); obtain ⟨ce128, hce128, hMe128, hcc128⟩ := Kd.S_get HO_5.out [] x7_2 p128 (by first | exact q128 | exact of_decide_eq_true (by first | (with_reducible assumption) | assumption) | (have e_ := (Kd.S_reads' HO_5.out).1; omega)); obtain ⟨ve128_0, rfl, ge128_0⟩ := hMe128; have hv128_0 := hcc128 0 _ rfl; rw [Nat.add_zero, show ((Kd.slice 3 (Kd.int .i64))).sz = 1 from rfl, Nat.mul_one] at hv128_0; replace hv128_0 := Option.some.inj (hv128_0.symm.trans hx128_0); rw [hv128_0] at ge128_0; have HL128_0 := Aside0.mk (show Kd.R (Kd.int .i64) 3 _ _ _ _ (rd_L1 x5_3 x7_2) from ge128_0); clear hv128_0 ge128_0; have HX128_0 := Aside0.mk hx128_0; (try (have eal_ := Option.some.inj (HE8.out.symm.trans hx128_0))); (try subst eal_); clear hcc128 hce128; have HR128_0 := Aside0.mk hi128_0; have HC128_0 := Aside0.mk hl128_0; clear hi128_0 hl128_0; replace p128 := eq_true p128; replace q128 := eq_true q128; have ea_ := Option.some.inj (hx118_0.symm.trans hx128_0); injection ea_ with ea_ en_ ec_; subst ea_; subst ec_; clear en_; have p129 : 0 ≤ ((ji33) : Int) := of_decide_eq_true (by first | (with_reducible assumption) | assumption); have q129 : (ji33) < (x5_3.length : Int) := of_decide_eq_true (by first | (with_reducible assumption) | assumption); obtain ⟨ad129, A129_0, c129_0, e129, hx129_0, hl129_0, hi129_0⟩ := at_L1 (Kd.S_reads' HO_5.out).2.2 (ji33) p129 q129; obtain rfl : ad107 = ad129 := (by injection e129); obtain ⟨ce129, hce129, hMe129, hcc129⟩ := Kd.S_get HO_5.out [] (ji33) p129 (by first | exact q129 | exact of_decide_eq_true (by first | (with_reducible assumption) | assumption) | (have e_ := (Kd.S_reads' HO_5.out).1; omega)); obtain ⟨ve129_0, rfl, ge129_0⟩ := hMe129; have hv129_0 := hcc129 0 _ rfl; rw [Nat.add_zero, show ((Kd.slice 3 (Kd.int .i64))).sz = 1 from rfl, Nat.mul_one] at hv129_0; replace hv129_0 := Option.some.inj (hv129_0.symm.trans hx129_0); rw [hv129_0] at ge129_0; have HL129_0 := Aside0.mk (show Kd.R (Kd.int .i64) 3 _ _ _ _ (rd_L1 x5_3 (ji33)) from ge129_0); clear hv129_0 ge129_0; have HX129_0 := Aside0.mk hx129_0; clear hcc129 hce129; have HR129_0 := Aside0.mk hi129_0; have HC129_0 := Aside0.mk hl129_0; clear hi129_0 hl129_0; replace p129 := eq_true p129; replace q129 := eq_true q129; have ea_ := Option.some.inj (hx116_0.symm.trans hx129_0); injection ea_ with ea_ en_ ec_; subst ea_; subst ec_; clear en_; have p130 : 0 ≤ ((ji40) : Int) := of_decide_eq_true (by first | (with_reducible assumption) | assumption); have q130 : (ji40) < ((rd_L1 x5_3 (ji33)).length : Int) := of_decide_eq_true (by first | (with_reducible assumption) | assumption); obtain ⟨ad130, e130, hx130_0⟩ := Kd.at_int (by repeat (first | (with_reducible exact HR129_0.out) | (with_reducible refine Kd.C_alloc ?_ _) | (with_reducible refine Kd.C_drewN ?_ _) | (with_reducible refine Kd.C_drew ?_) | exact HR129_0.out)) (ji40) p130 q130; cases e130; replace p130 := eq_true p130; replace q130 := eq_true q130) | (go_at_call 47; (with_reducible refine (spec_l1Least.calls (wrap64 (t120 + 1)) (wrap64 ((rd (rd_L1 x5_3 (ji33)) (ji40)) + 1)) t131 _ A56.out).mono ?_); rintro e w' ⟨rfl, ⟨nd, rfl⟩⟩; (try first | exact ⟨rfl, _, World.drewN_drewN _ _ _⟩ | exact ⟨rfl, _, Eq.trans (World.drewN_drewN _ _ _) (congrArg (World.drewN _) (Nat.add_assoc _ _ _))⟩); have p58 : 0 ≤ (x9_3 : Int) := of_decide_eq_true (by first | (with_reducible assumption) | assumption); have q58 : (x9_3 : Int) < (((rd_L1 x5_3 x7_2).length : Int) : Int) := of_decide_eq_true (by first | (with_reducible assumption) | assumption); obtain ⟨go58, co58, eo58, gb58, gl58, cl58, HG58⟩ := Kd.R_form HL128_0.out (by omega); (first | cases eo58 | (injection eo58 with ea_ en_ ec_; (first | subst ea_ | (injection ea_ with ea_; subst ea_)); subst ec_; clear en_)); have GB58 := Aside0.mk gb58; have GG58 := Aside0.mk HG58; clear gb58 gl58 HG58; (first | simp only [add_plain] at hx119_0 | skip); obtain ⟨hx58_0, hf58_0⟩ := Kd.R_celln 0 HL128_0.out (x9_3 : Int) p58 q58; replace p58 := eq_true p58; replace q58 := eq_true q58; have hq59 : (x7_2 : Int) < (x5_3.length : Int) := (by have h_ : (x7_2 : Int) < ((x5_3.length : Int) : Int) := of_decide_eq_true (by first | (with_reducible assumption) | assumption); first | exact h_ | (have e_ := (Kd.S_reads' HO_5.out).1; omega) | simpa only [List.length_set, List.length_set] using h_); obtain ⟨oki59, ce59, hcl59, hM59, hcc59, hok59, hbk59⟩ := Kd.S_borrow HO_5.out [] (x7_2 : Int) (of_decide_eq_true (by first | (with_reducible assumption) | assumption)) hq59; obtain ⟨ve59_0, rfl, ge59_0⟩ := hM59; have hv59 := hcc59 0 _ rfl; rw [Nat.add_zero, show ((Kd.slice 3 (Kd.int .i64))).sz = 1 from rfl, Nat.mul_one] at hv59; replace hv59 := Option.some.inj (hv59.symm.trans HX128_0.out); subst hv59; clear hcc59 hcl59; replace ge59_0 := (show Kd.R (Kd.int .i64) 3 _ _ _ _ (rd_L1 x5_3 x7_2) from ge59_0); have HP59 := Kd.R_putg ge59_0 (x9_3 : Int) t131) | ((with_reducible refine gate_store (t := 3) (p := 78) rfl ?_); (try (rw [drewN_self wr]; generalize hq_ : World.drewN wr _ = wr; have n0_ := Aside0.mk (Kd.S_at hq_ HO_5.out); have n1_ := Aside0.mk (Kd.R_at hq_ HL138.out); have n2_ := Aside0.mk (below_at hq_ HB.out); clear hq_ HO_5 HL138 HB; have HO_5 := n0_; have HL138 := n1_; have HB := n2_; clear n0_ n1_ n2_; (try (have hq59 : (x7_2 : Int) < (x5_3.length : Int) := (by have h_ : (x7_2 : Int) < ((x5_3.length : Int) : Int) := of_decide_eq_true (by first | (with_reducible assumption) | assumption); first | exact h_ | (have e_ := (Kd.S_reads' HO_5.out).1; omega) | simpa only [List.length_set, List.length_set] using h_))); (try (obtain ⟨oki59, ce59, hcl59, hM59, hcc59, hok59, hbk59⟩ := Kd.S_borrow HO_5.out [] (x7_2 : Int) (of_decide_eq_true (by first | (with_reducible assumption) | assumption)) hq59)); (try (obtain ⟨ve59_0, rfl, ge59_0⟩ := hM59)); (try (have hv59 := hcc59 0 _ rfl)); (try (rw [Nat.add_zero, show ((Kd.slice 3 (Kd.int .i64))).sz = 1 from rfl, Nat.mul_one] at hv59)); (try (replace hv59 := Option.some.inj (hv59.symm.trans HX128_0.out))); (try (subst hv59)); (try (clear hcc59 hcl59)); (try (replace ge59_0 := (show Kd.R (Kd.int .i64) 3 _ _ _ _ (rd_L1 x5_3 x7_2) from ge59_0))); (try (have HP59 := Kd.R_putg ge59_0 (x9_3 : Int) t131)))); refine store_event (t := 3) (p := 78) (v := ?vo_w60) (w1 := (wr.setCell ⟨go58, (x9_3 : Int).toNat, none⟩ (.int .i64 t131))) ?hg ?ho ?hn ?hr ?_; (case ho => rfl); (case hg => rfl); (case hn => rfl); (case hr => first | (go_simp; done) | (go_simp; rfl)); intro w60 hw; have hg : wr.grownBy w60 (some go58) := (by rw [hw]; exact HP59.2); have hz_ : Kd.R (Kd.int .i64) 3 w60 w.heap.size oki59 (.slice (some ⟨go58, 0, none⟩) (rd_L1 x5_3 x7_2).length c118_0) y132 := (by rw [hw, Ny132.out]; exact HP59.1); have hp_ : Kd.S (Kd.slice 3 (Kd.int .i64)) 41 w60 w.heap.size (fun _ => True) (.slice (some ad107) x5_3.length co15) y134 := (by rw [Ny134.out]; exact hbk59 hg (fun k_ e_ => by injection e_ with e_; subst e_; exact ge59_0.1 _ rfl) (Kd.M_row hz_)); have hm_ := Kd.R_mono hz_ hok59; clear HP59 hbk59; have n0_ := Aside0.mk (hp_); have n1_ := Aside0.mk ((by rw [hw]; exact below_set (HB.out) GB58.out : Below w.heap.size w w60)); have n2_ := Aside0.mk (hm_); have n3_ := Aside0.mk ((Kd.R_reads' hm_).2.1); clear HO_5; clear HB; clear HL116_0; clear HL118_0; clear HL128_0; clear HL129_0; have HO_5 := n0_; have HB := n1_; have HL138 := n2_; have HC133 := n3_; clear n0_ n1_ n2_ n3_; clear hg hw hp_ hz_ hm_ hok59)); try go_wp2_with (first | (go_at_call 47; (with_reducible refine (spec_l1Least.calls (rd (rd_L1 x5_3 (ji33)) x9_3) (rd (rd_L1 x5_3 x7_2) (ji40)) t120 _ A43.out).mono ?_); rintro e w' ⟨rfl, ⟨nd, rfl⟩⟩; (try first | exact ⟨rfl, _, World.drewN_drewN _ _ _⟩ | exact ⟨rfl, _, Eq.trans (World.drewN_drewN _ _ _) (congrArg (World.drewN _) (Nat.add_assoc _ _ _))⟩); have p45 : 0 ≤ (x7_2 : Int) := of_decide_eq_true (by first | (with_reducible assumption) | assumption); have q45 : x7_2 < (a0.size : Int) := of_decide_eq_true (by first | (with_reducible assumption) | assumption); have hx45 := bt_at a0 x7_2; replace p45 := eq_true p45; replace q45 := eq_true q45; have p47 : 0 ≤ (x9_3 : Int) := of_decide_eq_true (by first | (with_reducible assumption) | assumption); have q47 : x9_3 < (a1.size : Int) := of_decide_eq_true (by first | (with_reducible assumption) | assumption); have hx47 := bt_at a1 x9_3; replace p47 := eq_true p47; replace q47 := eq_true q47; have p128 : 0 ≤ (x7_2 : Int) := of_decide_eq_true (by first | (with_reducible assumption) | assumption); have q128 : x7_2 < (x5_3.length : Int) := of_decide_eq_true (by first | (with_reducible assumption) | assumption); obtain ⟨ad128, A128_0, c128_0, e128, hx128_0, hl128_0, hi128_0⟩ := at_L1 (Kd.S_reads' HO_5.out).2.2 x7_2 p128 q128; obtain rfl : ad107 = ad128 := (by injection e128); obtain ⟨ce128, hce128, hMe128, hcc128⟩ := Kd.S_get HO_5.out [] x7_2 p128 (by first | exact q128 | exact of_decide_eq_true (by first | (with_reducible assumption) | assumption) | (have e_ := (Kd.S_reads' HO_5.out).1; omega)); obtain ⟨ve128_0, rfl, ge128_0⟩ := hMe128; have hv128_0 := hcc128 0 _ rfl; rw [Nat.add_zero, show ((Kd.slice 3 (Kd.int .i64))).sz = 1 from rfl, Nat.mul_one] at hv128_0; replace hv128_0 := Option.some.inj (hv128_0.symm.trans hx128_0); rw [hv128_0] at ge128_0; have HL128_0 := Aside0.mk (show Kd.R (Kd.int .i64) 3 _ _ _ _ (rd_L1 x5_3 x7_2) from ge128_0); clear hv128_0 ge128_0; have HX128_0 := Aside0.mk hx128_0; (try (have eal_ := Option.some.inj (HE8.out.symm.trans hx128_0))); (try subst eal_); clear hcc128 hce128; have HR128_0 := Aside0.mk hi128_0; have HC128_0 := Aside0.mk hl128_0; clear hi128_0 hl128_0; replace p128 := eq_true p128; replace q128 := eq_true q128; have ea_ := Option.some.inj (hx118_0.symm.trans hx128_0); injection ea_ with ea_ en_ ec_; subst ea_; subst ec_; clear en_; have p129 : 0 ≤ ((ji33) : Int) := of_decide_eq_true (by first | (with_reducible assumption) | assumption); have q129 : (ji33) < (x5_3.length : Int) := of_decide_eq_true (by first | (with_reducible assumption) | assumption); obtain ⟨ad129, A129_0, c129_0, e129, hx129_0, hl129_0, hi129_0⟩ := at_L1 (Kd.S_reads' HO_5.out).2.2 (ji33) p129 q129; obtain rfl : ad107 = ad129 := (by injection e129); obtain ⟨ce129, hce129, hMe129, hcc129⟩ := Kd.S_get HO_5.out [] (ji33) p129 (by first | exact q129 | exact of_decide_eq_true (by first | (with_reducible assumption) | assumption) | (have e_ := (Kd.S_reads' HO_5.out).1; omega)); obtain ⟨ve129_0, rfl, ge129_0⟩ := hMe129; have hv129_0 := hcc129 0 _ rfl; rw [Nat.add_zero, show ((Kd.slice 3 (Kd.int .i64))).sz = 1 from rfl, Nat.mul_one] at hv129_0; replace hv129_0 := Option.some.inj (hv129_0.symm.trans hx129_0); rw [hv129_0] at ge129_0; have HL129_0 := Aside0.mk (show Kd.R (Kd.int .i64) 3 _ _ _ _ (rd_L1 x5_3 (ji33)) from ge129_0); clear hv129_0 ge129_0; have HX129_0 := Aside0.mk hx129_0; clear hcc129 hce129; have HR129_0 := Aside0.mk hi129_0; have HC129_0 := Aside0.mk hl129_0; clear hi129_0 hl129_0; replace p129 := eq_true p129; replace q129 := eq_true q129; have ea_ := Option.some.inj (hx116_0.symm.trans hx129_0); injection ea_ with ea_ en_ ec_; subst ea_; subst ec_; clear en_; have p130 : 0 ≤ ((ji40) : Int) := of_decide_eq_true (by first | (with_reducible assumption) | assumption); have q130 : (ji40) < ((rd_L1 x5_3 (ji33)).length : Int) := of_decide_eq_true (by first | (with_reducible assumption) | assumption); obtain ⟨ad130, e130, hx130_0⟩ := Kd.at_int (by repeat (first | (with_reducible exact HR129_0.out) | (with_reducible refine Kd.C_alloc ?_ _) | (with_reducible refine Kd.C_drewN ?_ _) | (with_reducible refine Kd.C_drew ?_) | exact HR129_0.out)) (ji40) p130 q130; cases e130; replace p130 := eq_true p130; replace q130 := eq_true q130) | (go_at_call 47; (with_reducible refine (spec_l1Least.calls (wrap64 (t120 + 1)) (wrap64 ((rd (rd_L1 x5_3 (ji33)) (ji40)) + 1)) t131 _ A56.out).mono ?_); rintro e w' ⟨rfl, ⟨nd, rfl⟩⟩; (try first | exact ⟨rfl, _, World.drewN_drewN _ _ _⟩ | exact ⟨rfl, _, Eq.trans (World.drewN_drewN _ _ _) (congrArg (World.drewN _) (Nat.add_assoc _ _ _))⟩); have p58 : 0 ≤ (x9_3 : Int) := of_decide_eq_true (by first | (with_reducible assumption) | assumption); have q58 : (x9_3 : Int) < (((rd_L1 x5_3 x7_2).length : Int) : Int) := of_decide_eq_true (by first | (with_reducible assumption) | assumption); obtain ⟨go58, co58, eo58, gb58, gl58, cl58, HG58⟩ := Kd.R_form HL128_0.out (by omega); (first | cases eo58 | (injection eo58 with ea_ en_ ec_; (first | subst ea_ | (injection ea_ with ea_; subst ea_)); subst ec_; clear en_)); have GB58 := Aside0.mk gb58; have GG58 := Aside0.mk HG58; clear gb58 gl58 HG58; (first | simp only [add_plain] at hx119_0 | skip); obtain ⟨hx58_0, hf58_0⟩ := Kd.R_celln 0 HL128_0.out (x9_3 : Int) p58 q58; replace p58 := eq_true p58; replace q58 := eq_true q58; have hq59 : (x7_2 : Int) < (x5_3.length : Int) := (by have h_ : (x7_2 : Int) < ((x5_3.length : Int) : Int) := of_decide_eq_true (by first | (with_reducible assumption) | assumption); first | exact h_ | (have e_ := (Kd.S_reads' HO_5.out).1; omega) | simpa only [List.length_set, List.length_set] using h_); obtain ⟨oki59, ce59, hcl59, hM59, hcc59, hok59, hbk59⟩ := Kd.S_borrow HO_5.out [] (x7_2 : Int) (of_decide_eq_true (by first | (with_reducible assumption) | assumption)) hq59; obtain ⟨ve59_0, rfl, ge59_0⟩ := hM59; have hv59 := hcc59 0 _ rfl; rw [Nat.add_zero, show ((Kd.slice 3 (Kd.int .i64))).sz = 1 from rfl, Nat.mul_one] at hv59; replace hv59 := Option.some.inj (hv59.symm.trans HX128_0.out); subst hv59; clear hcc59 hcl59; replace ge59_0 := (show Kd.R (Kd.int .i64) 3 _ _ _ _ (rd_L1 x5_3 x7_2) from ge59_0); have HP59 := Kd.R_putg ge59_0 (x9_3 : Int) t131) | ((with_reducible refine gate_store (t := 3) (p := 78) rfl ?_); (try (rw [drewN_self wr]; generalize hq_ : World.drewN wr _ = wr; have n0_ := Aside0.mk (Kd.S_at hq_ HO_5.out); have n1_ := Aside0.mk (Kd.R_at hq_ HL138.out); have n2_ := Aside0.mk (below_at hq_ HB.out); clear hq_ HO_5 HL138 HB; have HO_5 := n0_; have HL138 := n1_; have HB := n2_; clear n0_ n1_ n2_; (try (have hq59 : (x7_2 : Int) < (x5_3.length : Int) := (by have h_ : (x7_2 : Int) < ((x5_3.length : Int) : Int) := of_decide_eq_true (by first | (with_reducible assumption) | assumption); first | exact h_ | (have e_ := (Kd.S_reads' HO_5.out).1; omega) | simpa only [List.length_set, List.length_set] using h_))); (try (obtain ⟨oki59, ce59, hcl59, hM59, hcc59, hok59, hbk59⟩ := Kd.S_borrow HO_5.out [] (x7_2 : Int) (of_decide_eq_true (by first | (with_reducible assumption) | assumption)) hq59)); (try (obtain ⟨ve59_0, rfl, ge59_0⟩ := hM59)); (try (have hv59 := hcc59 0 _ rfl)); (try (rw [Nat.add_zero, show ((Kd.slice 3 (Kd.int .i64))).sz = 1 from rfl, Nat.mul_one] at hv59)); (try (replace hv59 := Option.some.inj (hv59.symm.trans HX128_0.out))); (try (subst hv59)); (try (clear hcc59 hcl59)); (try (replace ge59_0 := (show Kd.R (Kd.int .i64) 3 _ _ _ _ (rd_L1 x5_3 x7_2) from ge59_0))); (try (have HP59 := Kd.R_putg ge59_0 (x9_3 : Int) t131)))); refine store_event (t := 3) (p := 78) (v := ?vo_w60) (w1 := (wr.setCell ⟨go58, (x9_3 : Int).toNat, none⟩ (.int .i64 t131))) ?hg ?ho ?hn ?hr ?_; (case ho => rfl); (case hg => rfl); (case hn => rfl); (case hr => first | (go_simp; done) | (go_simp; rfl)); intro w60 hw; have hg : wr.grownBy w60 (some go58) := (by rw [hw]; exact HP59.2); have hz_ : Kd.R (Kd.int .i64) 3 w60 w.heap.size oki59 (.slice (some ⟨go58, 0, none⟩) (rd_L1 x5_3 x7_2).length c118_0) y132 := (by rw [hw, Ny132.out]; exact HP59.1); have hp_ : Kd.S (Kd.slice 3 (Kd.int .i64)) 41 w60 w.heap.size (fun _ => True) (.slice (some ad107) x5_3.length co15) y134 := (by rw [Ny134.out]; exact hbk59 hg (fun k_ e_ => by injection e_ with e_; subst e_; exact ge59_0.1 _ rfl) (Kd.M_row hz_)); have hm_ := Kd.R_mono hz_ hok59; clear HP59 hbk59; have n0_ := Aside0.mk (hp_); have n1_ := Aside0.mk ((by rw [hw]; exact below_set (HB.out) GB58.out : Below w.heap.size w w60)); have n2_ := Aside0.mk (hm_); have n3_ := Aside0.mk ((Kd.R_reads' hm_).2.1); clear HO_5; clear HB; clear HL116_0; clear HL118_0; clear HL128_0; clear HL129_0; have HO_5 := n0_; have HB := n1_; have HL138 := n2_; have HC133 := n3_; clear n0_ n1_ n2_ n3_; clear hg hw hp_ hz_ hm_ hok59)))
                           generalize hq_ : World.drewN wr _ = wq_
                           have hs_ := spec_bkTable_alst (k := x9_3) (x := t131) (Kd.S_at hq_ HO_5.out) (of_eq_true p128) (of_eq_true q128) (cell_at hq_ HE8.out)
                           have n0_ := hs_.1
                           rw [← Ny132.out, ← Ny134.out] at n0_
                           have n1_ := Aside0.mk (below_set (below_at hq_ HB.out) hs_.2.2 (j := (x9_3 : Int).toNat) (v := .int .i64 t131))
                           have n2_ := Aside0.mk hs_.2.1
                           clear HO_5 HB HE8
                           have HO_5 := Aside0.mk n0_
                           have HB := n1_
                           have HE8 := n2_
                           clear n0_ n1_ n2_ hs_
                           (try simp only [← hl5_3])
                           go_roundg k3
                           case measure => have := HK1.out; have := HK2.out; have := HK3.out; omega
                           case rel => exact ⟨(y134), (wrap64 (x9_3 - 1)), (by first | rfl | (simp; done) | (simp [*]; done)), H', ⟨by have := HK1.out; have := HK2.out; have := HK3.out; omega⟩, ⟨by (try simp only [hl5_3]); (with_reducible repeat (first | apply Kd.S_alloc | apply Kd.S_drewN | apply Kd.S_drew)); exact HO_5.out⟩, ⟨by repeat (first | (with_reducible first | exact HB.out | apply below_alloc | apply pw_below_drewN | apply below_drew1) | exact HB.out)⟩, ⟨by exact HE8.out⟩⟩
                          ·
                           rw [if_neg c57] at H
                           exact absurd H (by simp)
                         ·
                          rw [if_neg c55] at H
                          exact absurd H (by simp)
                       ·
                        rw [if_neg c46] at H
                        exact absurd H (by simp)
                      ·
                       rw [if_neg c44] at H
                       exact absurd H (by simp)
                     ·
                      rw [if_neg c42] at H
                      exact absurd H (by simp)
                    ·
                     rw [if_neg c41] at H
                     exact absurd H (by simp)
                   ·
                    rw [if_neg c39] at H
                    exact absurd H (by simp)
                  ·
                   rw [if_neg c38] at H
                   exact absurd H (by simp)
                 ·
                  rw [if_neg c37] at H
                  exact absurd H (by simp)
                ·
                 rw [if_neg c36] at H
                 exact absurd H (by simp)
               ·
                rw [if_neg c35] at H
                exact absurd H (by simp)
              ·
               rw [if_neg c34] at H
               exact absurd H (by simp)
           ·
            rw [if_neg c16] at H
            have c16b0 : decide (0 ≤ x9_3) = false := decide_eq_false c16
            clear c16
            have H' := Aside0.mk H
            clear H
            go_wp2
            repeat (go_quiet (fail); try go_wp2)
            (try simp only [← hl5_3])
            go_roundg k3
            case measure => have := HK1.out; have := HK2.out; have := HK3.out; omega
            case rel => exact ⟨(x5_3), (wrap64 (x7_2 - 1)), (by first | rfl | (simp; done) | (simp [*]; done)), H', ⟨by have := HK1.out; have := HK2.out; have := HK3.out; omega⟩, ⟨by (try simp only [hl5_3]); (with_reducible repeat (first | apply Kd.S_alloc | apply Kd.S_drewN | apply Kd.S_drew)); exact HO_5.out⟩, ⟨by repeat (first | (with_reducible first | exact HB.out | apply below_alloc | apply pw_below_drewN | apply below_drew1) | exact HB.out)⟩⟩
        ·
         rw [if_neg c14] at H
         exact absurd H (by simp)
       ·
        rw [if_neg c13] at H
        exact absurd H (by simp)
      ·
       rw [if_neg c12] at H
       have c12b0 : decide (0 ≤ x7_2) = false := decide_eq_false c12
       clear c12
       obtain rfl := Option.some.inj H
       go_wp2
       repeat (go_quiet (fail); try go_wp2)
       go_ret
       exact ⟨_, by first | rfl | (simp [errW_none, errW_some] <;> rfl) | (simp [*, errW_none, errW_some] <;> rfl), by (with_reducible repeat (first | apply Kd.S_alloc | apply Kd.S_drewN | apply Kd.S_drew)); exact HO_5.out, by repeat (first | (with_reducible first | exact HB.out | apply below_alloc | apply pw_below_drewN | apply below_drew1) | exact HB.out)⟩

end Go.Proofs.YtgbkfhoildfaoaaDoor.P

-- printed by xprint.py
namespace Go.Proofs.YtgbkfhoildfaoaaDoor.P
open Go.RowKit Go.Proofs.YtgbkfhoildfaoaaDoorW.PrintWords Go.Proofs.YtgbkfhoildfaoaaDoorW.PrintLast Go.Proofs.YtgbkfhoildfaoaaDoorW.PrintMore
attribute [local go_sem] max2_int min2_int max_two min_two max_three min_three max_four min_four   -- for this text's walks alone
set_option linter.unusedVariables false
set_option linter.unusedSimpArgs false

/-! ### spec_FirstTypos: function 14 -/
mutual
def spec_FirstTypos.l0 : Nat → ByteArray → ByteArray → List (List Int) → ByteArray → Int → Int → Option (ByteArray × Bool)
 | 0, _, _, _, _, _, _ => none
 | k + 1, x0, x1, x6, x7, x8, x9 => if x8 < (x0.size : Int) then (spec_FirstTypos.j1 k x0 x1 x6 x7 x8 x9 true) else (spec_FirstTypos.j1 k x0 x1 x6 x7 x8 x9 (decide (x9 < (x1.size : Int))))
def spec_FirstTypos.j1 : Nat → ByteArray → ByteArray → List (List Int) → ByteArray → Int → Int → Bool → Option (ByteArray × Bool)
 | 0, _, _, _, _, _, _, _ => none
 | k + 1, x0, x1, x6, x7, x8, x9, x27 => if x27 = true then (if 0 ≤ x8 then (if x8 < (x6.length : Int) then (if 0 ≤ x9 then (if x9 < ((rd_L1 x6 x8).length : Int) then (if x8 < (x0.size : Int) then (if x9 < (x1.size : Int) then (if (bt x0 x8) = (bt x1 x9) then (if 0 ≤ (wrap64 (x8 + 1)) then (if (wrap64 (x8 + 1)) < (x6.length : Int) then (if 0 ≤ (wrap64 (x9 + 1)) then (if (wrap64 (x9 + 1)) < ((rd_L1 x6 (wrap64 (x8 + 1))).length : Int) then (spec_FirstTypos.j2 k x0 x1 x6 x7 x8 x9 (rd (rd_L1 x6 x8) x9) ((rd (rd_L1 x6 (wrap64 (x8 + 1))) (wrap64 (x9 + 1))) == (rd (rd_L1 x6 x8) x9))) else (none)) else (none)) else (none)) else (none)) else (spec_FirstTypos.j2 k x0 x1 x6 x7 x8 x9 (rd (rd_L1 x6 x8) x9) false)) else (spec_FirstTypos.j2 k x0 x1 x6 x7 x8 x9 (rd (rd_L1 x6 x8) x9) false)) else (spec_FirstTypos.j2 k x0 x1 x6 x7 x8 x9 (rd (rd_L1 x6 x8) x9) false)) else (none)) else (none)) else (none)) else (none)) else (some (x7, true))
def spec_FirstTypos.j2 : Nat → ByteArray → ByteArray → List (List Int) → ByteArray → Int → Int → Int → Bool → Option (ByteArray × Bool)
 | 0, _, _, _, _, _, _, _, _ => none
 | k + 1, x0, x1, x6, x7, x8, x9, x10, x41 => if x41 = true then (if x7.size + 1 ≤ 9223372036854775807 then (spec_FirstTypos.l0 k x0 x1 x6 (x7 ++ (⟨#[107]⟩ : ByteArray)) (wrap64 (x8 + 1)) (wrap64 (x9 + 1))) else (none)) else (if x8 < (x0.size : Int) then (if 0 ≤ (wrap64 (x8 + 1)) then (if (wrap64 (x8 + 1)) < (x6.length : Int) then (if 0 ≤ x9 then (if x9 < ((rd_L1 x6 (wrap64 (x8 + 1))).length : Int) then (spec_FirstTypos.j3 k x0 x1 x6 x7 x8 x9 x10 ((wrap64 ((rd (rd_L1 x6 (wrap64 (x8 + 1))) x9) + 1)) == x10)) else (none)) else (none)) else (none)) else (none)) else (spec_FirstTypos.j3 k x0 x1 x6 x7 x8 x9 x10 false))
def spec_FirstTypos.j3 : Nat → ByteArray → ByteArray → List (List Int) → ByteArray → Int → Int → Int → Bool → Option (ByteArray × Bool)
 | 0, _, _, _, _, _, _, _, _ => none
 | k + 1, x0, x1, x6, x7, x8, x9, x10, x80 => if x80 = true then (if x7.size + 1 ≤ 9223372036854775807 then (spec_FirstTypos.l0 k x0 x1 x6 (x7 ++ (⟨#[108]⟩ : ByteArray)) (wrap64 (x8 + 1)) x9) else (none)) else (if x9 < (x1.size : Int) then (if 0 ≤ x8 then (if x8 < (x6.length : Int) then (if 0 ≤ (wrap64 (x9 + 1)) then (if (wrap64 (x9 + 1)) < ((rd_L1 x6 x8).length : Int) then (if (wrap64 ((rd (rd_L1 x6 x8) (wrap64 (x9 + 1))) + 1)) = x10 then (if x7.size + 1 ≤ 9223372036854775807 then (spec_FirstTypos.l0 k x0 x1 x6 (x7 ++ (⟨#[109]⟩ : ByteArray)) x8 (wrap64 (x9 + 1))) else (none)) else (if x7.size + 1 ≤ 9223372036854775807 then (spec_FirstTypos.l0 k x0 x1 x6 (x7 ++ (⟨#[114]⟩ : ByteArray)) (wrap64 (x8 + 1)) (wrap64 (x9 + 1))) else (none))) else (none)) else (none)) else (none)) else (none)) else (if x7.size + 1 ≤ 9223372036854775807 then (spec_FirstTypos.l0 k x0 x1 x6 (x7 ++ (⟨#[114]⟩ : ByteArray)) (wrap64 (x8 + 1)) (wrap64 (x9 + 1))) else (none)))
end
def spec_FirstTypos.f (k : Nat) (a0 : ByteArray) (a1 : ByteArray) : Option (ByteArray × Bool) := (spec_bkPair.f k a0 a1).bind fun t101 => (if t101 = true then ((spec_bkTable.f k a0 a1).bind fun t102 => (spec_FirstTypos.l0 k a0 a1 t102 (⟨#[]⟩ : ByteArray) 0 0)) else (some ((⟨#[]⟩ : ByteArray), false)))
theorem spec_FirstTypos.mono_l : ∀ k, (∀ y0 y1 y2 y3 y4 y5, LeO (spec_FirstTypos.l0 k y0 y1 y2 y3 y4 y5) (spec_FirstTypos.l0 (k + 1) y0 y1 y2 y3 y4 y5)) ∧ (∀ y0 y1 y2 y3 y4 y5 y6, LeO (spec_FirstTypos.j1 k y0 y1 y2 y3 y4 y5 y6) (spec_FirstTypos.j1 (k + 1) y0 y1 y2 y3 y4 y5 y6)) ∧ (∀ y0 y1 y2 y3 y4 y5 y6 y7, LeO (spec_FirstTypos.j2 k y0 y1 y2 y3 y4 y5 y6 y7) (spec_FirstTypos.j2 (k + 1) y0 y1 y2 y3 y4 y5 y6 y7)) ∧ (∀ y0 y1 y2 y3 y4 y5 y6 y7, LeO (spec_FirstTypos.j3 k y0 y1 y2 y3 y4 y5 y6 y7) (spec_FirstTypos.j3 (k + 1) y0 y1 y2 y3 y4 y5 y6 y7))
 | 0 => ⟨by intros; intro r h; simp [spec_FirstTypos.l0] at h, by intros; intro r h; simp [spec_FirstTypos.j1] at h, by intros; intro r h; simp [spec_FirstTypos.j2] at h, by intros; intro r h; simp [spec_FirstTypos.j3] at h⟩
 | k + 1 => by
  obtain ⟨ih0, ih1, ih2, ih3⟩ := spec_FirstTypos.mono_l k
  refine ⟨?_, ?_, ?_, ?_⟩
  ·
   intro y0 y1 y2 y3 y4 y5
   unfold spec_FirstTypos.l0
   repeat' first
   | (with_reducible exact ih0 _ _ _ _ _ _)
   | (with_reducible exact ih1 _ _ _ _ _ _ _)
   | (with_reducible exact ih2 _ _ _ _ _ _ _ _)
   | (with_reducible exact ih3 _ _ _ _ _ _ _ _)
   | (with_reducible exact spec_bkPair.mono _ _ _)
   | (with_reducible exact spec_bkTable.mono _ _ _)
   | (with_reducible exact LeO.refl _)
   | (with_reducible exact LeO.none _)
   | (with_reducible refine LeO.ite ?_ ?_)
   | (with_reducible refine LeO.bind ?_ (fun _ => ?_))
   | exact ih0 _ _ _ _ _ _
   | exact ih1 _ _ _ _ _ _ _
   | exact ih2 _ _ _ _ _ _ _ _
   | exact ih3 _ _ _ _ _ _ _ _
   | exact spec_bkPair.mono _ _ _
   | exact spec_bkTable.mono _ _ _
   | exact LeO.none _
   | refine LeO.ite ?_ ?_
   | refine LeO.bind ?_ (fun _ => ?_)
  ·
   intro y0 y1 y2 y3 y4 y5 y6
   unfold spec_FirstTypos.j1
   repeat' first
   | (with_reducible exact ih0 _ _ _ _ _ _)
   | (with_reducible exact ih1 _ _ _ _ _ _ _)
   | (with_reducible exact ih2 _ _ _ _ _ _ _ _)
   | (with_reducible exact ih3 _ _ _ _ _ _ _ _)
   | (with_reducible exact spec_bkPair.mono _ _ _)
   | (with_reducible exact spec_bkTable.mono _ _ _)
   | (with_reducible exact LeO.refl _)
   | (with_reducible exact LeO.none _)
   | (with_reducible refine LeO.ite ?_ ?_)
   | (with_reducible refine LeO.bind ?_ (fun _ => ?_))
   | exact ih0 _ _ _ _ _ _
   | exact ih1 _ _ _ _ _ _ _
   | exact ih2 _ _ _ _ _ _ _ _
   | exact ih3 _ _ _ _ _ _ _ _
   | exact spec_bkPair.mono _ _ _
   | exact spec_bkTable.mono _ _ _
   | exact LeO.none _
   | refine LeO.ite ?_ ?_
   | refine LeO.bind ?_ (fun _ => ?_)
  ·
   intro y0 y1 y2 y3 y4 y5 y6 y7
   unfold spec_FirstTypos.j2
   repeat' first
   | (with_reducible exact ih0 _ _ _ _ _ _)
   | (with_reducible exact ih1 _ _ _ _ _ _ _)
   | (with_reducible exact ih2 _ _ _ _ _ _ _ _)
   | (with_reducible exact ih3 _ _ _ _ _ _ _ _)
   | (with_reducible exact spec_bkPair.mono _ _ _)
   | (with_reducible exact spec_bkTable.mono _ _ _)
   | (with_reducible exact LeO.refl _)
   | (with_reducible exact LeO.none _)
   | (with_reducible refine LeO.ite ?_ ?_)
   | (with_reducible refine LeO.bind ?_ (fun _ => ?_))
   | exact ih0 _ _ _ _ _ _
   | exact ih1 _ _ _ _ _ _ _
   | exact ih2 _ _ _ _ _ _ _ _
   | exact ih3 _ _ _ _ _ _ _ _
   | exact spec_bkPair.mono _ _ _
   | exact spec_bkTable.mono _ _ _
   | exact LeO.none _
   | refine LeO.ite ?_ ?_
   | refine LeO.bind ?_ (fun _ => ?_)
  ·
   intro y0 y1 y2 y3 y4 y5 y6 y7
   unfold spec_FirstTypos.j3
   repeat' first
   | (with_reducible exact ih0 _ _ _ _ _ _)
   | (with_reducible exact ih1 _ _ _ _ _ _ _)
   | (with_reducible exact ih2 _ _ _ _ _ _ _ _)
   | (with_reducible exact ih3 _ _ _ _ _ _ _ _)
   | (with_reducible exact spec_bkPair.mono _ _ _)
   | (with_reducible exact spec_bkTable.mono _ _ _)
   | (with_reducible exact LeO.refl _)
   | (with_reducible exact LeO.none _)
   | (with_reducible refine LeO.ite ?_ ?_)
   | (with_reducible refine LeO.bind ?_ (fun _ => ?_))
   | exact ih0 _ _ _ _ _ _
   | exact ih1 _ _ _ _ _ _ _
   | exact ih2 _ _ _ _ _ _ _ _
   | exact ih3 _ _ _ _ _ _ _ _
   | exact spec_bkPair.mono _ _ _
   | exact spec_bkTable.mono _ _ _
   | exact LeO.none _
   | refine LeO.ite ?_ ?_
   | refine LeO.bind ?_ (fun _ => ?_)
theorem spec_FirstTypos.mono : ∀ y0 y1 k, LeO (spec_FirstTypos.f k y0 y1) (spec_FirstTypos.f (k + 1) y0 y1) := by
 intro y0 y1 k
 obtain ⟨ih0, ih1, ih2, ih3⟩ := spec_FirstTypos.mono_l k
 unfold spec_FirstTypos.f
 repeat' first
   | (with_reducible exact ih0 _ _ _ _ _ _)
   | (with_reducible exact ih1 _ _ _ _ _ _ _)
   | (with_reducible exact ih2 _ _ _ _ _ _ _ _)
   | (with_reducible exact ih3 _ _ _ _ _ _ _ _)
   | (with_reducible exact spec_bkPair.mono _ _ _)
   | (with_reducible exact spec_bkTable.mono _ _ _)
   | (with_reducible exact LeO.refl _)
   | (with_reducible exact LeO.none _)
   | (with_reducible refine LeO.ite ?_ ?_)
   | (with_reducible refine LeO.bind ?_ (fun _ => ?_))
   | exact ih0 _ _ _ _ _ _
   | exact ih1 _ _ _ _ _ _ _
   | exact ih2 _ _ _ _ _ _ _ _
   | exact ih3 _ _ _ _ _ _ _ _
   | exact spec_bkPair.mono _ _ _
   | exact spec_bkTable.mono _ _ _
   | exact LeO.none _
   | refine LeO.ite ?_ ?_
   | refine LeO.bind ?_ (fun _ => ?_)
set_option maxHeartbeats 8000000 in
set_option maxRecDepth 100000 in
theorem spec_FirstTypos.calls (k : Nat) (a0 : ByteArray) (a1 : ByteArray) (r1 : ByteArray) (r2 : Bool) (w : World) (h : spec_FirstTypos.f k a0 a1 = some (r1, r2)) :
  Calls Tryd.prog 14 #[.string a0, .string a1] w fun e w' => e = .returned (.tuple #[.string r1, .bool r2]) ∧ Below w.heap.size w w' := by
 have HB := Aside0.mk (Below.refl w.heap.size w)
 have H : ((spec_bkPair.f k a0 a1).bind fun t101 => (if t101 = true then ((spec_bkTable.f k a0 a1).bind fun t102 => (spec_FirstTypos.l0 k a0 a1 t102 (⟨#[]⟩ : ByteArray) 0 0)) else (some ((⟨#[]⟩ : ByteArray), false)))) = some (r1, r2) := h
 clear h
 replace H := Option.bind_eq_some_iff.mp H
 obtain ⟨t101, A30, H⟩ := H
 replace H : (if t101 = true then ((spec_bkTable.f k a0 a1).bind fun t102 => (spec_FirstTypos.l0 k a0 a1 t102 (⟨#[]⟩ : ByteArray) 0 0)) else (some ((⟨#[]⟩ : ByteArray), false))) = some (r1, r2) := H
 have A3 := Aside0.mk A30
 clear A30
 by_cases c4 : t101 = true
 ·
  subst c4
  have H1 : ((spec_bkTable.f k a0 a1).bind fun t102 => (spec_FirstTypos.l0 k a0 a1 t102 (⟨#[]⟩ : ByteArray) 0 0)) = some (r1, r2) := by rw [if_pos rfl] at H; exact H
  clear H
  have H := H1
  clear H1
  replace H := Option.bind_eq_some_iff.mp H
  obtain ⟨t102, A50, H⟩ := H
  replace H : (spec_FirstTypos.l0 k a0 a1 t102 (⟨#[]⟩ : ByteArray) 0 0) = some (r1, r2) := H
  have A5 := Aside0.mk A50
  clear A50
  have H' := Aside0.mk H
  clear H
  go_enter Tryd.func14, Tryd.ntmps14
  go_wp2_with (first | (go_at_call 29; (with_reducible refine (spec_bkPair.calls k a0 a1 true _ A3.out).mono ?_); rintro e w' ⟨rfl, ⟨nd, rfl⟩⟩; (try first | exact ⟨rfl, _, World.drewN_drewN _ _ _⟩ | exact ⟨rfl, _, Eq.trans (World.drewN_drewN _ _ _) (congrArg (World.drewN _) (Nat.add_assoc _ _ _))⟩)) | (go_at_call 33; (with_reducible refine (spec_bkTable.calls k a0 a1 t102 _ A5.out).mono ?_); rintro e w6 ⟨v103, rfl, ho0, hb⟩; have n0_ := Aside0.mk (Kd.S_lower ho0 (below_size (by repeat (first | (with_reducible first | exact HB.out | apply below_alloc | apply pw_below_drewN | apply below_drew1) | exact HB.out)))); have n1_ := Aside0.mk (below_step (by repeat (first | (with_reducible first | exact HB.out | apply below_alloc | apply pw_below_drewN | apply below_drew1) | exact HB.out)) hb); clear HB; have HO104 := n0_; have HB := n1_; clear n0_ n1_; (try clear hb); (try clear hb2); (try clear hk); (try clear hi); (try clear ho0)))
  repeat (go_quiet (first | (go_at_call 29; (with_reducible refine (spec_bkPair.calls k a0 a1 true _ A3.out).mono ?_); rintro e w' ⟨rfl, ⟨nd, rfl⟩⟩; (try first | exact ⟨rfl, _, World.drewN_drewN _ _ _⟩ | exact ⟨rfl, _, Eq.trans (World.drewN_drewN _ _ _) (congrArg (World.drewN _) (Nat.add_assoc _ _ _))⟩)) | (go_at_call 33; (with_reducible refine (spec_bkTable.calls k a0 a1 t102 _ A5.out).mono ?_); rintro e w6 ⟨v103, rfl, ho0, hb⟩; have n0_ := Aside0.mk (Kd.S_lower ho0 (below_size (by repeat (first | (with_reducible first | exact HB.out | apply below_alloc | apply pw_below_drewN | apply below_drew1) | exact HB.out)))); have n1_ := Aside0.mk (below_step (by repeat (first | (with_reducible first | exact HB.out | apply below_alloc | apply pw_below_drewN | apply below_drew1) | exact HB.out)) hb); clear HB; have HO104 := n0_; have HB := n1_; clear n0_ n1_; (try clear hb); (try clear hb2); (try clear hk); (try clear hi); (try clear ho0))); try go_wp2_with (first | (go_at_call 29; (with_reducible refine (spec_bkPair.calls k a0 a1 true _ A3.out).mono ?_); rintro e w' ⟨rfl, ⟨nd, rfl⟩⟩; (try first | exact ⟨rfl, _, World.drewN_drewN _ _ _⟩ | exact ⟨rfl, _, Eq.trans (World.drewN_drewN _ _ _) (congrArg (World.drewN _) (Nat.add_assoc _ _ _))⟩)) | (go_at_call 33; (with_reducible refine (spec_bkTable.calls k a0 a1 t102 _ A5.out).mono ?_); rintro e w6 ⟨v103, rfl, ho0, hb⟩; have n0_ := Aside0.mk (Kd.S_lower ho0 (below_size (by repeat (first | (with_reducible first | exact HB.out | apply below_alloc | apply pw_below_drewN | apply below_drew1) | exact HB.out)))); have n1_ := Aside0.mk (below_step (by repeat (first | (with_reducible first | exact HB.out | apply below_alloc | apply pw_below_drewN | apply below_drew1) | exact HB.out)) hb); clear HB; have HO104 := n0_; have HB := n1_; clear n0_ n1_; (try clear hb); (try clear hb2); (try clear hk); (try clear hi); (try clear ho0))))
  go_loopg [7, 8, 9] k (fun kq v7 v8 v9 w' => ∃ (x7_1 : ByteArray) (x8_1 : Int) (x9_1 : Int), v7 = .string x7_1 ∧ v8 = .int .i64 x8_1 ∧ v9 = .int .i64 x9_1 ∧ Aside0 (spec_FirstTypos.l0 kq a0 a1 t102 x7_1 x8_1 x9_1 = some (r1, r2)) ∧ Aside0 (kq ≤ k) ∧ Aside0 (Kd.S (Kd.slice 3 (Kd.int .i64)) 41 w' w.heap.size (fun _ => True) v103 t102) ∧ Aside0 (Below w.heap.size w w'))
  case atStart => exact ⟨((⟨#[]⟩ : ByteArray)), (0), (0), (by first | rfl | (simp; done) | (simp [*]; done)), (by first | rfl | (simp; done) | (simp [*]; done)), (by first | rfl | (simp; done) | (simp [*]; done)), H', ⟨Nat.le_refl _⟩, ⟨by (with_reducible repeat (first | apply Kd.S_alloc | apply Kd.S_drewN | apply Kd.S_drew)); exact HO104.out⟩, ⟨by repeat (first | (with_reducible first | exact HB.out | apply below_alloc | apply pw_below_drewN | apply below_drew1) | exact HB.out)⟩⟩
  case round =>
   clear H'
   try clear c1
   try clear p2
   try clear c4
   obtain ⟨x7_1, x8_1, x9_1, rfl, rfl, rfl, HA, HK1, HO_6, HB⟩ := hrel
   cases gk with
   | zero => exact absurd HA.out (by simp [spec_FirstTypos.l0])
   | succ k1 =>
    have H := HA.out
    clear HA
    simp only [spec_FirstTypos.l0] at H
    have HC7 := Aside0.mk H
    clear H
    go_upto_region 6 with (fail)
    repeat (go_quiet (fail); go_upto_region 6 with (fail))
    go_cut [27] (fun v27 wc => ∃ (kq : Nat) (x27_6 : Bool), v27 = .bool x27_6 ∧ Aside0 (spec_FirstTypos.j1 kq a0 a1 t102 x7_1 x8_1 x9_1 x27_6 = some (r1, r2)) ∧ Aside0 (kq ≤ k1) ∧ Aside0 (Kd.S (Kd.slice 3 (Kd.int .i64)) 41 wc w.heap.size (fun _ => True) v103 t102) ∧ Aside0 (Below w.heap.size w wc))
    case first =>
     have H := HC7.out
     clear HC7
     by_cases c8 : x8_1 < (a0.size : Int)
     ·
      rw [if_pos c8] at H
      have c8b0 : decide (x8_1 < (a0.size : Int)) = true := decide_eq_true c8
      clear c8
      (first | rw [c8b0] | (simp only [i64_w, i32_w]; rw [c8b0]) | skip)
      have H' := Aside0.mk H
      clear H
      go_wp2
      repeat (go_quiet (fail); try go_wp2)
      go_meet
      case rel => exact ⟨_, (true), (by first | rfl | (simp; done) | (simp [*]; done)), H', ⟨by have := HK1.out; first | omega | exact Nat.le_refl _⟩, ⟨by (with_reducible repeat (first | apply Kd.S_alloc | apply Kd.S_drewN | apply Kd.S_drew)); exact HO_6.out⟩, ⟨by repeat (first | (with_reducible first | exact HB.out | apply below_alloc | apply pw_below_drewN | apply below_drew1) | exact HB.out)⟩⟩
     ·
      rw [if_neg c8] at H
      have c8b0 : decide (x8_1 < (a0.size : Int)) = false := decide_eq_false c8
      clear c8
      (first | rw [c8b0] | (simp only [i64_w, i32_w]; rw [c8b0]) | skip)
      have H' := Aside0.mk H
      clear H
      go_wp2
      repeat (go_quiet (fail); try go_wp2)
      go_meet
      case rel => exact ⟨_, (decide (x9_1 < (a1.size : Int))), (by first | rfl | (simp; done) | (simp [*]; done)), H', ⟨by have := HK1.out; first | omega | exact Nat.le_refl _⟩, ⟨by (with_reducible repeat (first | apply Kd.S_alloc | apply Kd.S_drewN | apply Kd.S_drew)); exact HO_6.out⟩, ⟨by repeat (first | (with_reducible first | exact HB.out | apply below_alloc | apply pw_below_drewN | apply below_drew1) | exact HB.out)⟩⟩
    case rest =>
     clear HC7
     try clear c1
     try clear p2
     try clear c4
     try clear c8
     try clear c8b0
     try clear p2
     obtain ⟨kq, x27_6, rfl, HA, HJ6, HO_6, HB⟩ := hcut
     cases kq with
     | zero => exact absurd HA.out (by simp [spec_FirstTypos.j1])
     | succ kj6 =>
      have H := HA.out
      clear HA
      simp only [spec_FirstTypos.j1] at H
      by_cases c9 : x27_6 = true
      ·
       subst c9
       have H1 : (if 0 ≤ x8_1 then (if x8_1 < (t102.length : Int) then (if 0 ≤ x9_1 then (if x9_1 < ((rd_L1 t102 x8_1).length : Int) then (if x8_1 < (a0.size : Int) then (if x9_1 < (a1.size : Int) then (if (bt a0 x8_1) = (bt a1 x9_1) then (if 0 ≤ (wrap64 (x8_1 + 1)) then (if (wrap64 (x8_1 + 1)) < (t102.length : Int) then (if 0 ≤ (wrap64 (x9_1 + 1)) then (if (wrap64 (x9_1 + 1)) < ((rd_L1 t102 (wrap64 (x8_1 + 1))).length : Int) then (spec_FirstTypos.j2 kj6 a0 a1 t102 x7_1 x8_1 x9_1 (rd (rd_L1 t102 x8_1) x9_1) ((rd (rd_L1 t102 (wrap64 (x8_1 + 1))) (wrap64 (x9_1 + 1))) == (rd (rd_L1 t102 x8_1) x9_1))) else (none)) else (none)) else (none)) else (none)) else (spec_FirstTypos.j2 kj6 a0 a1 t102 x7_1 x8_1 x9_1 (rd (rd_L1 t102 x8_1) x9_1) false)) else (spec_FirstTypos.j2 kj6 a0 a1 t102 x7_1 x8_1 x9_1 (rd (rd_L1 t102 x8_1) x9_1) false)) else (spec_FirstTypos.j2 kj6 a0 a1 t102 x7_1 x8_1 x9_1 (rd (rd_L1 t102 x8_1) x9_1) false)) else (none)) else (none)) else (none)) else (none)) = some (r1, r2) := by rw [if_pos rfl] at H; exact H
       clear H
       have H := H1
       clear H1
       by_cases c10 : 0 ≤ x8_1
       ·
        rw [if_pos c10] at H
        have c10b0 : decide (0 ≤ x8_1) = true := decide_eq_true c10
        clear c10
        by_cases c11 : x8_1 < (t102.length : Int)
        ·
         rw [if_pos c11] at H
         have c11b0 : decide (x8_1 < (t102.length : Int)) = true := decide_eq_true c11
         clear c11
         by_cases c12 : 0 ≤ x9_1
         ·
          rw [if_pos c12] at H
          have c12b0 : decide (0 ≤ x9_1) = true := decide_eq_true c12
          clear c12
          by_cases c13 : x9_1 < ((rd_L1 t102 x8_1).length : Int)
          ·
           rw [if_pos c13] at H
           have c13b0 : decide (x9_1 < ((rd_L1 t102 x8_1).length : Int)) = true := decide_eq_true c13
           clear c13
           have HC14 := Aside0.mk H
           clear H
           obtain ⟨Ao15, co15, eo15⟩ := Kd.S_slice HO_6.out
           subst eo15
           have p105 : 0 ≤ (x8_1 : Int) := of_decide_eq_true (by first | (with_reducible assumption) | assumption)
           have q105 : x8_1 < (t102.length : Int) := of_decide_eq_true (by first | (with_reducible assumption) | assumption)
           obtain ⟨ad105, A105_0, c105_0, e105, hx105_0, hl105_0, hi105_0⟩ := at_L1 (Kd.S_reads' HO_6.out).2.2 x8_1 p105 q105
           cases e105
           obtain ⟨ce105, hce105, hMe105, hcc105⟩ := Kd.S_get HO_6.out [] x8_1 p105 (by first | exact q105 | exact of_decide_eq_true (by first | (with_reducible assumption) | assumption) | (have e_ := (Kd.S_reads' HO_6.out).1; omega))
           obtain ⟨ve105_0, rfl, ge105_0⟩ := hMe105
           have hv105_0 := hcc105 0 _ rfl
           rw [Nat.add_zero, show ((Kd.slice 3 (Kd.int .i64))).sz = 1 from rfl, Nat.mul_one] at hv105_0
           replace hv105_0 := Option.some.inj (hv105_0.symm.trans hx105_0)
           rw [hv105_0] at ge105_0
           have HL105_0 := Aside0.mk (show Kd.R (Kd.int .i64) 3 _ _ _ _ (rd_L1 t102 x8_1) from ge105_0)
           clear hv105_0 ge105_0
           clear hcc105 hce105
           have HR105_0 := Aside0.mk hi105_0
           have HC105_0 := Aside0.mk hl105_0
           clear hi105_0 hl105_0
           replace p105 := eq_true p105
           replace q105 := eq_true q105
           have p106 : 0 ≤ (x9_1 : Int) := of_decide_eq_true (by first | (with_reducible assumption) | assumption)
           have q106 : x9_1 < ((rd_L1 t102 x8_1).length : Int) := of_decide_eq_true (by first | (with_reducible assumption) | assumption)
           obtain ⟨ad106, e106, hx106_0⟩ := Kd.at_int (by repeat (first | (with_reducible exact HR105_0.out) | (with_reducible refine Kd.C_alloc ?_ _) | (with_reducible refine Kd.C_drewN ?_ _) | (with_reducible refine Kd.C_drew ?_) | exact HR105_0.out)) x9_1 p106 q106
           cases e106
           replace p106 := eq_true p106
           replace q106 := eq_true q106
           go_upto_region 11 with (fail)
           repeat (go_quiet (fail); go_upto_region 11 with (fail))
           go_cut [41] (fun v41 wc => ∃ (kq : Nat) (x41_13 : Bool), v41 = .bool x41_13 ∧ Aside0 (spec_FirstTypos.j2 kq a0 a1 t102 x7_1 x8_1 x9_1 (rd (rd_L1 t102 x8_1) x9_1) x41_13 = some (r1, r2)) ∧ Aside0 (kq ≤ kj6) ∧ Aside0 (Kd.S (Kd.slice 3 (Kd.int .i64)) 41 wc w.heap.size (fun _ => True) (.slice (some ad105) t102.length co15) t102) ∧ Aside0 (Kd.C (Kd.int .i64) wc (some ad106) (rd_L1 t102 x8_1).length (rd_L1 t102 x8_1)) ∧ Aside0 (Below w.heap.size w wc))
           case first =>
            have H := HC14.out
            clear HC14
            by_cases c16 : x8_1 < (a0.size : Int)
            ·
             rw [if_pos c16] at H
             have c16b0 : decide (x8_1 < (a0.size : Int)) = true := decide_eq_true c16
             clear c16
             (first | rw [c16b0] | (simp only [i64_w, i32_w]; rw [c16b0]) | skip)
             by_cases c17 : x9_1 < (a1.size : Int)
             ·
              rw [if_pos c17] at H
              have c17b0 : decide (x9_1 < (a1.size : Int)) = true := decide_eq_true c17
              clear c17
              by_cases c20 : (bt a0 x8_1) = (bt a1 x9_1)
              ·
               rw [if_pos c20] at H
               have c20b0 : ((bt a0 x8_1) == (bt a1 x9_1)) = true := beq_iff_eq.mpr c20
               have c20b1 : ((bt a0 x8_1) != (bt a1 x9_1)) = false := bne_eq_false_iff_eq.mpr c20
               clear c20
               obtain ⟨ji21, hji21⟩ : ∃ j_ : Int, (wrap64 (x8_1 + 1)) = j_ := ⟨_, rfl⟩
               replace H : (if 0 ≤ (ji21) then (if (ji21) < (t102.length : Int) then (if 0 ≤ (wrap64 (x9_1 + 1)) then (if (wrap64 (x9_1 + 1)) < ((rd_L1 t102 (ji21)).length : Int) then (spec_FirstTypos.j2 kj6 a0 a1 t102 x7_1 x8_1 x9_1 (rd (rd_L1 t102 x8_1) x9_1) ((rd (rd_L1 t102 (ji21)) (wrap64 (x9_1 + 1))) == (rd (rd_L1 t102 x8_1) x9_1))) else (none)) else (none)) else (none)) else (none)) = some (r1, r2) := by first | (rw [hji21] at H; exact H) | (simp only [hji21] at H ⊢; exact H)
               have hji21w : (IntKind.i64.wrap (x8_1 + 1)) = ji21 := (i64_w _).trans hji21
               by_cases c22 : 0 ≤ (ji21)
               ·
                rw [if_pos c22] at H
                have c22b0 : decide (0 ≤ (ji21)) = true := decide_eq_true c22
                clear c22
                by_cases c23 : (ji21) < (t102.length : Int)
                ·
                 rw [if_pos c23] at H
                 have c23b0 : decide ((ji21) < (t102.length : Int)) = true := decide_eq_true c23
                 clear c23
                 obtain ⟨ji24, hji24⟩ : ∃ j_ : Int, (wrap64 (x9_1 + 1)) = j_ := ⟨_, rfl⟩
                 replace H : (if 0 ≤ (ji24) then (if (ji24) < ((rd_L1 t102 (ji21)).length : Int) then (spec_FirstTypos.j2 kj6 a0 a1 t102 x7_1 x8_1 x9_1 (rd (rd_L1 t102 x8_1) x9_1) ((rd (rd_L1 t102 (ji21)) (ji24)) == (rd (rd_L1 t102 x8_1) x9_1))) else (none)) else (none)) = some (r1, r2) := by first | (rw [hji24] at H; exact H) | (simp only [hji24] at H ⊢; exact H)
                 have hji24w : (IntKind.i64.wrap (x9_1 + 1)) = ji24 := (i64_w _).trans hji24
                 by_cases c25 : 0 ≤ (ji24)
                 ·
                  rw [if_pos c25] at H
                  have c25b0 : decide (0 ≤ (ji24)) = true := decide_eq_true c25
                  clear c25
                  by_cases c26 : (ji24) < ((rd_L1 t102 (ji21)).length : Int)
                  ·
                   rw [if_pos c26] at H
                   have c26b0 : decide ((ji24) < ((rd_L1 t102 (ji21)).length : Int)) = true := decide_eq_true c26
                   clear c26
                   have H' := Aside0.mk H
                   clear H
                   have p18 : 0 ≤ (x8_1 : Int) := of_decide_eq_true (by first | (with_reducible assumption) | assumption)
                   have q18 : x8_1 < (a0.size : Int) := of_decide_eq_true (by first | (with_reducible assumption) | assumption)
                   have hx18 := bt_at a0 x8_1
                   replace p18 := eq_true p18
                   replace q18 := eq_true q18
                   have p19 : 0 ≤ (x9_1 : Int) := of_decide_eq_true (by first | (with_reducible assumption) | assumption)
                   have q19 : x9_1 < (a1.size : Int) := of_decide_eq_true (by first | (with_reducible assumption) | assumption)
                   have hx19 := bt_at a1 x9_1
                   replace p19 := eq_true p19
                   replace q19 := eq_true q19
                   have p107 : 0 ≤ ((ji21) : Int) := of_decide_eq_true (by first | (with_reducible assumption) | assumption)
                   have q107 : (ji21) < (t102.length : Int) := of_decide_eq_true (by first | (with_reducible assumption) | assumption)
                   obtain ⟨ad107, A107_0, c107_0, e107, hx107_0, hl107_0, hi107_0⟩ := at_L1 (Kd.S_reads' HO_6.out).2.2 (ji21) p107 q107
                   obtain rfl : ad105 = ad107 := (by injection e107)
                   obtain ⟨ce107, hce107, hMe107, hcc107⟩ := Kd.S_get HO_6.out [] (ji21) p107 (by first | exact q107 | exact of_decide_eq_true (by first | (with_reducible assumption) | assumption) | (have e_ := (Kd.S_reads' HO_6.out).1; omega))
                   obtain ⟨ve107_0, rfl, ge107_0⟩ := hMe107
                   have hv107_0 := hcc107 0 _ rfl
                   rw [Nat.add_zero, show ((Kd.slice 3 (Kd.int .i64))).sz = 1 from rfl, Nat.mul_one] at hv107_0
                   replace hv107_0 := Option.some.inj (hv107_0.symm.trans hx107_0)
                   rw [hv107_0] at ge107_0
                   have HL107_0 := Aside0.mk (show Kd.R (Kd.int .i64) 3 _ _ _ _ (rd_L1 t102 (ji21)) from ge107_0)
                   clear hv107_0 ge107_0
                   clear hcc107 hce107
                   have HR107_0 := Aside0.mk hi107_0
                   have HC107_0 := Aside0.mk hl107_0
                   clear hi107_0 hl107_0
                   replace p107 := eq_true p107
                   replace q107 := eq_true q107
                   have p108 : 0 ≤ ((ji24) : Int) := of_decide_eq_true (by first | (with_reducible assumption) | assumption)
                   have q108 : (ji24) < ((rd_L1 t102 (ji21)).length : Int) := of_decide_eq_true (by first | (with_reducible assumption) | assumption)
                   obtain ⟨ad108, e108, hx108_0⟩ := Kd.at_int (by repeat (first | (with_reducible exact HR107_0.out) | (with_reducible refine Kd.C_alloc ?_ _) | (with_reducible refine Kd.C_drewN ?_ _) | (with_reducible refine Kd.C_drew ?_) | exact HR107_0.out)) (ji24) p108 q108
                   cases e108
                   replace p108 := eq_true p108
                   replace q108 := eq_true q108
                   go_wp2
                   repeat (go_quiet (fail); try go_wp2)
                   go_meet
                   case rel => exact ⟨_, (((rd (rd_L1 t102 (ji21)) (ji24)) == (rd (rd_L1 t102 x8_1) x9_1))), (by first | rfl | (simp; done) | (simp only [← hji21, ← hji24] <;> (first | rfl | simp)) | (simp [*]; done)), H', ⟨by have := HK1.out; have := HJ6.out; first | omega | exact Nat.le_refl _⟩, ⟨by (with_reducible repeat (first | apply Kd.S_alloc | apply Kd.S_drewN | apply Kd.S_drew)); exact HO_6.out⟩, ⟨by repeat (first | (with_reducible exact HR105_0.out) | (with_reducible refine Kd.C_alloc ?_ _) | (with_reducible refine Kd.C_drewN ?_ _) | (with_reducible refine Kd.C_drew ?_) | exact HR105_0.out)⟩, ⟨by repeat (first | (with_reducible first | exact HB.out | apply below_alloc | apply pw_below_drewN | apply below_drew1) | exact HB.out)⟩⟩
                  ·
                   rw [if_neg c26] at H
                   exact absurd H (by simp)
                 ·
                  rw [if_neg c25] at H
                  exact absurd H (by simp)
                ·
                 rw [if_neg c23] at H
                 exact absurd H (by simp)
               ·
                rw [if_neg c22] at H
                exact absurd H (by simp)
              ·
               rw [if_neg c20] at H
               have c20b0 : ((bt a0 x8_1) == (bt a1 x9_1)) = false := beq_eq_false_iff_ne.mpr c20
               have c20b1 : ((bt a0 x8_1) != (bt a1 x9_1)) = true := bne_iff_ne.mpr c20
               have H' := Aside0.mk H
               clear H
               have p18 : 0 ≤ (x8_1 : Int) := of_decide_eq_true (by first | (with_reducible assumption) | assumption)
               have q18 : x8_1 < (a0.size : Int) := of_decide_eq_true (by first | (with_reducible assumption) | assumption)
               have hx18 := bt_at a0 x8_1
               replace p18 := eq_true p18
               replace q18 := eq_true q18
               have p19 : 0 ≤ (x9_1 : Int) := of_decide_eq_true (by first | (with_reducible assumption) | assumption)
               have q19 : x9_1 < (a1.size : Int) := of_decide_eq_true (by first | (with_reducible assumption) | assumption)
               have hx19 := bt_at a1 x9_1
               replace p19 := eq_true p19
               replace q19 := eq_true q19
               go_wp2
               repeat (go_quiet (fail); try go_wp2)
               go_meet
               case rel => exact ⟨_, (false), (by first | rfl | (simp; done) | (simp [*]; done)), H', ⟨by have := HK1.out; have := HJ6.out; first | omega | exact Nat.le_refl _⟩, ⟨by (with_reducible repeat (first | apply Kd.S_alloc | apply Kd.S_drewN | apply Kd.S_drew)); exact HO_6.out⟩, ⟨by repeat (first | (with_reducible exact HR105_0.out) | (with_reducible refine Kd.C_alloc ?_ _) | (with_reducible refine Kd.C_drewN ?_ _) | (with_reducible refine Kd.C_drew ?_) | exact HR105_0.out)⟩, ⟨by repeat (first | (with_reducible first | exact HB.out | apply below_alloc | apply pw_below_drewN | apply below_drew1) | exact HB.out)⟩⟩
             ·
              rw [if_neg c17] at H
              have c17b0 : decide (x9_1 < (a1.size : Int)) = false := decide_eq_false c17
              clear c17
              have H' := Aside0.mk H
              clear H
              go_wp2
              repeat (go_quiet (fail); try go_wp2)
              go_meet
              case rel => exact ⟨_, (false), (by first | rfl | (simp; done) | (simp [*]; done)), H', ⟨by have := HK1.out; have := HJ6.out; first | omega | exact Nat.le_refl _⟩, ⟨by (with_reducible repeat (first | apply Kd.S_alloc | apply Kd.S_drewN | apply Kd.S_drew)); exact HO_6.out⟩, ⟨by repeat (first | (with_reducible exact HR105_0.out) | (with_reducible refine Kd.C_alloc ?_ _) | (with_reducible refine Kd.C_drewN ?_ _) | (with_reducible refine Kd.C_drew ?_) | exact HR105_0.out)⟩, ⟨by repeat (first | (with_reducible first | exact HB.out | apply below_alloc | apply pw_below_drewN | apply below_drew1) | exact HB.out)⟩⟩
            ·
             rw [if_neg c16] at H
             have c16b0 : decide (x8_1 < (a0.size : Int)) = false := decide_eq_false c16
             clear c16
             (first | rw [c16b0] | (simp only [i64_w, i32_w]; rw [c16b0]) | skip)
             have H' := Aside0.mk H
             clear H
             go_wp2
             repeat (go_quiet (fail); try go_wp2)
             go_meet
             case rel => exact ⟨_, (false), (by first | rfl | (simp; done) | (simp [*]; done)), H', ⟨by have := HK1.out; have := HJ6.out; first | omega | exact Nat.le_refl _⟩, ⟨by (with_reducible repeat (first | apply Kd.S_alloc | apply Kd.S_drewN | apply Kd.S_drew)); exact HO_6.out⟩, ⟨by repeat (first | (with_reducible exact HR105_0.out) | (with_reducible refine Kd.C_alloc ?_ _) | (with_reducible refine Kd.C_drewN ?_ _) | (with_reducible refine Kd.C_drew ?_) | exact HR105_0.out)⟩, ⟨by repeat (first | (with_reducible first | exact HB.out | apply below_alloc | apply pw_below_drewN | apply below_drew1) | exact HB.out)⟩⟩
           case rest =>
            clear HC14
            try clear c1
            try clear p1
            try clear q1
            try clear hx1
            try clear c2
            try clear p2
            try clear c4
            try clear p6
            try clear c8
            try clear c8b0
            try clear c9
            try clear c10
            try clear c10b0
            try clear p10
            try clear q10
            try clear hx10
            try clear c11
            try clear c11b0
            try clear c12
            try clear c12b0
            try clear c13
            try clear c13b0
            try clear c14
            try clear c16
            try clear c16b0
            try clear c17
            try clear c17b0
            try clear p18
            try clear q18
            try clear hx18
            try clear p19
            try clear q19
            try clear hx19
            try clear c20
            try clear c20b0
            try clear c20b1
            try clear c22
            try clear c22b0
            try clear c23
            try clear c23b0
            try clear c25
            try clear c25b0
            try clear c26
            try clear c26b0
            try clear hx105_0
            try clear hx106_0
            try clear hx107_0
            try clear hx108_0
            try clear p105
            try clear p106
            try clear p107
            try clear p108
            try clear p18
            try clear p19
            try clear p2
            try clear q105
            try clear q106
            try clear q107
            try clear q108
            try clear q18
            try clear q19
            obtain ⟨kq, x41_13, rfl, HA, HJ13, HO_6, HR105_0, HB⟩ := hcut
            cases kq with
            | zero => exact absurd HA.out (by simp [spec_FirstTypos.j2])
            | succ kj13 =>
             have H := HA.out
             clear HA
             simp only [spec_FirstTypos.j2] at H
             by_cases c27 : x41_13 = true
             ·
              subst c27
              have H1 : (if x7_1.size + 1 ≤ 9223372036854775807 then (spec_FirstTypos.l0 kj13 a0 a1 t102 (x7_1 ++ (⟨#[107]⟩ : ByteArray)) (wrap64 (x8_1 + 1)) (wrap64 (x9_1 + 1))) else (none)) = some (r1, r2) := by rw [if_pos rfl] at H; exact H
              clear H
              have H := H1
              clear H1
              by_cases c28 : x7_1.size + 1 ≤ 9223372036854775807
              ·
               rw [if_pos c28] at H
               have c28b0 := eq_true c28
               have c28b1 : decide (x7_1.size + 1 ≤ 9223372036854775807) = true := decide_eq_true c28
               try have c28b2 : (9223372036854775807 < x7_1.size + 1) = False := eq_false (Nat.not_lt.2 c28)
               have H' := Aside0.mk H
               clear H
               go_wp2
               repeat (go_quiet (fail); try go_wp2)
               go_roundg kj13
               case measure => have := HK1.out; have := HJ6.out; have := HJ13.out; omega
               case rel => exact ⟨(x7_1 ++ (⟨#[107]⟩ : ByteArray)), (wrap64 (x8_1 + 1)), (wrap64 (x9_1 + 1)), (by first | rfl | (simp; done) | (simp [*]; done)), (by first | rfl | (simp; done) | (simp [*]; done)), (by first | rfl | (simp; done) | (simp [*]; done)), H', ⟨by have := HK1.out; have := HJ6.out; have := HJ13.out; omega⟩, ⟨by (with_reducible repeat (first | apply Kd.S_alloc | apply Kd.S_drewN | apply Kd.S_drew)); exact HO_6.out⟩, ⟨by repeat (first | (with_reducible first | exact HB.out | apply below_alloc | apply pw_below_drewN | apply below_drew1) | exact HB.out)⟩⟩
              ·
               rw [if_neg c28] at H
               exact absurd H (by simp)
             ·
              replace c27 := Bool.eq_false_iff.mpr c27
              subst c27
              have H1 : (if x8_1 < (a0.size : Int) then (if 0 ≤ (wrap64 (x8_1 + 1)) then (if (wrap64 (x8_1 + 1)) < (t102.length : Int) then (if 0 ≤ x9_1 then (if x9_1 < ((rd_L1 t102 (wrap64 (x8_1 + 1))).length : Int) then (spec_FirstTypos.j3 kj13 a0 a1 t102 x7_1 x8_1 x9_1 (rd (rd_L1 t102 x8_1) x9_1) ((wrap64 ((rd (rd_L1 t102 (wrap64 (x8_1 + 1))) x9_1) + 1)) == (rd (rd_L1 t102 x8_1) x9_1))) else (none)) else (none)) else (none)) else (none)) else (spec_FirstTypos.j3 kj13 a0 a1 t102 x7_1 x8_1 x9_1 (rd (rd_L1 t102 x8_1) x9_1) false)) = some (r1, r2) := by rw [if_neg (show ¬ (false = true) by decide)] at H; exact H
              clear H
              have H := H1
              clear H1
              have HC29 := Aside0.mk H
              clear H
              go_upto_region 15 with (fail)
              repeat (go_quiet (fail); go_upto_region 15 with (fail))
              go_cut [80] (fun v80 wc => ∃ (kq : Nat) (x80_28 : Bool), v80 = .bool x80_28 ∧ Aside0 (spec_FirstTypos.j3 kq a0 a1 t102 x7_1 x8_1 x9_1 (rd (rd_L1 t102 x8_1) x9_1) x80_28 = some (r1, r2)) ∧ Aside0 (kq ≤ kj13) ∧ Aside0 (Kd.S (Kd.slice 3 (Kd.int .i64)) 41 wc w.heap.size (fun _ => True) (.slice (some ad105) t102.length co15) t102) ∧ Aside0 (Kd.C (Kd.int .i64) wc (some ad106) (rd_L1 t102 x8_1).length (rd_L1 t102 x8_1)) ∧ Aside0 (Below w.heap.size w wc))
              case first =>
               have H := HC29.out
               clear HC29
               by_cases c30 : x8_1 < (a0.size : Int)
               ·
                rw [if_pos c30] at H
                have c30b0 : decide (x8_1 < (a0.size : Int)) = true := decide_eq_true c30
                clear c30
                (first | rw [c30b0] | (simp only [i64_w, i32_w]; rw [c30b0]) | skip)
                obtain ⟨ji31, hji31⟩ : ∃ j_ : Int, (wrap64 (x8_1 + 1)) = j_ := ⟨_, rfl⟩
                replace H : (if 0 ≤ (ji31) then (if (ji31) < (t102.length : Int) then (if 0 ≤ x9_1 then (if x9_1 < ((rd_L1 t102 (ji31)).length : Int) then (spec_FirstTypos.j3 kj13 a0 a1 t102 x7_1 x8_1 x9_1 (rd (rd_L1 t102 x8_1) x9_1) ((wrap64 ((rd (rd_L1 t102 (ji31)) x9_1) + 1)) == (rd (rd_L1 t102 x8_1) x9_1))) else (none)) else (none)) else (none)) else (none)) = some (r1, r2) := by first | (rw [hji31] at H; exact H) | (simp only [hji31] at H ⊢; exact H)
                have hji31w : (IntKind.i64.wrap (x8_1 + 1)) = ji31 := (i64_w _).trans hji31
                by_cases c32 : 0 ≤ (ji31)
                ·
                 rw [if_pos c32] at H
                 have c32b0 : decide (0 ≤ (ji31)) = true := decide_eq_true c32
                 clear c32
                 by_cases c33 : (ji31) < (t102.length : Int)
                 ·
                  rw [if_pos c33] at H
                  have c33b0 : decide ((ji31) < (t102.length : Int)) = true := decide_eq_true c33
                  clear c33
                  by_cases c34 : 0 ≤ x9_1
                  ·
                   rw [if_pos c34] at H
                   have c34b0 : decide (0 ≤ x9_1) = true := decide_eq_true c34
                   clear c34
                   by_cases c35 : x9_1 < ((rd_L1 t102 (ji31)).length : Int)
                   ·
                    rw [if_pos c35] at H
                    have c35b0 : decide (x9_1 < ((rd_L1 t102 (ji31)).length : Int)) = true := decide_eq_true c35
                    clear c35
                    have H' := Aside0.mk H
                    clear H
                    have p109 : 0 ≤ ((ji31) : Int) := of_decide_eq_true (by first | (with_reducible assumption) | assumption)
                    have q109 : (ji31) < (t102.length : Int) := of_decide_eq_true (by first | (with_reducible assumption) | assumption)
                    obtain ⟨ad109, A109_0, c109_0, e109, hx109_0, hl109_0, hi109_0⟩ := at_L1 (Kd.S_reads' HO_6.out).2.2 (ji31) p109 q109
                    obtain rfl : ad105 = ad109 := (by injection e109)
                    obtain ⟨ce109, hce109, hMe109, hcc109⟩ := Kd.S_get HO_6.out [] (ji31) p109 (by first | exact q109 | exact of_decide_eq_true (by first | (with_reducible assumption) | assumption) | (have e_ := (Kd.S_reads' HO_6.out).1; omega))
                    obtain ⟨ve109_0, rfl, ge109_0⟩ := hMe109
                    have hv109_0 := hcc109 0 _ rfl
                    rw [Nat.add_zero, show ((Kd.slice 3 (Kd.int .i64))).sz = 1 from rfl, Nat.mul_one] at hv109_0
                    replace hv109_0 := Option.some.inj (hv109_0.symm.trans hx109_0)
                    rw [hv109_0] at ge109_0
                    have HL109_0 := Aside0.mk (show Kd.R (Kd.int .i64) 3 _ _ _ _ (rd_L1 t102 (ji31)) from ge109_0)
                    clear hv109_0 ge109_0
                    clear hcc109 hce109
                    have HR109_0 := Aside0.mk hi109_0
                    have HC109_0 := Aside0.mk hl109_0
                    clear hi109_0 hl109_0
                    replace p109 := eq_true p109
                    replace q109 := eq_true q109
                    have p110 : 0 ≤ (x9_1 : Int) := of_decide_eq_true (by first | (with_reducible assumption) | assumption)
                    have q110 : x9_1 < ((rd_L1 t102 (ji31)).length : Int) := of_decide_eq_true (by first | (with_reducible assumption) | assumption)
                    obtain ⟨ad110, e110, hx110_0⟩ := Kd.at_int (by repeat (first | (with_reducible exact HR109_0.out) | (with_reducible refine Kd.C_alloc ?_ _) | (with_reducible refine Kd.C_drewN ?_ _) | (with_reducible refine Kd.C_drew ?_) | exact HR109_0.out)) x9_1 p110 q110
                    cases e110
                    replace p110 := eq_true p110
                    replace q110 := eq_true q110
                    go_wp2
                    repeat (go_quiet (fail); try go_wp2)
                    go_meet
                    case rel => exact ⟨_, (((wrap64 ((rd (rd_L1 t102 (ji31)) x9_1) + 1)) == (rd (rd_L1 t102 x8_1) x9_1))), (by first | rfl | (simp; done) | (simp only [← hji31] <;> (first | rfl | simp)) | (simp [*]; done)), H', ⟨by have := HK1.out; have := HJ6.out; have := HJ13.out; first | omega | exact Nat.le_refl _⟩, ⟨by (with_reducible repeat (first | apply Kd.S_alloc | apply Kd.S_drewN | apply Kd.S_drew)); exact HO_6.out⟩, ⟨by repeat (first | (with_reducible exact HR105_0.out) | (with_reducible refine Kd.C_alloc ?_ _) | (with_reducible refine Kd.C_drewN ?_ _) | (with_reducible refine Kd.C_drew ?_) | exact HR105_0.out)⟩, ⟨by repeat (first | (with_reducible first | exact HB.out | apply below_alloc | apply pw_below_drewN | apply below_drew1) | exact HB.out)⟩⟩
                   ·
                    rw [if_neg c35] at H
                    exact absurd H (by simp)
                  ·
                   rw [if_neg c34] at H
                   exact absurd H (by simp)
                 ·
                  rw [if_neg c33] at H
                  exact absurd H (by simp)
                ·
                 rw [if_neg c32] at H
                 exact absurd H (by simp)
               ·
                rw [if_neg c30] at H
                have c30b0 : decide (x8_1 < (a0.size : Int)) = false := decide_eq_false c30
                clear c30
                (first | rw [c30b0] | (simp only [i64_w, i32_w]; rw [c30b0]) | skip)
                have H' := Aside0.mk H
                clear H
                go_wp2
                repeat (go_quiet (fail); try go_wp2)
                go_meet
                case rel => exact ⟨_, (false), (by first | rfl | (simp; done) | (simp [*]; done)), H', ⟨by have := HK1.out; have := HJ6.out; have := HJ13.out; first | omega | exact Nat.le_refl _⟩, ⟨by (with_reducible repeat (first | apply Kd.S_alloc | apply Kd.S_drewN | apply Kd.S_drew)); exact HO_6.out⟩, ⟨by repeat (first | (with_reducible exact HR105_0.out) | (with_reducible refine Kd.C_alloc ?_ _) | (with_reducible refine Kd.C_drewN ?_ _) | (with_reducible refine Kd.C_drew ?_) | exact HR105_0.out)⟩, ⟨by repeat (first | (with_reducible first | exact HB.out | apply below_alloc | apply pw_below_drewN | apply below_drew1) | exact HB.out)⟩⟩
              case rest =>
               clear HC29
               try clear c1
               try clear p1
               try clear q1
               try clear hx1
               try clear c2
               try clear p2
               try clear c3
               try clear c4
               try clear p6
               try clear c8
               try clear c8b0
               try clear c9
               try clear c10
               try clear c10b0
               try clear p10
               try clear q10
               try clear hx10
               try clear c11
               try clear c11b0
               try clear p11
               try clear q11
               try clear hx11
               try clear c12
               try clear c12b0
               try clear c13
               try clear c13b0
               try clear c14
               try clear c16
               try clear c16b0
               try clear c17
               try clear c17b0
               try clear p18
               try clear q18
               try clear hx18
               try clear p19
               try clear q19
               try clear hx19
               try clear c20
               try clear c20b0
               try clear c20b1
               try clear c22
               try clear c22b0
               try clear c23
               try clear c23b0
               try clear c25
               try clear c25b0
               try clear c26
               try clear c26b0
               try clear c27
               try clear c28
               try clear c28b0
               try clear c28b1
               try clear c28b2
               try clear c30
               try clear c30b0
               try clear c32
               try clear c32b0
               try clear c33
               try clear c33b0
               try clear c34
               try clear c34b0
               try clear c35
               try clear c35b0
               try clear hx105_0
               try clear hx106_0
               try clear hx107_0
               try clear hx108_0
               try clear hx109_0
               try clear hx110_0
               try clear p1
               try clear p10
               try clear p105
               try clear p106
               try clear p107
               try clear p108
               try clear p109
               try clear p110
               try clear p18
               try clear p19
               try clear p2
               try clear p6
               try clear q1
               try clear q10
               try clear q105
               try clear q106
               try clear q107
               try clear q108
               try clear q109
               try clear q110
               try clear q18
               try clear q19
               obtain ⟨kq, x80_28, rfl, HA, HJ28, HO_6, HR105_0, HB⟩ := hcut
               cases kq with
               | zero => exact absurd HA.out (by simp [spec_FirstTypos.j3])
               | succ kj28 =>
                have H := HA.out
                clear HA
                simp only [spec_FirstTypos.j3] at H
                by_cases c36 : x80_28 = true
                ·
                 subst c36
                 have H1 : (if x7_1.size + 1 ≤ 9223372036854775807 then (spec_FirstTypos.l0 kj28 a0 a1 t102 (x7_1 ++ (⟨#[108]⟩ : ByteArray)) (wrap64 (x8_1 + 1)) x9_1) else (none)) = some (r1, r2) := by rw [if_pos rfl] at H; exact H
                 clear H
                 have H := H1
                 clear H1
                 by_cases c37 : x7_1.size + 1 ≤ 9223372036854775807
                 ·
                  rw [if_pos c37] at H
                  have c37b0 := eq_true c37
                  have c37b1 : decide (x7_1.size + 1 ≤ 9223372036854775807) = true := decide_eq_true c37
                  try have c37b2 : (9223372036854775807 < x7_1.size + 1) = False := eq_false (Nat.not_lt.2 c37)
                  have H' := Aside0.mk H
                  clear H
                  go_wp2
                  repeat (go_quiet (fail); try go_wp2)
                  go_roundg kj28
                  case measure => have := HK1.out; have := HJ6.out; have := HJ13.out; have := HJ28.out; omega
                  case rel => exact ⟨(x7_1 ++ (⟨#[108]⟩ : ByteArray)), (wrap64 (x8_1 + 1)), (x9_1), (by first | rfl | (simp; done) | (simp [*]; done)), (by first | rfl | (simp; done) | (simp [*]; done)), (by first | rfl | (simp; done) | (simp [*]; done)), H', ⟨by have := HK1.out; have := HJ6.out; have := HJ13.out; have := HJ28.out; omega⟩, ⟨by (with_reducible repeat (first | apply Kd.S_alloc | apply Kd.S_drewN | apply Kd.S_drew)); exact HO_6.out⟩, ⟨by repeat (first | (with_reducible first | exact HB.out | apply below_alloc | apply pw_below_drewN | apply below_drew1) | exact HB.out)⟩⟩
                 ·
                  rw [if_neg c37] at H
                  exact absurd H (by simp)
                ·
                 replace c36 := Bool.eq_false_iff.mpr c36
                 subst c36
                 have H1 : (if x9_1 < (a1.size : Int) then (if 0 ≤ x8_1 then (if x8_1 < (t102.length : Int) then (if 0 ≤ (wrap64 (x9_1 + 1)) then (if (wrap64 (x9_1 + 1)) < ((rd_L1 t102 x8_1).length : Int) then (if (wrap64 ((rd (rd_L1 t102 x8_1) (wrap64 (x9_1 + 1))) + 1)) = (rd (rd_L1 t102 x8_1) x9_1) then (if x7_1.size + 1 ≤ 9223372036854775807 then (spec_FirstTypos.l0 kj28 a0 a1 t102 (x7_1 ++ (⟨#[109]⟩ : ByteArray)) x8_1 (wrap64 (x9_1 + 1))) else (none)) else (if x7_1.size + 1 ≤ 9223372036854775807 then (spec_FirstTypos.l0 kj28 a0 a1 t102 (x7_1 ++ (⟨#[114]⟩ : ByteArray)) (wrap64 (x8_1 + 1)) (wrap64 (x9_1 + 1))) else (none))) else (none)) else (none)) else (none)) else (none)) else (if x7_1.size + 1 ≤ 9223372036854775807 then (spec_FirstTypos.l0 kj28 a0 a1 t102 (x7_1 ++ (⟨#[114]⟩ : ByteArray)) (wrap64 (x8_1 + 1)) (wrap64 (x9_1 + 1))) else (none))) = some (r1, r2) := by rw [if_neg (show ¬ (false = true) by decide)] at H; exact H
                 clear H
                 have H := H1
                 clear H1
                 by_cases c38 : x9_1 < (a1.size : Int)
                 ·
                  rw [if_pos c38] at H
                  have c38b0 : decide (x9_1 < (a1.size : Int)) = true := decide_eq_true c38
                  clear c38
                  by_cases c39 : 0 ≤ x8_1
                  ·
                   rw [if_pos c39] at H
                   have c39b0 : decide (0 ≤ x8_1) = true := decide_eq_true c39
                   clear c39
                   by_cases c40 : x8_1 < (t102.length : Int)
                   ·
                    rw [if_pos c40] at H
                    have c40b0 : decide (x8_1 < (t102.length : Int)) = true := decide_eq_true c40
                    clear c40
                    obtain ⟨ji41, hji41⟩ : ∃ j_ : Int, (wrap64 (x9_1 + 1)) = j_ := ⟨_, rfl⟩
                    replace H : (if 0 ≤ (ji41) then (if (ji41) < ((rd_L1 t102 x8_1).length : Int) then (if (wrap64 ((rd (rd_L1 t102 x8_1) (ji41)) + 1)) = (rd (rd_L1 t102 x8_1) x9_1) then (if x7_1.size + 1 ≤ 9223372036854775807 then (spec_FirstTypos.l0 kj28 a0 a1 t102 (x7_1 ++ (⟨#[109]⟩ : ByteArray)) x8_1 ji41) else (none)) else (if x7_1.size + 1 ≤ 9223372036854775807 then (spec_FirstTypos.l0 kj28 a0 a1 t102 (x7_1 ++ (⟨#[114]⟩ : ByteArray)) (wrap64 (x8_1 + 1)) ji41) else (none))) else (none)) else (none)) = some (r1, r2) := by first | (rw [hji41] at H; exact H) | (simp only [hji41] at H ⊢; exact H)
                    have hji41w : (IntKind.i64.wrap (x9_1 + 1)) = ji41 := (i64_w _).trans hji41
                    by_cases c42 : 0 ≤ (ji41)
                    ·
                     rw [if_pos c42] at H
                     have c42b0 : decide (0 ≤ (ji41)) = true := decide_eq_true c42
                     clear c42
                     by_cases c43 : (ji41) < ((rd_L1 t102 x8_1).length : Int)
                     ·
                      rw [if_pos c43] at H
                      have c43b0 : decide ((ji41) < ((rd_L1 t102 x8_1).length : Int)) = true := decide_eq_true c43
                      clear c43
                      by_cases c44 : (wrap64 ((rd (rd_L1 t102 x8_1) (ji41)) + 1)) = (rd (rd_L1 t102 x8_1) x9_1)
                      ·
                       rw [if_pos c44] at H
                       have c44b0 : ((wrap64 ((rd (rd_L1 t102 x8_1) (ji41)) + 1)) == (rd (rd_L1 t102 x8_1) x9_1)) = true := beq_iff_eq.mpr c44
                       have c44b1 : ((wrap64 ((rd (rd_L1 t102 x8_1) (ji41)) + 1)) != (rd (rd_L1 t102 x8_1) x9_1)) = false := bne_eq_false_iff_eq.mpr c44
                       clear c44
                       by_cases c45 : x7_1.size + 1 ≤ 9223372036854775807
                       ·
                        rw [if_pos c45] at H
                        have c45b0 := eq_true c45
                        have c45b1 : decide (x7_1.size + 1 ≤ 9223372036854775807) = true := decide_eq_true c45
                        try have c45b2 : (9223372036854775807 < x7_1.size + 1) = False := eq_false (Nat.not_lt.2 c45)
                        have H' := Aside0.mk H
                        clear H
                        have p111 : 0 ≤ (x8_1 : Int) := of_decide_eq_true (by first | (with_reducible assumption) | assumption)
                        have q111 : x8_1 < (t102.length : Int) := of_decide_eq_true (by first | (with_reducible assumption) | assumption)
                        obtain ⟨ad111, A111_0, c111_0, e111, hx111_0, hl111_0, hi111_0⟩ := at_L1 (Kd.S_reads' HO_6.out).2.2 x8_1 p111 q111
                        obtain rfl : ad105 = ad111 := (by injection e111)
                        obtain ⟨ce111, hce111, hMe111, hcc111⟩ := Kd.S_get HO_6.out [] x8_1 p111 (by first | exact q111 | exact of_decide_eq_true (by first | (with_reducible assumption) | assumption) | (have e_ := (Kd.S_reads' HO_6.out).1; omega))
                        obtain ⟨ve111_0, rfl, ge111_0⟩ := hMe111
                        have hv111_0 := hcc111 0 _ rfl
                        rw [Nat.add_zero, show ((Kd.slice 3 (Kd.int .i64))).sz = 1 from rfl, Nat.mul_one] at hv111_0
                        replace hv111_0 := Option.some.inj (hv111_0.symm.trans hx111_0)
                        rw [hv111_0] at ge111_0
                        have HL111_0 := Aside0.mk (show Kd.R (Kd.int .i64) 3 _ _ _ _ (rd_L1 t102 x8_1) from ge111_0)
                        clear hv111_0 ge111_0
                        clear hcc111 hce111
                        have HR111_0 := Aside0.mk hi111_0
                        have HC111_0 := Aside0.mk hl111_0
                        clear hi111_0 hl111_0
                        replace p111 := eq_true p111
                        replace q111 := eq_true q111
                        have p112 : 0 ≤ ((ji41) : Int) := of_decide_eq_true (by first | (with_reducible assumption) | assumption)
                        have q112 : (ji41) < ((rd_L1 t102 x8_1).length : Int) := of_decide_eq_true (by first | (with_reducible assumption) | assumption)
                        obtain ⟨ad112, e112, hx112_0⟩ := Kd.at_int (by repeat (first | (with_reducible exact HR111_0.out) | (with_reducible refine Kd.C_alloc ?_ _) | (with_reducible refine Kd.C_drewN ?_ _) | (with_reducible refine Kd.C_drew ?_) | exact HR111_0.out)) (ji41) p112 q112
                        cases e112
                        replace p112 := eq_true p112
                        replace q112 := eq_true q112
                        go_wp2
                        repeat (go_quiet (fail); try go_wp2)
                        go_roundg kj28
                        case measure => have := HK1.out; have := HJ6.out; have := HJ13.out; have := HJ28.out; omega
                        case rel => exact ⟨(x7_1 ++ (⟨#[109]⟩ : ByteArray)), (x8_1), (ji41), (by first | rfl | (simp; done) | (simp [*]; done)), (by first | rfl | (simp; done) | (simp [*]; done)), (by first | rfl | (simp; done) | (simp only [← hji41] <;> (first | rfl | simp)) | (simp [*]; done)), H', ⟨by have := HK1.out; have := HJ6.out; have := HJ13.out; have := HJ28.out; omega⟩, ⟨by (with_reducible repeat (first | apply Kd.S_alloc | apply Kd.S_drewN | apply Kd.S_drew)); exact HO_6.out⟩, ⟨by repeat (first | (with_reducible first | exact HB.out | apply below_alloc | apply pw_below_drewN | apply below_drew1) | exact HB.out)⟩⟩
                       ·
                        rw [if_neg c45] at H
                        exact absurd H (by simp)
                      ·
                       rw [if_neg c44] at H
                       have c44b0 : ((wrap64 ((rd (rd_L1 t102 x8_1) (ji41)) + 1)) == (rd (rd_L1 t102 x8_1) x9_1)) = false := beq_eq_false_iff_ne.mpr c44
                       have c44b1 : ((wrap64 ((rd (rd_L1 t102 x8_1) (ji41)) + 1)) != (rd (rd_L1 t102 x8_1) x9_1)) = true := bne_iff_ne.mpr c44
                       by_cases c46 : x7_1.size + 1 ≤ 9223372036854775807
                       ·
                        rw [if_pos c46] at H
                        have c46b0 := eq_true c46
                        have c46b1 : decide (x7_1.size + 1 ≤ 9223372036854775807) = true := decide_eq_true c46
                        try have c46b2 : (9223372036854775807 < x7_1.size + 1) = False := eq_false (Nat.not_lt.2 c46)
                        have H' := Aside0.mk H
                        clear H
                        have p111 : 0 ≤ (x8_1 : Int) := of_decide_eq_true (by first | (with_reducible assumption) | assumption)
                        have q111 : x8_1 < (t102.length : Int) := of_decide_eq_true (by first | (with_reducible assumption) | assumption)
                        obtain ⟨ad111, A111_0, c111_0, e111, hx111_0, hl111_0, hi111_0⟩ := at_L1 (Kd.S_reads' HO_6.out).2.2 x8_1 p111 q111
                        obtain rfl : ad105 = ad111 := (by injection e111)
                        obtain ⟨ce111, hce111, hMe111, hcc111⟩ := Kd.S_get HO_6.out [] x8_1 p111 (by first | exact q111 | exact of_decide_eq_true (by first | (with_reducible assumption) | assumption) | (have e_ := (Kd.S_reads' HO_6.out).1; omega))
                        obtain ⟨ve111_0, rfl, ge111_0⟩ := hMe111
                        have hv111_0 := hcc111 0 _ rfl
                        rw [Nat.add_zero, show ((Kd.slice 3 (Kd.int .i64))).sz = 1 from rfl, Nat.mul_one] at hv111_0
                        replace hv111_0 := Option.some.inj (hv111_0.symm.trans hx111_0)
                        rw [hv111_0] at ge111_0
                        have HL111_0 := Aside0.mk (show Kd.R (Kd.int .i64) 3 _ _ _ _ (rd_L1 t102 x8_1) from ge111_0)
                        clear hv111_0 ge111_0
                        clear hcc111 hce111
                        have HR111_0 := Aside0.mk hi111_0
                        have HC111_0 := Aside0.mk hl111_0
                        clear hi111_0 hl111_0
                        replace p111 := eq_true p111
                        replace q111 := eq_true q111
                        have p112 : 0 ≤ ((ji41) : Int) := of_decide_eq_true (by first | (with_reducible assumption) | assumption)
                        have q112 : (ji41) < ((rd_L1 t102 x8_1).length : Int) := of_decide_eq_true (by first | (with_reducible assumption) | assumption)
                        obtain ⟨ad112, e112, hx112_0⟩ := Kd.at_int (by repeat (first | (with_reducible exact HR111_0.out) | (with_reducible refine Kd.C_alloc ?_ _) | (with_reducible refine Kd.C_drewN ?_ _) | (with_reducible refine Kd.C_drew ?_) | exact HR111_0.out)) (ji41) p112 q112
                        cases e112
                        replace p112 := eq_true p112
                        replace q112 := eq_true q112
                        go_wp2
                        repeat (go_quiet (fail); try go_wp2)
                        go_roundg kj28
                        case measure => have := HK1.out; have := HJ6.out; have := HJ13.out; have := HJ28.out; omega
                        case rel => exact ⟨(x7_1 ++ (⟨#[114]⟩ : ByteArray)), (wrap64 (x8_1 + 1)), (ji41), (by first | rfl | (simp; done) | (simp [*]; done)), (by first | rfl | (simp; done) | (simp [*]; done)), (by first | rfl | (simp; done) | (simp only [← hji41] <;> (first | rfl | simp)) | (simp [*]; done)), H', ⟨by have := HK1.out; have := HJ6.out; have := HJ13.out; have := HJ28.out; omega⟩, ⟨by (with_reducible repeat (first | apply Kd.S_alloc | apply Kd.S_drewN | apply Kd.S_drew)); exact HO_6.out⟩, ⟨by repeat (first | (with_reducible first | exact HB.out | apply below_alloc | apply pw_below_drewN | apply below_drew1) | exact HB.out)⟩⟩
                       ·
                        rw [if_neg c46] at H
                        exact absurd H (by simp)
                     ·
                      rw [if_neg c43] at H
                      exact absurd H (by simp)
                    ·
                     rw [if_neg c42] at H
                     exact absurd H (by simp)
                   ·
                    rw [if_neg c40] at H
                    exact absurd H (by simp)
                  ·
                   rw [if_neg c39] at H
                   exact absurd H (by simp)
                 ·
                  rw [if_neg c38] at H
                  have c38b0 : decide (x9_1 < (a1.size : Int)) = false := decide_eq_false c38
                  clear c38
                  by_cases c47 : x7_1.size + 1 ≤ 9223372036854775807
                  ·
                   rw [if_pos c47] at H
                   have c47b0 := eq_true c47
                   have c47b1 : decide (x7_1.size + 1 ≤ 9223372036854775807) = true := decide_eq_true c47
                   try have c47b2 : (9223372036854775807 < x7_1.size + 1) = False := eq_false (Nat.not_lt.2 c47)
                   have H' := Aside0.mk H
                   clear H
                   go_wp2
                   repeat (go_quiet (fail); try go_wp2)
                   go_roundg kj28
                   case measure => have := HK1.out; have := HJ6.out; have := HJ13.out; have := HJ28.out; omega
                   case rel => exact ⟨(x7_1 ++ (⟨#[114]⟩ : ByteArray)), (wrap64 (x8_1 + 1)), (wrap64 (x9_1 + 1)), (by first | rfl | (simp; done) | (simp [*]; done)), (by first | rfl | (simp; done) | (simp [*]; done)), (by first | rfl | (simp; done) | (simp [*]; done)), H', ⟨by have := HK1.out; have := HJ6.out; have := HJ13.out; have := HJ28.out; omega⟩, ⟨by (with_reducible repeat (first | apply Kd.S_alloc | apply Kd.S_drewN | apply Kd.S_drew)); exact HO_6.out⟩, ⟨by repeat (first | (with_reducible first | exact HB.out | apply below_alloc | apply pw_below_drewN | apply below_drew1) | exact HB.out)⟩⟩
                  ·
                   rw [if_neg c47] at H
                   exact absurd H (by simp)
          ·
           rw [if_neg c13] at H
           exact absurd H (by simp)
         ·
          rw [if_neg c12] at H
          exact absurd H (by simp)
        ·
         rw [if_neg c11] at H
         exact absurd H (by simp)
       ·
        rw [if_neg c10] at H
        exact absurd H (by simp)
      ·
       replace c9 := Bool.eq_false_iff.mpr c9
       subst c9
       have H1 : (some (x7_1, true)) = some (r1, r2) := by rw [if_neg (show ¬ (false = true) by decide)] at H; exact H
       clear H
       have H := H1
       clear H1
       simp only [Option.some.injEq, Prod.mk.injEq] at H
       obtain ⟨rfl, rfl⟩ := H
       go_wp2
       repeat (go_quiet (fail); try go_wp2)
       go_ret2
       exact ⟨by first | rfl | (simp [errW_none, errW_some] <;> rfl) | (simp [*, errW_none, errW_some] <;> rfl), by repeat (first | (with_reducible first | exact HB.out | apply below_alloc | apply pw_below_drewN | apply below_drew1) | exact HB.out)⟩
 ·
  replace c4 := Bool.eq_false_iff.mpr c4
  subst c4
  have H1 : (some ((⟨#[]⟩ : ByteArray), false)) = some (r1, r2) := by rw [if_neg (show ¬ (false = true) by decide)] at H; exact H
  clear H
  have H := H1
  clear H1
  simp only [Option.some.injEq, Prod.mk.injEq] at H
  obtain ⟨rfl, rfl⟩ := H
  go_enter Tryd.func14, Tryd.ntmps14
  go_wp2_with (first | (go_at_call 29; (with_reducible refine (spec_bkPair.calls k a0 a1 false _ A3.out).mono ?_); rintro e w' ⟨rfl, ⟨nd, rfl⟩⟩; (try first | exact ⟨rfl, _, World.drewN_drewN _ _ _⟩ | exact ⟨rfl, _, Eq.trans (World.drewN_drewN _ _ _) (congrArg (World.drewN _) (Nat.add_assoc _ _ _))⟩)))
  repeat (go_quiet (first | (go_at_call 29; (with_reducible refine (spec_bkPair.calls k a0 a1 false _ A3.out).mono ?_); rintro e w' ⟨rfl, ⟨nd, rfl⟩⟩; (try first | exact ⟨rfl, _, World.drewN_drewN _ _ _⟩ | exact ⟨rfl, _, Eq.trans (World.drewN_drewN _ _ _) (congrArg (World.drewN _) (Nat.add_assoc _ _ _))⟩))); try go_wp2_with (first | (go_at_call 29; (with_reducible refine (spec_bkPair.calls k a0 a1 false _ A3.out).mono ?_); rintro e w' ⟨rfl, ⟨nd, rfl⟩⟩; (try first | exact ⟨rfl, _, World.drewN_drewN _ _ _⟩ | exact ⟨rfl, _, Eq.trans (World.drewN_drewN _ _ _) (congrArg (World.drewN _) (Nat.add_assoc _ _ _))⟩))))
  go_ret2
  exact ⟨by first | rfl | (simp [errW_none, errW_some] <;> rfl) | (simp [*, errW_none, errW_some] <;> rfl), by repeat (first | (with_reducible first | exact HB.out | apply below_alloc | apply pw_below_drewN | apply below_drew1) | exact HB.out)⟩

end Go.Proofs.YtgbkfhoildfaoaaDoor.P

-- printed by xprint.py
namespace Go.Proofs.YtgbkfhoildfaoaaDoor.P
open Go.RowKit Go.Proofs.YtgbkfhoildfaoaaDoorW.PrintWords Go.Proofs.YtgbkfhoildfaoaaDoorW.PrintLast Go.Proofs.YtgbkfhoildfaoaaDoorW.PrintMore
attribute [local go_sem] max2_int min2_int max_two min_two max_three min_three max_four min_four   -- for this text's walks alone
set_option linter.unusedVariables false
set_option linter.unusedSimpArgs false

/-! ### laws_FnExactFirstTypos: function 5 -/
def laws_FnExactFirstTypos.f (k : Nat) (a0 : ByteArray) (a1 : ByteArray) : Option (Bool) := if (a0.size : Int) > 1048576 then (some true) else (if (a1.size : Int) > 1048576 then (some true) else ((spec_FirstTypos.f k a0 a1).bind fun bt101 => ((impl_FirstTypos.f k a0 a1).bind fun bt103 => (if bt103.1.toList = bt101.1.toList then (if (bt103.2 != bt101.2) = true then (some false) else (some true)) else (some false)))))
theorem laws_FnExactFirstTypos.mono : ∀ y0 y1 k, LeO (laws_FnExactFirstTypos.f k y0 y1) (laws_FnExactFirstTypos.f (k + 1) y0 y1) := by
 intro y0 y1 k
 unfold laws_FnExactFirstTypos.f
 repeat' first
   | (with_reducible exact impl_FirstTypos.mono _ _ _)
   | (with_reducible exact spec_FirstTypos.mono _ _ _)
   | (with_reducible exact LeO.refl _)
   | (with_reducible exact LeO.none _)
   | (with_reducible refine LeO.ite ?_ ?_)
   | (with_reducible refine LeO.bind ?_ (fun _ => ?_))
   | exact impl_FirstTypos.mono _ _ _
   | exact spec_FirstTypos.mono _ _ _
   | exact LeO.none _
   | refine LeO.ite ?_ ?_
   | refine LeO.bind ?_ (fun _ => ?_)
set_option maxHeartbeats 8000000 in
set_option maxRecDepth 100000 in
theorem laws_FnExactFirstTypos.calls (k : Nat) (a0 : ByteArray) (a1 : ByteArray) (r : Bool) (w : World) (h : laws_FnExactFirstTypos.f k a0 a1 = some r) :
  Calls Tryd.prog 5 #[.string a0, .string a1] w fun e w' => e = .returned (.bool r) ∧ Below w.heap.size w w' := by
 have HB := Aside0.mk (Below.refl w.heap.size w)
 have H : (if (a0.size : Int) > 1048576 then (some true) else (if (a1.size : Int) > 1048576 then (some true) else ((spec_FirstTypos.f k a0 a1).bind fun bt101 => ((impl_FirstTypos.f k a0 a1).bind fun bt103 => (if bt103.1.toList = bt101.1.toList then (if (bt103.2 != bt101.2) = true then (some false) else (some true)) else (some false)))))) = some r := h
 clear h
 by_cases c3 : (a0.size : Int) > 1048576
 ·
  rw [if_pos c3] at H
  have c3b0 : decide (1048576 < (a0.size : Int)) = true := decide_eq_true c3
  have c3b1 : decide (1048576 < a0.size) = true := decide_eq_true (by omega)
  clear c3
  obtain rfl := Option.some.inj H
  go_enter Tryd.func5, Tryd.ntmps5
  go_wp2
  go_ret
  exact ⟨by first | rfl | (simp [errW_none, errW_some] <;> rfl) | (simp [*, errW_none, errW_some] <;> rfl), by repeat (first | (with_reducible first | exact HB.out | apply below_alloc | apply pw_below_drewN | apply below_drew1) | exact HB.out)⟩
 ·
  rw [if_neg c3] at H
  have c3b0 : decide (1048576 < (a0.size : Int)) = false := decide_eq_false c3
  have c3b1 : decide (1048576 < a0.size) = false := decide_eq_false (by omega)
  clear c3
  by_cases c4 : (a1.size : Int) > 1048576
  ·
   rw [if_pos c4] at H
   have c4b0 : decide (1048576 < (a1.size : Int)) = true := decide_eq_true c4
   have c4b1 : decide (1048576 < a1.size) = true := decide_eq_true (by omega)
   clear c4
   obtain rfl := Option.some.inj H
   go_enter Tryd.func5, Tryd.ntmps5
   go_wp2
   go_ret
   exact ⟨by first | rfl | (simp [errW_none, errW_some] <;> rfl) | (simp [*, errW_none, errW_some] <;> rfl), by repeat (first | (with_reducible first | exact HB.out | apply below_alloc | apply pw_below_drewN | apply below_drew1) | exact HB.out)⟩
  ·
   rw [if_neg c4] at H
   have c4b0 : decide (1048576 < (a1.size : Int)) = false := decide_eq_false c4
   have c4b1 : decide (1048576 < a1.size) = false := decide_eq_false (by omega)
   clear c4
   replace H := Option.bind_eq_some_iff.mp H
   obtain ⟨⟨t101, t102⟩, A50, H⟩ := H
   replace H : ((impl_FirstTypos.f k a0 a1).bind fun bt103 => (if bt103.1.toList = t101.toList then (if (bt103.2 != t102) = true then (some false) else (some true)) else (some false))) = some r := H
   have A5 := Aside0.mk A50
   clear A50
   replace H := Option.bind_eq_some_iff.mp H
   obtain ⟨⟨t103, t104⟩, A60, H⟩ := H
   replace H : (if t103.toList = t101.toList then (if (t104 != t102) = true then (some false) else (some true)) else (some false)) = some r := H
   have A6 := Aside0.mk A60
   clear A60
   by_cases c7 : t103.toList = t101.toList
   ·
    rw [if_pos c7] at H
    have c7b0 : (t103.toList == t101.toList) = true := beq_iff_eq.mpr c7
    have c7b1 : (t103.toList != t101.toList) = false := bne_eq_false_iff_eq.mpr c7
    clear c7
    by_cases c8 : (t104 != t102) = true
    ·
     rw [if_pos c8] at H
     have c8b0 : (t104 != t102) = true := c8
     (try (have c8b1 : decide (t104 = t102) = false := by simpa using c8))
     (try (have c8b2 : (t104 == t102) = false := by simpa using c8))
     (try (have c8b3 : ¬ (t104 = t102) := by simpa using c8))
     clear c8
     obtain rfl := Option.some.inj H
     go_enter Tryd.func5, Tryd.ntmps5
     go_wp2_with (first | ((with_reducible refine gate_callee (f := 14) rfl ?_); refine goesL_ (some 18) rfl rfl Tryd.func14 (by kernel_rfl) rfl #[.string a0, .string a1] rfl (by (try simp only [List.map_toArray, List.map_cons, List.map_nil]); first | done | rfl | (simp only [List.length_drop, List.length_take]; rfl)) ?_; (with_reducible refine (spec_FirstTypos.calls k a0 a1 t101 t102 _ A5.out).mono ?_); rintro e w9 ⟨rfl, hb⟩; refine ⟨_, rfl, ?_⟩; have n0_ := Aside0.mk (below_step (by repeat (first | (with_reducible first | exact HB.out | apply below_alloc | apply pw_below_drewN | apply below_drew1) | exact HB.out)) hb); clear HB; have HB := n0_; clear n0_; (try clear hb); (try clear hb2); (try clear hk); (try clear hi)) | ((with_reducible refine gate_callee (f := 15) rfl ?_); refine goesL_ (some 24) rfl rfl Tryd.func15 (by kernel_rfl) rfl #[.string a0, .string a1] rfl (by (try simp only [List.map_toArray, List.map_cons, List.map_nil]); first | done | rfl | (simp only [List.length_drop, List.length_take]; rfl)) ?_; (with_reducible refine (impl_FirstTypos.calls k a0 a1 t103 t104 _ A6.out).mono ?_); rintro e w10 ⟨rfl, hb⟩; refine ⟨_, rfl, ?_⟩; have n0_ := Aside0.mk (below_step (by repeat (first | (with_reducible first | exact HB.out | apply below_alloc | apply pw_below_drewN | apply below_drew1) | exact HB.out)) hb); clear HB; have HB := n0_; clear n0_; (try clear hb); (try clear hb2); (try clear hk); (try clear hi)))
     go_ret
     exact ⟨by first | rfl | (simp [errW_none, errW_some] <;> rfl) | (simp [*, errW_none, errW_some] <;> rfl), by repeat (first | (with_reducible first | exact HB.out | apply below_alloc | apply pw_below_drewN | apply below_drew1) | exact HB.out)⟩
    ·
     rw [if_neg c8] at H
     have c8b0 : (t104 != t102) = false := by simpa using c8
     (try (have c8b1 : decide (t104 = t102) = true := by simpa using c8))
     (try (have c8b2 : (t104 == t102) = true := by simpa using c8))
     clear c8
     obtain rfl := Option.some.inj H
     go_enter Tryd.func5, Tryd.ntmps5
     go_wp2_with (first | ((with_reducible refine gate_callee (f := 14) rfl ?_); refine goesL_ (some 18) rfl rfl Tryd.func14 (by kernel_rfl) rfl #[.string a0, .string a1] rfl (by (try simp only [List.map_toArray, List.map_cons, List.map_nil]); first | done | rfl | (simp only [List.length_drop, List.length_take]; rfl)) ?_; (with_reducible refine (spec_FirstTypos.calls k a0 a1 t101 t102 _ A5.out).mono ?_); rintro e w11 ⟨rfl, hb⟩; refine ⟨_, rfl, ?_⟩; have n0_ := Aside0.mk (below_step (by repeat (first | (with_reducible first | exact HB.out | apply below_alloc | apply pw_below_drewN | apply below_drew1) | exact HB.out)) hb); clear HB; have HB := n0_; clear n0_; (try clear hb); (try clear hb2); (try clear hk); (try clear hi)) | ((with_reducible refine gate_callee (f := 15) rfl ?_); refine goesL_ (some 24) rfl rfl Tryd.func15 (by kernel_rfl) rfl #[.string a0, .string a1] rfl (by (try simp only [List.map_toArray, List.map_cons, List.map_nil]); first | done | rfl | (simp only [List.length_drop, List.length_take]; rfl)) ?_; (with_reducible refine (impl_FirstTypos.calls k a0 a1 t103 t104 _ A6.out).mono ?_); rintro e w12 ⟨rfl, hb⟩; refine ⟨_, rfl, ?_⟩; have n0_ := Aside0.mk (below_step (by repeat (first | (with_reducible first | exact HB.out | apply below_alloc | apply pw_below_drewN | apply below_drew1) | exact HB.out)) hb); clear HB; have HB := n0_; clear n0_; (try clear hb); (try clear hb2); (try clear hk); (try clear hi)))
     go_ret
     exact ⟨by first | rfl | (simp [errW_none, errW_some] <;> rfl) | (simp [*, errW_none, errW_some] <;> rfl), by repeat (first | (with_reducible first | exact HB.out | apply below_alloc | apply pw_below_drewN | apply below_drew1) | exact HB.out)⟩
   ·
    rw [if_neg c7] at H
    have c7b0 : (t103.toList == t101.toList) = false := beq_eq_false_iff_ne.mpr c7
    have c7b1 : (t103.toList != t101.toList) = true := bne_iff_ne.mpr c7
    obtain rfl := Option.some.inj H
    go_enter Tryd.func5, Tryd.ntmps5
    go_wp2_with (first | ((with_reducible refine gate_callee (f := 14) rfl ?_); refine goesL_ (some 18) rfl rfl Tryd.func14 (by kernel_rfl) rfl #[.string a0, .string a1] rfl (by (try simp only [List.map_toArray, List.map_cons, List.map_nil]); first | done | rfl | (simp only [List.length_drop, List.length_take]; rfl)) ?_; (with_reducible refine (spec_FirstTypos.calls k a0 a1 t101 t102 _ A5.out).mono ?_); rintro e w13 ⟨rfl, hb⟩; refine ⟨_, rfl, ?_⟩; have n0_ := Aside0.mk (below_step (by repeat (first | (with_reducible first | exact HB.out | apply below_alloc | apply pw_below_drewN | apply below_drew1) | exact HB.out)) hb); clear HB; have HB := n0_; clear n0_; (try clear hb); (try clear hb2); (try clear hk); (try clear hi)) | ((with_reducible refine gate_callee (f := 15) rfl ?_); refine goesL_ (some 24) rfl rfl Tryd.func15 (by kernel_rfl) rfl #[.string a0, .string a1] rfl (by (try simp only [List.map_toArray, List.map_cons, List.map_nil]); first | done | rfl | (simp only [List.length_drop, List.length_take]; rfl)) ?_; (with_reducible refine (impl_FirstTypos.calls k a0 a1 t103 t104 _ A6.out).mono ?_); rintro e w14 ⟨rfl, hb⟩; refine ⟨_, rfl, ?_⟩; have n0_ := Aside0.mk (below_step (by repeat (first | (with_reducible first | exact HB.out | apply below_alloc | apply pw_below_drewN | apply below_drew1) | exact HB.out)) hb); clear HB; have HB := n0_; clear n0_; (try clear hb); (try clear hb2); (try clear hk); (try clear hi)))
    go_ret
    exact ⟨by first | rfl | (simp [errW_none, errW_some] <;> rfl) | (simp [*, errW_none, errW_some] <;> rfl), by repeat (first | (with_reducible first | exact HB.out | apply below_alloc | apply pw_below_drewN | apply below_drew1) | exact HB.out)⟩

end Go.Proofs.YtgbkfhoildfaoaaDoor.P

namespace Go.Proofs.YtgbkfhoildfaoaaDoor
open Go.RowKit Go.Proofs.YtgbkfhoildfaoaaDoor.P Go.Proofs.YtgbkfhoildfaoaaDoorW.PrintWords Go.Proofs.YtgbkfhoildfaoaaDoorW.PrintLast
/-- The pure statement of FnExactFirstTypos. -/
def PureFnExactFirstTypos : Prop := ∀ (a0 : ByteArray) (a1 : ByteArray), a0.size ≤ 9223372036854775807 → a1.size ≤ 9223372036854775807 →  ∃ k, laws_FnExactFirstTypos.f k a0 a1 = some true
end Go.Proofs.YtgbkfhoildfaoaaDoor

namespace Go.Proofs.YtgbkfhoildfaoaaDoor
open Go.RowKit Go.Proofs.YtgbkfhoildfaoaaDoorW.PrintWords
/-! Plain words for the pure statements: answers that stand from some number of rounds on. -/
theorem Ev.succ {α : Type} {g : Nat → Option α} {r : α} (h : Ev (fun k => g (k + 1)) r) : Ev g r := Ev.step (fun _ => rfl) h
theorem Ev.const {α : Type} {a : Option α} {r : α} (h : a = some r) : Ev (fun _ => a) r := ⟨0, fun _ _ => h⟩
theorem Ev.pos {α : Type} {c : Prop} [Decidable c] {g f : Nat → Option α} {r : α} (hc : c) (h : Ev g r) : Ev (fun k => if c then g k else f k) r := by simp only [if_pos hc]; exact h
theorem Ev.neg {α : Type} {c : Prop} [Decidable c] {g f : Nat → Option α} {r : α} (hc : ¬ c) (h : Ev f r) : Ev (fun k => if c then g k else f k) r := by simp only [if_neg hc]; exact h
theorem Ev.yes {α : Type} {c : Prop} [Decidable c] {g f : Nat → Option α} {r : α} (h : Ev g r) (hc : c := by first | omega | rfl | trivial | decide | simp | (simp; omega)) : Ev (fun k => if c then g k else f k) r := Ev.pos hc h
theorem Ev.no {α : Type} {c : Prop} [Decidable c] {g f : Nat → Option α} {r : α} (h : Ev f r) (hc : ¬ c := by first | omega | decide | simp | (simp; omega)) : Ev (fun k => if c then g k else f k) r := Ev.neg hc h
theorem Ev.bindc {α β : Type} {a : Option α} {x : α} {f : Nat → α → Option β} {r : β} (h : a = some x) (k : Ev (fun n => f n x) r) : Ev (fun n => a.bind (f n)) r := by subst h; exact k
theorem wrap_id {n : Int} (h1 : -9223372036854775808 ≤ n) (h2 : n ≤ 9223372036854775807) : wrap64 n = n := IntWalk.wrap64_in n ⟨h1, h2⟩
theorem wf_i64 {n : Int} (h : (Lit.int .i64 n).wf = true) : -9223372036854775808 ≤ n ∧ n ≤ 9223372036854775807 := by
  have e1 : IntKind.i64.min = -9223372036854775808 := rfl
  have e2 : IntKind.i64.max = 9223372036854775807 := rfl
  simp only [Lit.wf, e1, e2, Bool.and_eq_true, decide_eq_true_eq] at h
  exact h
theorem rd_nat (l : List Int) (j : Nat) (h : j < l.length) : rd l (j : Int) = l[j] := by unfold rd; simp [List.getD, h]
end Go.Proofs.YtgbkfhoildfaoaaDoor

namespace Go.Proofs.YtgbkfhoildfaoaaDoor
open Go.RowKit Go.Proofs.YtgbkfhoildfaoaaDoorW.PrintWords
set_option linter.unusedSimpArgs false
set_option linter.unusedVariables false
/-! Strings as lists of bytes. -/
/-- A string's bytes. -/
def bl (s : ByteArray) : List UInt8 := s.data.toList
theorem bl_len (s : ByteArray) : s.size = (bl s).length := rfl
theorem bl_inj {s t : ByteArray} (h : bl s = bl t) : s = t := ByteArray.ext (Array.toList_inj.1 h)
theorem bl_toList (s : ByteArray) : s.toList = bl s := Go.ByteArray.toList_eq s
theorem bl_mk (a : Array UInt8) : bl ⟨a⟩ = a.toList := rfl
theorem mk_bl (s : ByteArray) : (⟨(bl s).toArray⟩ : ByteArray) = s := bl_inj (by simp [bl])
theorem bl_extract (s : ByteArray) (i j : Nat) : bl (s.extract i j) = ((bl s).drop i).take (j - i) := by simp [bl, ByteArray.data_extract]
theorem bl_append (s t : ByteArray) : bl (s ++ t) = bl s ++ bl t := by simp [bl, ByteArray.data_append]
theorem bl_nums (l : List Int) : bl (strOfNums l) = l.map fun n => UInt8.ofNat n.toNat := rfl
theorem bl_empty : bl (⟨#[]⟩ : ByteArray) = [] := rfl
theorem bt_nat (s : ByteArray) (i : Nat) (h : i < (bl s).length) : bt s (i : Int) = ((bl s)[i].toNat : Int) := by
  unfold bt
  have h' : ((i : Int)).toNat < s.size := by rw [Int.toNat_natCast]; exact h
  rw [dif_pos h']; rfl
theorem of_toNat (c : UInt8) : UInt8.ofNat ((c.toNat : Int)).toNat = c := by rw [Int.toNat_natCast]; simp
theorem bt_of (s : ByteArray) (i : Nat) (h : i < (bl s).length) : UInt8.ofNat (bt s (i : Int)).toNat = (bl s)[i] := by rw [bt_nat s i h]; exact of_toNat _
theorem byte_eq (c d : UInt8) : ((c.toNat : Int) = (d.toNat : Int)) ↔ c = d := by
  constructor
  · intro h; exact UInt8.toNat_inj.1 (by exact_mod_cast h)
  · intro h; rw [h]
theorem byte_lt (c d : UInt8) : ((c.toNat : Int) < (d.toNat : Int)) ↔ c < d := by rw [UInt8.lt_iff_toNat_lt]; omega
theorem byte_le (c d : UInt8) : ((c.toNat : Int) ≤ (d.toNat : Int)) ↔ c ≤ d := by rw [UInt8.le_iff_toNat_le]; omega
theorem dropWhile_nil {α : Type} (p : α → Bool) : ∀ l : List α, l.dropWhile p = [] ↔ l.all p = true
  | [] => by simp
  | x :: xs => by
    by_cases h : p x = true
    · simp [List.dropWhile_cons, h, dropWhile_nil p xs]
    · simp [List.dropWhile_cons, h]
theorem dropWhile_keeps {α : Type} (p : α → Bool) : ∀ l : List α, (l.dropWhile p).all p = l.all p
  | [] => rfl
  | x :: xs => by
    by_cases h : p x = true
    · simp only [List.dropWhile_cons, h, if_true, List.all_cons, Bool.true_and]; exact dropWhile_keeps p xs
    · simp [List.dropWhile_cons, h]
theorem trimS_nil (l cs : List UInt8) : Lib.trimS l cs = [] ↔ l.all (cs.contains ·) = true := by
  unfold Lib.trimS Lib.trimLeftS Lib.trimRightS
  rw [dropWhile_nil, List.all_reverse, dropWhile_keeps, List.all_reverse]
theorem indexByte_neg (l : List UInt8) (c : UInt8) : Lib.indexByte l c < 0 ↔ ¬ c ∈ l := by
  induction l with
  | nil => simp [Lib.indexByte]
  | cons b l ih =>
    have hge := Lib.indexByte_ge l c
    unfold Lib.indexByte
    by_cases h : b = c
    · subst h; simp
    · have h1 : (b == c) = false := by simpa using h
      rw [h1]
      have h2 : ¬ c = b := fun e => h e.symm
      simp only [Bool.false_eq_true, if_false, List.mem_cons, h2, false_or]
      by_cases e : Lib.indexByte l c = -1
      · simp only [e, beq_self_eq_true, if_true]
        have := ih.1 (by omega)
        simp [this]
      · have e' : (Lib.indexByte l c == -1) = false := by simpa using e
        rw [e']
        simp only [Bool.false_eq_true, if_false]
        have hp : ¬ Lib.indexByte l c < 0 := by omega
        have := mt ih.2 hp
        constructor
        · intro h3; omega
        · intro h3; exact absurd h3 this
/-- The letters. -/
def isLow (c : UInt8) : Bool := decide (97 ≤ c.toNat) && decide (c.toNat ≤ 122)
theorem u8_all (P : UInt8 → Prop) [DecidablePred P] (h : ∀ n, n < 256 → P (UInt8.ofNat n)) (c : UInt8) : P c := by
  have := h c.toNat c.toNat_lt
  rwa [show UInt8.ofNat c.toNat = c from by simp] at this
theorem low_contains (c : UInt8) : ([97, 98, 99, 100, 101, 102, 103, 104, 105, 106, 107, 108, 109, 110, 111, 112, 113, 114, 115, 116, 117, 118, 119, 120, 121, 122] : List UInt8).contains c = isLow c := by
  refine u8_all (fun c => _ = isLow c) ?_ c
  decide +kernel
theorem dig_contains (c : UInt8) : ([48, 49, 50, 51, 52, 53, 54, 55, 56, 57] : List UInt8).contains c = (decide (48 ≤ c.toNat) && decide (c.toNat ≤ 57)) := by
  refine u8_all (fun c => _ = (decide (48 ≤ c.toNat) && decide (c.toNat ≤ 57))) ?_ c
  decide +kernel
end Go.Proofs.YtgbkfhoildfaoaaDoor

namespace Go.Proofs.YtgbkfhoildfaoaaDoor
set_option linter.unusedSimpArgs false
set_option linter.unusedVariables false
/-! Distances of texts, as plain numbers. -/
/-- The least number of typos: the program's own rows, told by ends of the texts. -/
def lev : List UInt8 → List UInt8 → Nat
  | [], b => b.length
  | x :: a, [] => a.length + 1
  | x :: a, y :: b => if x = y then lev a b else 1 + min (min (lev a b) (lev a (y :: b))) (lev (x :: a) b)
termination_by a b => a.length + b.length
theorem lev_nil (b : List UInt8) : lev [] b = b.length := by rw [lev]
theorem lev_nil' (a : List UInt8) : lev a [] = a.length := by cases a <;> simp [lev]
theorem lev_cons (x y : UInt8) (a b : List UInt8) : lev (x :: a) (y :: b) = if x = y then lev a b else 1 + min (min (lev a b) (lev a (y :: b))) (lev (x :: a) b) := by rw [lev]
theorem lev_lip : ∀ (n : Nat) (a b : List UInt8), a.length + b.length ≤ n → (∀ x, lev (x :: a) b ≤ lev a b + 1) ∧ (∀ y, lev a (y :: b) ≤ lev a b + 1) ∧ (∀ x, lev a b ≤ lev (x :: a) b + 1) ∧ (∀ y, lev a b ≤ lev a (y :: b) + 1) := by
  intro n
  induction n with
  | zero =>
    intro a b h
    obtain rfl : a = [] := List.length_eq_zero_iff.1 (by omega)
    obtain rfl : b = [] := List.length_eq_zero_iff.1 (by omega)
    simp [lev_nil, lev_nil']
  | succ n ih =>
    intro a b h
    refine ⟨fun x => ?_, fun y => ?_, fun x => ?_, fun y => ?_⟩
    · cases b with
      | nil => simp [lev_nil']
      | cons y b =>
        simp only [List.length_cons] at h
        obtain ⟨h1, h2, h3, h4⟩ := ih a b (by omega)
        have := h4 y
        rw [lev_cons]; split <;> omega
    · cases a with
      | nil => simp [lev_nil]
      | cons x a =>
        simp only [List.length_cons] at h
        obtain ⟨h1, h2, h3, h4⟩ := ih a b (by omega)
        have := h3 x
        rw [lev_cons]; split <;> omega
    · cases b with
      | nil => simp [lev_nil']; omega
      | cons y b =>
        simp only [List.length_cons] at h
        obtain ⟨h1, h2, h3, h4⟩ := ih a b (by omega)
        have := h2 y
        have := h3 x
        rw [lev_cons]; split <;> omega
    · cases a with
      | nil => simp [lev_nil]; omega
      | cons x a =>
        simp only [List.length_cons] at h
        obtain ⟨h1, h2, h3, h4⟩ := ih a b (by omega)
        have := h1 x
        have := h4 y
        rw [lev_cons]; split <;> omega
/-- The other side's way: equal letters, too, by the least of all three. -/
theorem lev_least (x y : UInt8) (a b : List UInt8) : lev (x :: a) (y :: b) = min (min (lev a (y :: b)) (lev (x :: a) b) + 1) (lev a b + if x = y then 0 else 1) := by
  obtain ⟨h1, h2, h3, h4⟩ := lev_lip (a.length + b.length) a b (Nat.le_refl _)
  have := h4 y
  have := h3 x
  rw [lev_cons]
  split <;> omega
theorem lev_le (a b : List UInt8) : lev a b ≤ a.length + b.length := by
  induction a with
  | nil => simp [lev_nil]
  | cons x a ih =>
    have := (lev_lip (a.length + b.length) a b (Nat.le_refl _)).1 x
    simp only [List.length_cons]; omega
end Go.Proofs.YtgbkfhoildfaoaaDoor

namespace Go.Proofs.YtgbkfhoildfaoaaDoor
open Go.RowKit Go.Proofs.YtgbkfhoildfaoaaDoor.P Go.Proofs.YtgbkfhoildfaoaaDoorW.PrintWords
set_option linter.unusedSimpArgs false
set_option linter.unusedVariables false
theorem over_eq (s cs : ByteArray) (h1 : s.size ≤ 9223372036854775807) (h2 : cs.size < 4294967281) (h3 : (bl cs).all (fun b => decide (b.toNat < 128)) = true) : impl_over.f s cs = some ((bl s).all ((bl cs).contains ·)) := by
  unfold impl_over.f strings_Trim.f
  rw [if_pos ⟨h1, h2, h3⟩]
  simp only [Option.bind_some]
  congr 1
  rw [bl_toList, bl_mk, List.toList_toArray]
  have := trimS_nil (bl s) (bl cs)
  unfold bl at this ⊢
  rw [Bool.eq_iff_iff, beq_iff_eq]
  exact this
theorem overLow_eq (s : ByteArray) (h1 : s.size ≤ 9223372036854775807) : impl_over.f s (⟨#[97, 98, 99, 100, 101, 102, 103, 104, 105, 106, 107, 108, 109, 110, 111, 112, 113, 114, 115, 116, 117, 118, 119, 120, 121, 122]⟩ : ByteArray) = some ((bl s).all isLow) := by
  rw [over_eq s _ h1 (by decide) (by decide)]
  congr 1
  congr 1
  funext c
  exact low_contains c
/-- Is it a text? -/
def textB (l : List UInt8) : Bool := decide (l.length ≤ 20) && l.all isLow
theorem isText_eq (s : ByteArray) (h1 : s.size ≤ 9223372036854775807) : impl_isText.f s = some (textB (bl s)) := by
  unfold impl_isText.f textB
  by_cases c : s.size ≤ 20
  · rw [if_pos (by omega), overLow_eq s h1, decide_eq_true (by rw [← bl_len]; exact c)]; rfl
  · rw [if_neg (by omega), decide_eq_false (by rw [← bl_len]; exact c), Bool.false_and]
theorem bkText_l0 (s : ByteArray) (hs : s.size ≤ 9223372036854775806) : ∀ (d i : Nat), i + d = s.size → Ev (fun k => spec_bkText.l0 k s i) (((bl s).drop i).all isLow)
  | 0, i, hi => by
    apply Ev.succ
    simp only [spec_bkText.l0]
    refine Ev.neg (by omega) (Ev.const ?_)
    rw [List.drop_of_length_le (by rw [← bl_len]; omega)]; rfl
  | d + 1, i, hi => by
    have hlt : i < (bl s).length := by rw [← bl_len]; omega
    apply Ev.succ
    simp only [spec_bkText.l0]
    refine Ev.pos (by omega) (Ev.pos (by omega) ?_)
    rw [wrap_id (by omega) (by omega), bt_nat s i hlt, List.drop_eq_getElem_cons hlt, List.all_cons]
    by_cases c1 : ((bl s)[i].toNat : Int) < 97
    · refine Ev.pos c1 (Ev.const ?_)
      have : isLow (bl s)[i] = false := by unfold isLow; rw [Bool.and_eq_false_iff]; left; rw [decide_eq_false_iff_not]; omega
      rw [this]; rfl
    · refine Ev.neg c1 ?_
      by_cases c2 : ((bl s)[i].toNat : Int) > 122
      · refine Ev.pos c2 (Ev.const ?_)
        have : isLow (bl s)[i] = false := by unfold isLow; rw [Bool.and_eq_false_iff]; right; rw [decide_eq_false_iff_not]; omega
        rw [this]; rfl
      · refine Ev.neg c2 ?_
        have : isLow (bl s)[i] = true := by unfold isLow; rw [Bool.and_eq_true, decide_eq_true_eq, decide_eq_true_eq]; omega
        rw [this, Bool.true_and]
        exact_mod_cast bkText_l0 s hs d (i + 1) (by omega)
theorem bkText_ev (s : ByteArray) : Ev (fun k => spec_bkText.f k s) (textB (bl s)) := by
  unfold spec_bkText.f textB
  by_cases c : s.size ≤ 20
  · refine Ev.neg (by omega) ?_
    rw [decide_eq_true (by rw [← bl_len]; exact c), Bool.true_and]
    exact bkText_l0 s (by omega) s.size 0 (by omega)
  · refine Ev.pos (by omega) (Ev.const ?_)
    rw [decide_eq_false (by rw [← bl_len]; exact c), Bool.false_and]
end Go.Proofs.YtgbkfhoildfaoaaDoor

-- printed by xprint.py
namespace Go.Proofs.YtgbkfhoildfaoaaDoor.P
open Go.RowKit Go.Proofs.YtgbkfhoildfaoaaDoorW.PrintWords Go.Proofs.YtgbkfhoildfaoaaDoorW.PrintLast Go.Proofs.YtgbkfhoildfaoaaDoorW.PrintMore
attribute [local go_sem] max2_int min2_int max_two min_two max_three min_three max_four min_four   -- for this text's walks alone
set_option linter.unusedVariables false
set_option linter.unusedSimpArgs false

/-! ### spec_bkFar: function 30 -/
def spec_bkFar.f (k : Nat) (a0 : ByteArray) (a1 : ByteArray) : Option (Int) := (spec_bkTable.f k a0 a1).bind fun t101 => (if 0 < (t101.length : Int) then (if 0 < ((rd_L1 t101 0).length : Int) then (some (rd (rd_L1 t101 0) 0)) else (none)) else (none))
theorem spec_bkFar.mono : ∀ y0 y1 k, LeO (spec_bkFar.f k y0 y1) (spec_bkFar.f (k + 1) y0 y1) := by
 intro y0 y1 k
 unfold spec_bkFar.f
 repeat' first
   | (with_reducible exact spec_bkTable.mono _ _ _)
   | (with_reducible exact LeO.refl _)
   | (with_reducible exact LeO.none _)
   | (with_reducible refine LeO.ite ?_ ?_)
   | (with_reducible refine LeO.bind ?_ (fun _ => ?_))
   | exact spec_bkTable.mono _ _ _
   | exact LeO.none _
   | refine LeO.ite ?_ ?_
   | refine LeO.bind ?_ (fun _ => ?_)
set_option maxHeartbeats 8000000 in
set_option maxRecDepth 100000 in
theorem spec_bkFar.calls (k : Nat) (a0 : ByteArray) (a1 : ByteArray) (r : Int) (w : World) (h : spec_bkFar.f k a0 a1 = some r) :
  Calls Tryd.prog 30 #[.string a0, .string a1] w fun e w' => e = .returned (.int .i64 r) ∧ Below w.heap.size w w' := by
 have HB := Aside0.mk (Below.refl w.heap.size w)
 have H : ((spec_bkTable.f k a0 a1).bind fun t101 => (if 0 < (t101.length : Int) then (if 0 < ((rd_L1 t101 0).length : Int) then (some (rd (rd_L1 t101 0) 0)) else (none)) else (none))) = some r := h
 clear h
 replace H := Option.bind_eq_some_iff.mp H
 obtain ⟨t101, A30, H⟩ := H
 replace H : (if 0 < (t101.length : Int) then (if 0 < ((rd_L1 t101 0).length : Int) then (some (rd (rd_L1 t101 0) 0)) else (none)) else (none)) = some r := H
 have A3 := Aside0.mk A30
 clear A30
 by_cases c4 : 0 < (t101.length : Int)
 ·
  rw [if_pos c4] at H
  have c4b0 : decide (0 < (t101.length : Int)) = true := decide_eq_true c4
  have c4b1 : decide (0 < t101.length) = true := decide_eq_true (by omega)
  clear c4
  by_cases c5 : 0 < ((rd_L1 t101 0).length : Int)
  ·
   rw [if_pos c5] at H
   have c5b0 : decide (0 < ((rd_L1 t101 0).length : Int)) = true := decide_eq_true c5
   have c5b1 : decide (0 < (rd_L1 t101 0).length) = true := decide_eq_true (by omega)
   clear c5
   obtain rfl := Option.some.inj H
   go_enter Tryd.func30, Tryd.ntmps30
   go_wp2_with (first | ((with_reducible refine gate_callee (f := 33) rfl ?_); refine goesL_ (some 7) rfl rfl Tryd.func33 (by kernel_rfl) rfl #[.string a0, .string a1] rfl (by (try simp only [List.map_toArray, List.map_cons, List.map_nil]); first | done | rfl | (simp only [List.length_drop, List.length_take]; rfl)) ?_; (with_reducible refine (spec_bkTable.calls k a0 a1 t101 _ A3.out).mono ?_); rintro e w6 ⟨v102, rfl, ho0, hb⟩; refine ⟨_, rfl, ?_⟩; have n0_ := Aside0.mk (Kd.S_lower ho0 (below_size (by repeat (first | (with_reducible first | exact HB.out | apply below_alloc | apply pw_below_drewN | apply below_drew1) | exact HB.out)))); have n1_ := Aside0.mk (below_step (by repeat (first | (with_reducible first | exact HB.out | apply below_alloc | apply pw_below_drewN | apply below_drew1) | exact HB.out)) hb); clear HB; have HO103 := n0_; have HB := n1_; clear n0_ n1_; (try clear hb); (try clear hb2); (try clear hk); (try clear hi); (try clear ho0); obtain ⟨Ao7, co7, eo7⟩ := Kd.S_slice HO103.out; subst eo7; have p104 : 0 ≤ (0 : Int) := (by omega); have q104 : 0 < (t101.length : Int) := of_decide_eq_true (by first | (with_reducible assumption) | assumption); obtain ⟨ad104, A104_0, c104_0, e104, hx104_0, hl104_0, hi104_0⟩ := at_L1 (Kd.S_reads' HO103.out).2.2 0 p104 q104; cases e104; obtain ⟨ce104, hce104, hMe104, hcc104⟩ := Kd.S_get HO103.out [] 0 p104 (by first | exact q104 | exact of_decide_eq_true (by first | (with_reducible assumption) | assumption) | (have e_ := (Kd.S_reads' HO103.out).1; omega)); obtain ⟨ve104_0, rfl, ge104_0⟩ := hMe104; have hv104_0 := hcc104 0 _ rfl; rw [Nat.add_zero, show ((Kd.slice 3 (Kd.int .i64))).sz = 1 from rfl, Nat.mul_one] at hv104_0; replace hv104_0 := Option.some.inj (hv104_0.symm.trans hx104_0); rw [hv104_0] at ge104_0; have HL104_0 := Aside0.mk (show Kd.R (Kd.int .i64) 3 _ _ _ _ (rd_L1 t101 0) from ge104_0); clear hv104_0 ge104_0; clear hcc104 hce104; have qi104 : (0 < t101.length) = True := eq_true (by omega); (try rw [show ((0 : Int)).toNat = 0 from rfl] at hx104_0); (try rw [Addr.add_zero'] at hx104_0); have HR104_0 := Aside0.mk hi104_0; have HC104_0 := Aside0.mk hl104_0; clear hi104_0 hl104_0; replace p104 := eq_true p104; replace q104 := eq_true q104; have p105 : 0 ≤ (0 : Int) := (by omega); have q105 : 0 < ((rd_L1 t101 0).length : Int) := of_decide_eq_true (by first | (with_reducible assumption) | assumption); obtain ⟨ad105, e105, hx105_0⟩ := Kd.at_int (by repeat (first | (with_reducible exact HR104_0.out) | (with_reducible refine Kd.C_alloc ?_ _) | (with_reducible refine Kd.C_drewN ?_ _) | (with_reducible refine Kd.C_drew ?_) | exact HR104_0.out)) 0 p105 q105; cases e105; have qi105 : (0 < (rd_L1 t101 0).length) = True := eq_true (by omega); (try rw [show ((0 : Int)).toNat = 0 from rfl] at hx105_0); (try rw [Addr.add_zero'] at hx105_0); replace p105 := eq_true p105; replace q105 := eq_true q105))
   go_ret
   exact ⟨by first | rfl | (simp [errW_none, errW_some] <;> rfl) | (simp [*, errW_none, errW_some] <;> rfl), by repeat (first | (with_reducible first | exact HB.out | apply below_alloc | apply pw_below_drewN | apply below_drew1) | exact HB.out)⟩
  ·
   rw [if_neg c5] at H
   exact absurd H (by simp)
 ·
  rw [if_neg c4] at H
  exact absurd H (by simp)

end Go.Proofs.YtgbkfhoildfaoaaDoor.P

namespace Go.Proofs.YtgbkfhoildfaoaaDoor
open Go.RowKit Go.Proofs.YtgbkfhoildfaoaaDoor.P Go.Proofs.YtgbkfhoildfaoaaDoorW.PrintWords Go.Proofs.YtgbkfhoildfaoaaDoorW.PrintMore
set_option linter.unusedSimpArgs false
set_option linter.unusedVariables false
/-! The tables of distances: both sides fill them with the distances of the texts' ends. -/
def cellT (T : List (List Int)) (r c : Nat) : Int := rd (rd_L1 T (r : Int)) (c : Int)
def lenT (T : List (List Int)) (r : Nat) : Nat := (rd_L1 T (r : Int)).length
theorem cellT_eq (T : List (List Int)) (r c : Nat) : rd (rd_L1 T (r : Int)) (c : Int) = cellT T r c := rfl
theorem lenT_set (T : List (List Int)) (i : Nat) (l : List Int) (hi : i < T.length) (r : Nat) : lenT (T.set i l) r = if r = i then l.length else lenT T r := by
  unfold lenT rd_L1
  rw [Int.toNat_natCast, List.getD_eq_getElem?_getD, List.getD_eq_getElem?_getD, List.getElem?_set]
  by_cases c : i = r
  · subst c; rw [if_pos rfl, if_pos rfl, if_pos hi]; rfl
  · rw [if_neg c, if_neg (fun h => c h.symm)]
theorem cellT_set (T : List (List Int)) (i : Nat) (l : List Int) (hi : i < T.length) (r c : Nat) : cellT (T.set i l) r c = if r = i then l.getD c 0 else cellT T r c := by
  unfold cellT rd_L1 rd
  rw [Int.toNat_natCast, Int.toNat_natCast, List.getD_eq_getElem?_getD (l := T.set i l), List.getD_eq_getElem?_getD (l := T), List.getElem?_set]
  by_cases h : i = r
  · subst h; rw [if_pos rfl, if_pos rfl, if_pos hi]; rfl
  · rw [if_neg h, if_neg (fun h2 => h h2.symm)]
theorem getD_set_ (l : List Int) (k : Nat) (v : Int) (hk : k < l.length) (c : Nat) : (l.set k v).getD c 0 = if c = k then v else l.getD c 0 := by
  rw [List.getD_eq_getElem?_getD, List.getD_eq_getElem?_getD, List.getElem?_set]
  by_cases h : k = c
  · subst h; rw [if_pos rfl, if_pos rfl, if_pos hk]; rfl
  · rw [if_neg h, if_neg (fun h2 => h h2.symm)]
theorem rdc (T : List (List Int)) (r c : Nat) : (rd_L1 T (r : Int)).getD c 0 = cellT T r c := by
  unfold cellT rd; rw [Int.toNat_natCast]
section
variable {a b : List UInt8}
def Lv (a b : List UInt8) (i k : Nat) : Int := (lev (a.drop i) (b.drop k) : Nat)
theorem Lv_n (k : Nat) (hk : k ≤ b.length) : Lv a b a.length k = (b.length : Int) - k := by
  unfold Lv; rw [List.drop_length, lev_nil, List.length_drop]; omega
theorem Lv_m (i : Nat) (hi : i ≤ a.length) : Lv a b i b.length = (a.length : Int) - i := by
  unfold Lv; rw [List.drop_length, lev_nil', List.length_drop]; omega
theorem Lv_step (i k : Nat) (hi : i < a.length) (hk : k < b.length) : Lv a b i k = if a[i] = b[k] then Lv a b (i + 1) (k + 1) else 1 + min (min (Lv a b (i + 1) (k + 1)) (Lv a b (i + 1) k)) (Lv a b i (k + 1)) := by
  unfold Lv
  rw [List.drop_eq_getElem_cons hi, List.drop_eq_getElem_cons hk, lev_cons]
  split <;> omega
theorem Lv_least (i k : Nat) (hi : i < a.length) (hk : k < b.length) : Lv a b i k = min (min (Lv a b (i + 1) k) (Lv a b i (k + 1)) + 1) (Lv a b (i + 1) (k + 1) + if a[i] = b[k] then 0 else 1) := by
  unfold Lv
  rw [List.drop_eq_getElem_cons hi, List.drop_eq_getElem_cons hk, lev_least]
  split <;> omega
theorem Lv_nn (i k : Nat) : 0 ≤ Lv a b i k := by unfold Lv; omega
theorem Lv_le (i k : Nat) (ha : a.length ≤ 20) (hb : b.length ≤ 20) : Lv a b i k ≤ 40 := by
  unfold Lv
  have := lev_le (a.drop i) (b.drop k)
  rw [List.length_drop, List.length_drop] at this
  omega
def DoneT (a b : List UInt8) (T : List (List Int)) (j : Nat) : Prop := T.length = a.length + 1 ∧ ∀ r, j ≤ r → r ≤ a.length → lenT T r = b.length + 1 ∧ ∀ c, c ≤ b.length → cellT T r c = Lv a b r c
def InvT (a b : List UInt8) (T : List (List Int)) (i : Nat) (k : Int) : Prop := DoneT a b T (i + 1) ∧ lenT T i = b.length + 1 ∧ ∀ c : Nat, k < c → c ≤ b.length → cellT T i c = Lv a b i c
theorem dummy_ : True := trivial
theorem InvT.done {T : List (List Int)} {i : Nat} {k : Int} (h : InvT a b T i k) (hk : k < 0) : DoneT a b T i := by
  refine ⟨h.1.1, fun r h1 h2 => ?_⟩
  rcases Nat.lt_or_ge i r with c | c
  · exact h.1.2 r c h2
  · obtain rfl : r = i := by omega
    exact ⟨h.2.1, fun c hc => h.2.2 c (by omega) hc⟩
theorem InvT.put {T : List (List Int)} {i k : Nat} (h : InvT a b T i (k : Int)) (hi : i ≤ a.length) (hk : k ≤ b.length) : InvT a b (T.set i ((rd_L1 T (i : Int)).set k (Lv a b i k))) i ((k : Int) - 1) := by
  have hT : i < T.length := by rw [h.1.1]; omega
  have hl : k < (rd_L1 T (i : Int)).length := by have := h.2.1; unfold lenT at this; omega
  refine ⟨⟨by rw [List.length_set]; exact h.1.1, fun r h1 h2 => ⟨?_, fun c hc => ?_⟩⟩, ?_, fun c h1 h2 => ?_⟩
  · rw [lenT_set _ _ _ hT, if_neg (by omega)]; exact (h.1.2 r h1 h2).1
  · rw [cellT_set _ _ _ hT, if_neg (by omega)]; exact (h.1.2 r h1 h2).2 c hc
  · rw [lenT_set _ _ _ hT, if_pos rfl, List.length_set]; exact h.2.1
  · rw [cellT_set _ _ _ hT, if_pos rfl, getD_set_ _ _ _ hl]
    by_cases e : c = k
    · subst e; rw [if_pos rfl]
    · rw [if_neg e, rdc]; exact h.2.2 c (by omega) h2
theorem all_set {T : List (List Int)} {i k : Nat} {v : Int} {n m : Nat} (hT : i < T.length) (h : ∀ r, r ≤ n → lenT T r = m + 1) : ∀ r, r ≤ n → lenT (T.set i ((rd_L1 T (i : Int)).set k v)) r = m + 1 := by
  intro r hr
  rw [lenT_set _ _ _ hT]
  split
  · rename_i e; subst e; rw [List.length_set]; exact h r hr
  · exact h r hr
end
theorem lenT_rep (n : Nat) (l : List Int) (r : Nat) (hr : r < n) : lenT (List.replicate n l) r = l.length := by
  unfold lenT rd_L1
  rw [Int.toNat_natCast, List.getD_eq_getElem?_getD, List.getElem?_replicate, if_pos hr]
  rfl
theorem least_eq (x y : Int) : spec_l1Least.f x y = some (min x y) := by
  unfold spec_l1Least.f; split <;> congr 1 <;> omega
theorem mn_eq_ (x y : Int) : mn x y = min x y := by unfold mn; split <;> omega
attribute [irreducible] Lv
attribute [local irreducible] rd_L1 rd
section
variable (s t : ByteArray) (hs : (bl s).length ≤ 20) (ht : (bl t).length ≤ 20)
include hs ht
theorem bkTable_l2 (i : Nat) (hi : i ≤ (bl s).length) : ∀ (d : Nat) (T : List (List Int)), d ≤ (bl t).length + 1 → InvT (bl s) (bl t) T i ((d : Int) - 1) → (∀ r, r ≤ (bl s).length → lenT T r = (bl t).length + 1) →
    ∃ T', InvT (bl s) (bl t) T' i (-1) ∧ (∀ r, r ≤ (bl s).length → lenT T' r = (bl t).length + 1) ∧ ∀ R, Ev (fun k => spec_bkTable.l1 k s t T' ((i : Int) - 1)) R → Ev (fun k => spec_bkTable.l2 k s t T i ((d : Int) - 1)) R
  | 0, T, hd, h, ha => ⟨T, by simpa using h, ha, fun R hR => by
    apply Ev.succ
    simp only [spec_bkTable.l2]
    refine Ev.neg (by omega) ?_
    rw [wrap_id (by omega) (by omega)]
    exact hR⟩
  | d + 1, T, hd, h, ha => by
    rw [show (((d + 1 : Nat) : Int) - 1) = (d : Int) by omega] at h ⊢
    have hT : i < T.length := by rw [h.1.1]; omega
    obtain ⟨T', h1, h2, h3⟩ := bkTable_l2 i hi d _ (by omega) (h.put hi (by omega)) (all_set hT ha)
    refine ⟨T', h1, h2, fun R hR => ?_⟩
    have go := h3 R hR
    have hli : ((rd_L1 T (i : Int)).length : Int) = ((bl t).length : Int) + 1 := by have := ha i hi; unfold lenT at this; omega
    have hlT : (T.length : Int) = ((bl s).length : Int) + 1 := by rw [h.1.1]; omega
    have es : (s.size : Int) = ((bl s).length : Int) := rfl
    have et : (t.size : Int) = ((bl t).length : Int) := rfl
    have ew : wrap64 ((d : Int) - 1) = (d : Int) - 1 := wrap_id (by omega) (by omega)
    apply Ev.succ
    simp only [spec_bkTable.l2]
    refine Ev.pos (by omega) ?_
    by_cases c1 : i = (bl s).length
    · refine Ev.pos (by omega) (Ev.pos (by omega) (Ev.pos (by omega) (Ev.pos (by omega) (Ev.pos (by omega) ?_))))
      have ev : wrap64 ((t.size : Int) - d) = Lv (bl s) (bl t) i d := by rw [wrap_id (by omega) (by omega), c1, Lv_n d (by omega)]; omega
      rw [ev, Int.toNat_natCast, Int.toNat_natCast, ew]
      exact go
    refine Ev.neg (by omega) ?_
    by_cases c2 : d = (bl t).length
    · refine Ev.pos (by omega) (Ev.pos (by omega) (Ev.pos (by omega) (Ev.pos (by omega) (Ev.pos (by omega) ?_))))
      have ev : wrap64 ((s.size : Int) - i) = Lv (bl s) (bl t) i d := by rw [wrap_id (by omega) (by omega), c2, Lv_m i (by omega)]; omega
      rw [ev, Int.toNat_natCast, Int.toNat_natCast, ew]
      exact go
    refine Ev.neg (by omega) ?_
    have hi' : i < (bl s).length := by omega
    have hd' : d < (bl t).length := by omega
    have e1 : wrap64 ((i : Int) + 1) = ((i + 1 : Nat) : Int) := by rw [wrap_id (by omega) (by omega)]; omega
    have e2 : wrap64 ((d : Int) + 1) = ((d + 1 : Nat) : Int) := by rw [wrap_id (by omega) (by omega)]; omega
    have hlj : ((rd_L1 T ((i + 1 : Nat) : Int)).length : Int) = ((bl t).length : Int) + 1 := by have h_ := ha (i + 1) hi'; unfold lenT at h_; rw [h_]; clear h_; omega
    have v1 : rd (rd_L1 T ((i + 1 : Nat) : Int)) (d : Int) = Lv (bl s) (bl t) (i + 1) d := (cellT_eq T (i + 1) d).trans ((h.1.2 (i + 1) (Nat.le_refl _) hi').2 d (Nat.le_of_lt hd'))
    have v2 : rd (rd_L1 T ((i + 1 : Nat) : Int)) ((d + 1 : Nat) : Int) = Lv (bl s) (bl t) (i + 1) (d + 1) := (cellT_eq T (i + 1) (d + 1)).trans ((h.1.2 (i + 1) (Nat.le_refl _) hi').2 (d + 1) hd')
    have v3 : rd (rd_L1 T (i : Int)) ((d + 1 : Nat) : Int) = Lv (bl s) (bl t) i (d + 1) := (cellT_eq T i (d + 1)).trans (h.2.2 (d + 1) (Int.ofNat_lt.2 (Nat.lt_succ_self d)) hd')
    simp only [e1, e2, v1, v2, v3, hli, hlj, hlT]
    clear v1 v2 v3 hli hlj hlT
    have ll := Lv_least (a := bl s) (b := bl t) i d hi' hd'
    have b1 := Lv_nn (a := bl s) (b := bl t) (i + 1) d
    have b2 := Lv_nn (a := bl s) (b := bl t) (i + 1) (d + 1)
    have b3 := Lv_nn (a := bl s) (b := bl t) i (d + 1)
    have g1 := Lv_le (i + 1) d hs ht
    have g2 := Lv_le (i + 1) (d + 1) hs ht
    have g3 := Lv_le i (d + 1) hs ht
    generalize Lv (bl s) (bl t) (i + 1) d = q1 at *
    generalize Lv (bl s) (bl t) (i + 1) (d + 1) = q2 at *
    generalize Lv (bl s) (bl t) i (d + 1) = q3 at *
    refine Ev.pos (by omega) (Ev.pos (by omega) (Ev.pos (by omega) (Ev.pos (by omega) (Ev.pos (by omega) (Ev.pos (by omega) (Ev.pos (by omega) (Ev.pos (by omega) (Ev.bindc (least_eq _ _) (Ev.pos (by omega) (Ev.pos (by omega) ?_))))))))))
    rw [bt_nat s i hi', bt_nat t d hd']
    by_cases ce : (bl s)[i] = (bl t)[d]
    · rw [if_pos ce] at ll
      refine Ev.pos ((byte_eq _ _).2 ce) (Ev.pos (by omega) (Ev.bindc (least_eq _ _) (Ev.pos (by omega) ?_)))
      have ev : min (wrap64 (min q1 q3 + 1)) (wrap64 (q2 + 0)) = Lv (bl s) (bl t) i d := by
        rw [wrap_id (by omega) (by omega), wrap_id (by omega) (by omega), ll]
      rw [ev, Int.toNat_natCast, Int.toNat_natCast, ew]
      exact go
    · rw [if_neg ce] at ll
      refine Ev.neg (fun x => ce ((byte_eq _ _).1 x)) (Ev.pos (by omega) (Ev.bindc (least_eq _ _) (Ev.pos (by omega) ?_)))
      have ev : min (wrap64 (min q1 q3 + 1)) (wrap64 (q2 + 1)) = Lv (bl s) (bl t) i d := by
        rw [wrap_id (by omega) (by omega), wrap_id (by omega) (by omega), ll]
      rw [ev, Int.toNat_natCast, Int.toNat_natCast, ew]
      exact go
theorem bkTable_l1 : ∀ (j : Nat) (T : List (List Int)), j ≤ (bl s).length + 1 → DoneT (bl s) (bl t) T j → (∀ r, r ≤ (bl s).length → lenT T r = (bl t).length + 1) → ∃ T', DoneT (bl s) (bl t) T' 0 ∧ Ev (fun k => spec_bkTable.l1 k s t T ((j : Int) - 1)) T'
  | 0, T, hj, h, ha => ⟨T, h, by
    apply Ev.succ
    simp only [spec_bkTable.l1]
    exact Ev.neg (by omega) (Ev.now _)⟩
  | j + 1, T, hj, h, ha => by
    have hlT : (T.length : Int) = ((bl s).length : Int) + 1 := by rw [h.1]; omega
    obtain ⟨T1, h1, h2, h3⟩ := bkTable_l2 s t hs ht j (by omega) ((bl t).length + 1) T (Nat.le_refl _) ⟨h, ha j (by omega), fun c h1 h2 => by omega⟩ ha
    obtain ⟨T', h4, h5⟩ := bkTable_l1 j T1 (by omega) (h1.done (by omega)) h2
    refine ⟨T', h4, ?_⟩
    have go := h3 T' h5
    rw [show ((((bl t).length + 1 : Nat) : Int) - 1) = (t.size : Int) by show _ = ((bl t).length : Int); omega] at go
    rw [show (((j + 1 : Nat) : Int) - 1) = (j : Int) by omega]
    apply Ev.succ
    simp only [spec_bkTable.l1]
    exact Ev.pos (by omega) (Ev.pos (by omega) (Ev.pos (by omega) go))
theorem bkTable_l0 (R : List (List Int)) (hR : Ev (fun k => spec_bkTable.l1 k s t (List.replicate ((bl s).length + 1) (List.replicate ((bl t).length + 1) 0)) (s.size : Int)) R) : ∀ (d i : Nat), i + d = (bl s).length + 1 → Ev (fun k => spec_bkTable.l0 k s t (List.replicate i (List.replicate ((bl t).length + 1) 0)) i) R
  | 0, i, hi => by
    have es : (s.size : Int) = ((bl s).length : Int) := rfl
    apply Ev.succ
    simp only [spec_bkTable.l0]
    refine Ev.neg (by omega) ?_
    rw [show i = (bl s).length + 1 by omega]
    exact hR
  | d + 1, i, hi => by
    have es : (s.size : Int) = ((bl s).length : Int) := rfl
    have et : (t.size : Int) = ((bl t).length : Int) := rfl
    have e1 : wrap64 ((t.size : Int) + 1) = (((bl t).length + 1 : Nat) : Int) := by rw [wrap_id (by omega) (by omega)]; omega
    have e2 : wrap64 ((i : Int) + 1) = ((i + 1 : Nat) : Int) := by rw [wrap_id (by omega) (by omega)]; omega
    apply Ev.succ
    simp only [spec_bkTable.l0, e1, e2, Int.toNat_natCast, List.length_replicate]
    refine Ev.pos (by omega) (Ev.pos (by omega) (Ev.pos (by omega) (Ev.pos (by omega) ?_)))
    rw [← List.replicate_succ']
    exact bkTable_l0 R hR d (i + 1) (by omega)
theorem bkTable_ev : ∃ T, DoneT (bl s) (bl t) T 0 ∧ Ev (fun k => spec_bkTable.f k s t) T := by
  have hl : ∀ r, r ≤ (bl s).length → lenT (List.replicate ((bl s).length + 1) (List.replicate ((bl t).length + 1) (0 : Int))) r = (bl t).length + 1 := by
    intro r hr
    rw [lenT_rep _ _ r (by omega), List.length_replicate]
  obtain ⟨T, h1, h2⟩ := bkTable_l1 s t hs ht ((bl s).length + 1) (List.replicate ((bl s).length + 1) (List.replicate ((bl t).length + 1) 0)) (Nat.le_refl _) ⟨by simp, fun r h1 h2 => by omega⟩ hl
  refine ⟨T, h1, ?_⟩
  rw [show ((((bl s).length + 1 : Nat) : Int) - 1) = (s.size : Int) by show _ = ((bl s).length : Int); omega] at h2
  exact bkTable_l0 s t hs ht T h2 ((bl s).length + 1) 0 (by omega)
theorem dist_l1 (i : Nat) (hi : i ≤ (bl s).length) : ∀ (d : Nat) (T : List (List Int)), d ≤ (bl t).length + 1 → InvT (bl s) (bl t) T i ((d : Int) - 1) →
    ∃ T', InvT (bl s) (bl t) T' i (-1) ∧ ∀ R, Ev (fun k => impl_distances.l0 k s t T' ((i : Int) - 1)) R → Ev (fun k => impl_distances.l1 k s t T i ((d : Int) - 1)) R
  | 0, T, hd, h => ⟨T, by simpa using h, fun R hR => by
    apply Ev.succ
    simp only [impl_distances.l1]
    refine Ev.neg (by omega) ?_
    rw [wrap_id (by omega) (by omega)]
    exact hR⟩
  | d + 1, T, hd, h => by
    rw [show (((d + 1 : Nat) : Int) - 1) = (d : Int) by omega] at h ⊢
    obtain ⟨T', h1, h3⟩ := dist_l1 i hi d _ (by omega) (h.put hi (by omega))
    refine ⟨T', h1, fun R hR => ?_⟩
    have go := h3 R hR
    have hli : ((rd_L1 T (i : Int)).length : Int) = ((bl t).length : Int) + 1 := by have := h.2.1; unfold lenT at this; omega
    have hlT : (T.length : Int) = ((bl s).length : Int) + 1 := by rw [h.1.1]; omega
    have es : (s.size : Int) = ((bl s).length : Int) := rfl
    have et : (t.size : Int) = ((bl t).length : Int) := rfl
    have ew : wrap64 ((d : Int) - 1) = (d : Int) - 1 := wrap_id (by omega) (by omega)
    apply Ev.succ
    simp only [impl_distances.l1]
    refine Ev.pos (by omega) ?_
    by_cases c1 : i = (bl s).length
    · refine Ev.pos (by omega) (Ev.pos (by omega) (Ev.pos (by omega) (Ev.pos (by omega) (Ev.pos (by omega) ?_))))
      have ev : wrap64 ((t.size : Int) - d) = Lv (bl s) (bl t) i d := by rw [wrap_id (by omega) (by omega), c1, Lv_n d (by omega)]; omega
      rw [ev, Int.toNat_natCast, Int.toNat_natCast, ew]
      exact go
    refine Ev.neg (by omega) ?_
    by_cases c2 : d = (bl t).length
    · refine Ev.pos (by omega) (Ev.pos (by omega) (Ev.pos (by omega) (Ev.pos (by omega) (Ev.pos (by omega) ?_))))
      have ev : wrap64 ((s.size : Int) - i) = Lv (bl s) (bl t) i d := by rw [wrap_id (by omega) (by omega), c2, Lv_m i (by omega)]; omega
      rw [ev, Int.toNat_natCast, Int.toNat_natCast, ew]
      exact go
    refine Ev.neg (by omega) ?_
    have hi' : i < (bl s).length := by omega
    have hd' : d < (bl t).length := by omega
    have e1 : wrap64 ((i : Int) + 1) = ((i + 1 : Nat) : Int) := by rw [wrap_id (by omega) (by omega)]; omega
    have e2 : wrap64 ((d : Int) + 1) = ((d + 1 : Nat) : Int) := by rw [wrap_id (by omega) (by omega)]; omega
    have hlj : ((rd_L1 T ((i + 1 : Nat) : Int)).length : Int) = ((bl t).length : Int) + 1 := by have h_ := (h.1.2 (i + 1) (Nat.le_refl _) hi').1; unfold lenT at h_; rw [h_]; clear h_; omega
    have v1 : rd (rd_L1 T ((i + 1 : Nat) : Int)) (d : Int) = Lv (bl s) (bl t) (i + 1) d := (cellT_eq T (i + 1) d).trans ((h.1.2 (i + 1) (Nat.le_refl _) hi').2 d (Nat.le_of_lt hd'))
    have v2 : rd (rd_L1 T ((i + 1 : Nat) : Int)) ((d + 1 : Nat) : Int) = Lv (bl s) (bl t) (i + 1) (d + 1) := (cellT_eq T (i + 1) (d + 1)).trans ((h.1.2 (i + 1) (Nat.le_refl _) hi').2 (d + 1) hd')
    have v3 : rd (rd_L1 T (i : Int)) ((d + 1 : Nat) : Int) = Lv (bl s) (bl t) i (d + 1) := (cellT_eq T i (d + 1)).trans (h.2.2 (d + 1) (Int.ofNat_lt.2 (Nat.lt_succ_self d)) hd')
    simp only [e1, e2, v1, v2, v3, mn_eq_, hli, hlj, hlT]
    clear v1 v2 v3 hli hlj hlT
    have ll := Lv_step (a := bl s) (b := bl t) i d hi' hd'
    have b1 := Lv_nn (a := bl s) (b := bl t) (i + 1) d
    have b2 := Lv_nn (a := bl s) (b := bl t) (i + 1) (d + 1)
    have b3 := Lv_nn (a := bl s) (b := bl t) i (d + 1)
    have g1 := Lv_le (i + 1) d hs ht
    have g2 := Lv_le (i + 1) (d + 1) hs ht
    have g3 := Lv_le i (d + 1) hs ht
    generalize Lv (bl s) (bl t) (i + 1) d = q1 at *
    generalize Lv (bl s) (bl t) (i + 1) (d + 1) = q2 at *
    generalize Lv (bl s) (bl t) i (d + 1) = q3 at *
    refine Ev.pos (by omega) (Ev.pos (by omega) (Ev.pos (by omega) (Ev.pos (by omega) ?_)))
    rw [bt_nat s i hi', bt_nat t d hd']
    by_cases ce : (bl s)[i] = (bl t)[d]
    · rw [if_pos ce] at ll
      refine Ev.pos ((byte_eq _ _).2 ce) (Ev.pos (by omega) (Ev.pos (by omega) (Ev.pos (by omega) (Ev.pos (by omega) (Ev.pos (by omega) (Ev.pos (by omega) ?_))))))
      rw [← ll, Int.toNat_natCast, Int.toNat_natCast, ew]
      exact go
    · rw [if_neg ce] at ll
      refine Ev.neg (fun x => ce ((byte_eq _ _).1 x)) (Ev.pos (by omega) (Ev.pos (by omega) (Ev.pos (by omega) (Ev.pos (by omega) (Ev.pos (by omega) (Ev.pos (by omega) (Ev.pos (by omega) (Ev.pos (by omega) ?_))))))))
      rw [wrap_id (n := 1 + _) (by omega) (by omega), ← ll, Int.toNat_natCast, Int.toNat_natCast, ew]
      exact go
theorem dist_l0 : ∀ (j : Nat) (T : List (List Int)), j ≤ (bl s).length + 1 → DoneT (bl s) (bl t) T j → ∃ T', DoneT (bl s) (bl t) T' 0 ∧ Ev (fun k => impl_distances.l0 k s t T ((j : Int) - 1)) T'
  | 0, T, hj, h => ⟨T, h, by
    apply Ev.succ
    simp only [impl_distances.l0]
    exact Ev.neg (by omega) (Ev.now _)⟩
  | j + 1, T, hj, h => by
    have hT : j < T.length := by rw [h.1]; omega
    have hlT : (T.length : Int) = ((bl s).length : Int) + 1 := by rw [h.1]; omega
    have et : (t.size : Int) = ((bl t).length : Int) := rfl
    have e1 : wrap64 ((t.size : Int) + 1) = (((bl t).length + 1 : Nat) : Int) := by rw [wrap_id (by omega) (by omega)]; omega
    have hI : InvT (bl s) (bl t) (T.set j (List.replicate ((bl t).length + 1) 0)) j ((((bl t).length + 1 : Nat) : Int) - 1) := by
      refine ⟨⟨by rw [List.length_set]; exact h.1, fun r h1 h2 => ⟨?_, fun c hc => ?_⟩⟩, ?_, fun c h1 h2 => by omega⟩
      · rw [lenT_set _ _ _ hT, if_neg (by omega)]; exact (h.2 r h1 h2).1
      · rw [cellT_set _ _ _ hT, if_neg (by omega)]; exact (h.2 r h1 h2).2 c hc
      · rw [lenT_set _ _ _ hT, if_pos rfl, List.length_replicate]
    obtain ⟨T1, h1, h3⟩ := dist_l1 s t hs ht j (by omega) ((bl t).length + 1) _ (Nat.le_refl _) hI
    obtain ⟨T', h4, h5⟩ := dist_l0 j T1 (by omega) (h1.done (by omega))
    refine ⟨T', h4, ?_⟩
    have go := h3 T' h5
    rw [show ((((bl t).length + 1 : Nat) : Int) - 1) = (t.size : Int) by show _ = ((bl t).length : Int); omega] at go
    rw [show (((j + 1 : Nat) : Int) - 1) = (j : Int) by omega]
    apply Ev.succ
    simp only [impl_distances.l0, e1, Int.toNat_natCast]
    exact Ev.pos (by omega) (Ev.pos (by omega) (Ev.pos (by omega) (Ev.pos (by omega) (Ev.pos (by omega) go))))
theorem dist_ev : ∃ T, DoneT (bl s) (bl t) T 0 ∧ Ev (fun k => impl_distances.f k s t) T := by
  have es : (s.size : Int) = ((bl s).length : Int) := rfl
  have e1 : wrap64 ((s.size : Int) + 1) = (((bl s).length + 1 : Nat) : Int) := by rw [wrap_id (by omega) (by omega)]; omega
  obtain ⟨T, h1, h2⟩ := dist_l0 s t hs ht ((bl s).length + 1) (List.replicate ((bl s).length + 1) []) (Nat.le_refl _) ⟨by simp, fun r h1 h2 => by omega⟩
  refine ⟨T, h1, ?_⟩
  rw [show ((((bl s).length + 1 : Nat) : Int) - 1) = (s.size : Int) by show _ = ((bl s).length : Int); omega] at h2
  unfold impl_distances.f
  simp only [e1, Int.toNat_natCast]
  exact Ev.pos (by omega) (Ev.pos (by omega) h2)
end
theorem bkPair_ev (s t : ByteArray) : Ev (fun k => spec_bkPair.f k s t) (textB (bl s) && textB (bl t)) := by
  unfold spec_bkPair.f
  refine Ev.bind (bkText_ev s) ?_
  cases textB (bl s) with
  | false => exact Ev.no (Ev.now _)
  | true => exact Ev.yes (Ev.bind (bkText_ev t) (Ev.now _))
theorem textB_len {l : List UInt8} (h : textB l = true) : l.length ≤ 20 := by
  unfold textB at h
  simp only [Bool.and_eq_true, decide_eq_true_eq] at h
  exact h.1
theorem DoneT.at_ {a b : List UInt8} {T : List (List Int)} (h : DoneT a b T 0) (r c : Nat) (hr : r ≤ a.length) (hc : c ≤ b.length) : (T.length : Int) = (a.length : Int) + 1 ∧ ((rd_L1 T (r : Int)).length : Int) = (b.length : Int) + 1 ∧ rd (rd_L1 T (r : Int)) (c : Int) = Lv a b r c := by
  have h2 := h.2 r (Nat.zero_le _) hr
  refine ⟨by rw [h.1]; omega, by have := h2.1; unfold lenT at this; omega, (cellT_eq T r c).trans (h2.2 c hc)⟩
end Go.Proofs.YtgbkfhoildfaoaaDoor

