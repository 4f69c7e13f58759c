/- Part 2 of 3 of the proof of: FnExactNearestWordsCardSaid: the law 'FnExactNearestWords' answers true for every input, and leaves its arguments as they were. The row and its tied card, over the walk of its calls and the pure statement. -/
import Derived.Test.YtamhlbdjjfdbiaaDoorMFnExactNearestWords1
import Derived.Laws.Cover1
-- printed by xprint.py
namespace Go.Proofs.YtamhlbdjjfdbiaaDoor.P
open Go.RowKit Go.Proofs.YtamhlbdjjfdbiaaDoorW.PrintWords Go.Proofs.YtamhlbdjjfdbiaaDoorW.PrintLast Go.Proofs.YtamhlbdjjfdbiaaDoorW.PrintMore
attribute [local go_sem] max2_int min2_int max_two min_two max_three min_three max_four min_four   -- for this text's walks alone
set_option linter.unusedVariables false
set_option linter.unusedSimpArgs false

/-! ### laws_heldStringS: function 32 -/
def laws_heldStringS.l0 : Nat → List ByteArray → Int → Int → Option (Int)
 | 0, _, _, _ => none
 | k + 1, x0, x1, x5 => if x5 < (x0.length : Int) then (if 0 ≤ x5 then ((laws_markText.f k x1).bind fun t102 => (if (rdOf ByteArray.empty x0 x5).toList = t102.toList then (laws_heldStringS.l0 k x0 (wrap64 (x1 + 1)) (wrap64 (x5 + 1))) else (some (-1)))) else (none)) else (some x1)
def laws_heldStringS.f (k : Nat) (l0 : List ByteArray) (a1 : Int) : Option (Int) := laws_heldStringS.l0 k l0 a1 0
theorem laws_heldStringS.mono_l : ∀ k, (∀ y0 y1 y2, LeO (laws_heldStringS.l0 k y0 y1 y2) (laws_heldStringS.l0 (k + 1) y0 y1 y2))
 | 0 => by intros; intro r h; simp [laws_heldStringS.l0] at h
 | k + 1 => by
  have ih0 := laws_heldStringS.mono_l k
  ·
   intro y0 y1 y2
   unfold laws_heldStringS.l0
   repeat' first
   | (with_reducible exact ih0 _ _ _)
   | (with_reducible exact laws_markText.mono _ _)
   | (with_reducible exact LeO.refl _)
   | (with_reducible exact LeO.none _)
   | (with_reducible refine LeO.ite ?_ ?_)
   | (with_reducible refine LeO.bind ?_ (fun _ => ?_))
   | exact ih0 _ _ _
   | exact laws_markText.mono _ _
   | exact LeO.none _
   | refine LeO.ite ?_ ?_
   | refine LeO.bind ?_ (fun _ => ?_)
theorem laws_heldStringS.mono : ∀ y0 y1 k, LeO (laws_heldStringS.f k y0 y1) (laws_heldStringS.f (k + 1) y0 y1) := by
 intro y0 y1 k
 have ih0 := laws_heldStringS.mono_l k
 unfold laws_heldStringS.f
 repeat' first
   | (with_reducible exact ih0 _ _ _)
   | (with_reducible exact laws_markText.mono _ _)
   | (with_reducible exact LeO.refl _)
   | (with_reducible exact LeO.none _)
   | (with_reducible refine LeO.ite ?_ ?_)
   | (with_reducible refine LeO.bind ?_ (fun _ => ?_))
   | exact ih0 _ _ _
   | exact laws_markText.mono _ _
   | exact LeO.none _
   | refine LeO.ite ?_ ?_
   | refine LeO.bind ?_ (fun _ => ?_)
set_option maxHeartbeats 8000000 in
set_option maxRecDepth 100000 in
theorem laws_heldStringS.calls (k : Nat) (A0 : Option Addr) (c0 : Nat) (l0 : List ByteArray) (a1 : Int) (r : Int) (w : World) (hr0 : Kd.C Kd.string w A0 l0.length l0) (hc0 : l0.length ≤ c0) (h : laws_heldStringS.f k l0 a1 = some r) :
  Calls Tryd.prog 32 #[.slice A0 l0.length c0, .int .i64 a1] w fun e w' => e = .returned (.int .i64 r) ∧ Below w.heap.size w w' := by
 have HR0 := Aside0.mk hr0
 have HC0 := Aside0.mk hc0
 clear hr0 hc0
 have HB := Aside0.mk (Below.refl w.heap.size w)
 have H : (laws_heldStringS.l0 k l0 a1 0) = some r := h
 clear h
 have H' := Aside0.mk H
 clear H
 go_enter Tryd.func32, Tryd.ntmps32
 go_wp2
 go_loopg [1, 5] k (fun kq v1 v5 w' => ∃ (x1_1 : Int) (x5_1 : Int), v1 = .int .i64 x1_1 ∧ v5 = .int .i64 x5_1 ∧ Aside0 (laws_heldStringS.l0 kq l0 x1_1 x5_1 = some r) ∧ Aside0 (kq ≤ k) ∧ Aside0 (Below w.heap.size w w'))
 case atStart => exact ⟨(a1), (0), (by first | rfl | (simp; done) | (simp [*]; done)), (by first | rfl | (simp; done) | (simp [*]; done)), H', ⟨Nat.le_refl _⟩, ⟨by repeat (first | (with_reducible first | exact HB.out | apply below_alloc | apply pw_below_drewN | apply below_drew1) | exact HB.out)⟩⟩
 case round =>
  clear H'
  try clear p2
  obtain ⟨x1_1, x5_1, rfl, rfl, HA, HK1, HB⟩ := hrel
  cases gk with
  | zero => exact absurd HA.out (by simp [laws_heldStringS.l0])
  | succ k1 =>
   have H := HA.out
   clear HA
   simp only [laws_heldStringS.l0] at H
   by_cases c3 : x5_1 < (l0.length : Int)
   ·
    rw [if_pos c3] at H
    have c3b0 : decide (x5_1 < (l0.length : Int)) = true := decide_eq_true c3
    clear c3
    by_cases c4 : 0 ≤ x5_1
    ·
     rw [if_pos c4] at H
     have c4b0 : decide (0 ≤ x5_1) = true := decide_eq_true c4
     clear c4
     replace H := Option.bind_eq_some_iff.mp H
     obtain ⟨t102, A50, H⟩ := H
     replace H : (if (rdOf ByteArray.empty l0 x5_1).toList = t102.toList then (laws_heldStringS.l0 k1 l0 (wrap64 (x1_1 + 1)) (wrap64 (x5_1 + 1))) else (some (-1))) = some r := H
     have A5 := Aside0.mk A50
     clear A50
     by_cases c6 : (rdOf ByteArray.empty l0 x5_1).toList = t102.toList
     ·
      rw [if_pos c6] at H
      have c6b0 : ((rdOf ByteArray.empty l0 x5_1).toList == t102.toList) = true := beq_iff_eq.mpr c6
      have c6b1 : ((rdOf ByteArray.empty l0 x5_1).toList != t102.toList) = false := bne_eq_false_iff_eq.mpr c6
      clear c6
      have H' := Aside0.mk H
      clear H
      try go_wp2
      have n0_ := Aside0.mk (below_drew1 HB.out)
      clear HB
      have HB := n0_
      clear n0_
      have p101 : 0 ≤ (x5_1 : Int) := of_decide_eq_true (by first | (with_reducible assumption) | assumption)
      have q101 : x5_1 < (l0.length : Int) := of_decide_eq_true (by first | (with_reducible assumption) | assumption)
      obtain ⟨ad101, e101, hx101_0⟩ := Kd.at_string HR0.out x5_1 p101 q101
      have hw101_0 := hx101_0
      cases e101
      (try replace hx101_0 := (HB.out.cell (World.block_lt_of_cell? w _ hx101_0)).trans hx101_0)
      replace p101 := eq_true p101
      replace q101 := eq_true q101
      refine start_ (n := 7) (S := fun w' => w'.cell? (ad101.add (x5_1).toNat) = some (.string (rdOf ByteArray.empty l0 x5_1))) (ds := []) #[false, false, false, false, false, false, false] (by kernel_rfl) rfl rfl ((by first | exact ((HB.out.cell (World.block_lt_of_cell? w _ hw101_0)).trans hw101_0) | exact hw101_0)) (fun hHeld => ?_)
      generalize wr.drew = w7 at HB hx101_0 hHeld ⊢
      refine pure_ (i := 0) (N := some 12) (v := ?_) (a' := ?_) #[true, false, false, false, false, false, false] rfl rfl (by kernel_rfl) (fun _ _ _ h => h) (Or.inl ⟨by rfl, ?_⟩) ?_ ?_
      rotate_left
      ·
       intro w'
       go_simp
       with_reducible rfl
      rotate_left
      ·
       simp only [Act.put, List.setIfInBounds_toArray, List.set_cons_zero, List.set_cons_succ, i64_w, i32_w]
       rfl
      refine pure_ (i := 1) (N := some 13) (v := ?_) (a' := ?_) #[true, true, false, false, false, false, false] rfl rfl (by kernel_rfl) (fun _ _ _ h => h) (Or.inl ⟨by rfl, ?_⟩) ?_ ?_
      rotate_left
      ·
       intro w'
       go_simp
       with_reducible rfl
      rotate_left
      ·
       simp only [Act.put, List.setIfInBounds_toArray, List.set_cons_zero, List.set_cons_succ, i64_w, i32_w]
       rfl
      refine pure_ (i := 2) (N := some 14) (v := ?_) (a' := ?_) #[true, true, true, false, false, false, false] rfl rfl (by kernel_rfl) (fun _ _ _ h => h) (Or.inl ⟨by rfl, ?_⟩) ?_ ?_
      rotate_left
      ·
       intro w'
       go_simp
       with_reducible rfl
      rotate_left
      ·
       simp only [Act.put, List.setIfInBounds_toArray, List.set_cons_zero, List.set_cons_succ, i64_w, i32_w]
       rfl
      refine pure_ (i := 4) (N := some 16) (v := ?_) (a' := ?_) #[true, true, true, false, true, false, false] rfl rfl (by kernel_rfl) (fun _ _ _ h => h) (Or.inl ⟨by rfl, ?_⟩) ?_ ?_
      rotate_left
      ·
       intro w'
       go_simp
       with_reducible rfl
      rotate_left
      ·
       simp only [Act.put, List.setIfInBounds_toArray, List.set_cons_zero, List.set_cons_succ, i64_w, i32_w]
       rfl
      refine take_ (i := 3) (N := some 15) (v := ?_) (a' := ?_) #[true, true, true, true, true, false, false] rfl rfl (by kernel_rfl) (fun _ _ _ h => h) (Or.inl ⟨by rfl, ?_⟩) hHeld ?_ ?_
      rotate_left
      ·
       intro w' s0
       go_simp
       with_reducible rfl
      rotate_left
      ·
       simp only [Act.put, List.setIfInBounds_toArray, List.set_cons_zero, List.set_cons_succ, i64_w, i32_w]
       rfl
      refine one_ (i := 5) (N := some 17) #[true, true, true, true, true, true, false] rfl rfl (by kernel_rfl) (by decide) (fun K hK => ?_)
      refine goes_ Tryd.func57 (by kernel_rfl) rfl #[.int .i64 x1_1] (by rfl) rfl rfl (by (try simp only [List.map_toArray, List.map_cons, List.map_nil]); first | done | rfl | (simp only [List.length_drop, List.length_take]; rfl)) ?_
      with_reducible refine (laws_markText.calls k1 x1_1 t102 _ A5.out).mono ?_
      rintro e w8 ⟨rfl, hb⟩
      refine ⟨_, rfl, ?_⟩
      have n0_ := Aside0.mk (below_step (by repeat (first | (with_reducible first | exact HB.out | apply below_alloc | apply pw_below_drewN | apply below_drew1) | exact HB.out)) hb)
      clear HB
      have HB := n0_
      clear n0_
      (try clear hb)
      (try clear hb2)
      (try clear hk)
      (try clear hi)
      refine hK.out _ _ ((by first | exact ((HB.out.cell (World.block_lt_of_cell? w _ hw101_0)).trans hw101_0) | exact hw101_0)) (fun hHeld => ?_)
      clear hK K
      refine norm_ (a' := ?_) ?_ ?_
      rotate_left
      ·
       show Act.put _ (some 17) _ = _
       simp only [Act.put, List.setIfInBounds_toArray, List.set_cons_zero, List.set_cons_succ, i64_w, i32_w]
       rfl
      refine pure_ (i := 6) (N := some 18) (v := ?_) (a' := ?_) #[true, true, true, true, true, true, true] rfl rfl (by kernel_rfl) (fun _ _ _ h => h) (Or.inl ⟨by rfl, ?_⟩) ?_ ?_
      rotate_left
      ·
       intro w'
       go_simp
       with_reducible rfl
      rotate_left
      ·
       simp only [Act.put, List.setIfInBounds_toArray, List.set_cons_zero, List.set_cons_succ, i64_w, i32_w]
       rfl
      refine done_ (by kernel_rfl) ?_
      try go_wp2
      go_roundg k1
      case measure => have := HK1.out; omega
      case rel => exact ⟨(wrap64 (x1_1 + 1)), (wrap64 (x5_1 + 1)), (by first | rfl | (simp; done) | (simp [*]; done)), (by first | rfl | (simp; done) | (simp [*]; done)), H', ⟨by have := HK1.out; omega⟩, ⟨by repeat (first | (with_reducible first | exact HB.out | apply below_alloc | apply pw_below_drewN | apply below_drew1) | exact HB.out)⟩⟩
     ·
      rw [if_neg c6] at H
      have c6b0 : ((rdOf ByteArray.empty l0 x5_1).toList == t102.toList) = false := beq_eq_false_iff_ne.mpr c6
      have c6b1 : ((rdOf ByteArray.empty l0 x5_1).toList != t102.toList) = true := bne_iff_ne.mpr c6
      obtain rfl := Option.some.inj H
      try go_wp2
      have n0_ := Aside0.mk (below_drew1 HB.out)
      clear HB
      have HB := n0_
      clear n0_
      have p101 : 0 ≤ (x5_1 : Int) := of_decide_eq_true (by first | (with_reducible assumption) | assumption)
      have q101 : x5_1 < (l0.length : Int) := of_decide_eq_true (by first | (with_reducible assumption) | assumption)
      obtain ⟨ad101, e101, hx101_0⟩ := Kd.at_string HR0.out x5_1 p101 q101
      have hw101_0 := hx101_0
      cases e101
      (try replace hx101_0 := (HB.out.cell (World.block_lt_of_cell? w _ hx101_0)).trans hx101_0)
      replace p101 := eq_true p101
      replace q101 := eq_true q101
      refine start_ (n := 7) (S := fun w' => w'.cell? (ad101.add (x5_1).toNat) = some (.string (rdOf ByteArray.empty l0 x5_1))) (ds := []) #[false, false, false, false, false, false, false] (by kernel_rfl) rfl rfl ((by first | exact ((HB.out.cell (World.block_lt_of_cell? w _ hw101_0)).trans hw101_0) | exact hw101_0)) (fun hHeld => ?_)
      generalize wr.drew = w9 at HB hx101_0 hHeld ⊢
      refine pure_ (i := 0) (N := some 12) (v := ?_) (a' := ?_) #[true, false, false, false, false, false, false] rfl rfl (by kernel_rfl) (fun _ _ _ h => h) (Or.inl ⟨by rfl, ?_⟩) ?_ ?_
      rotate_left
      ·
       intro w'
       go_simp
       with_reducible rfl
      rotate_left
      ·
       simp only [Act.put, List.setIfInBounds_toArray, List.set_cons_zero, List.set_cons_succ, i64_w, i32_w]
       rfl
      refine pure_ (i := 1) (N := some 13) (v := ?_) (a' := ?_) #[true, true, false, false, false, false, false] rfl rfl (by kernel_rfl) (fun _ _ _ h => h) (Or.inl ⟨by rfl, ?_⟩) ?_ ?_
      rotate_left
      ·
       intro w'
       go_simp
       with_reducible rfl
      rotate_left
      ·
       simp only [Act.put, List.setIfInBounds_toArray, List.set_cons_zero, List.set_cons_succ, i64_w, i32_w]
       rfl
      refine pure_ (i := 2) (N := some 14) (v := ?_) (a' := ?_) #[true, true, true, false, false, false, false] rfl rfl (by kernel_rfl) (fun _ _ _ h => h) (Or.inl ⟨by rfl, ?_⟩) ?_ ?_
      rotate_left
      ·
       intro w'
       go_simp
       with_reducible rfl
      rotate_left
      ·
       simp only [Act.put, List.setIfInBounds_toArray, List.set_cons_zero, List.set_cons_succ, i64_w, i32_w]
       rfl
      refine pure_ (i := 4) (N := some 16) (v := ?_) (a' := ?_) #[true, true, true, false, true, false, false] rfl rfl (by kernel_rfl) (fun _ _ _ h => h) (Or.inl ⟨by rfl, ?_⟩) ?_ ?_
      rotate_left
      ·
       intro w'
       go_simp
       with_reducible rfl
      rotate_left
      ·
       simp only [Act.put, List.setIfInBounds_toArray, List.set_cons_zero, List.set_cons_succ, i64_w, i32_w]
       rfl
      refine take_ (i := 3) (N := some 15) (v := ?_) (a' := ?_) #[true, true, true, true, true, false, false] rfl rfl (by kernel_rfl) (fun _ _ _ h => h) (Or.inl ⟨by rfl, ?_⟩) hHeld ?_ ?_
      rotate_left
      ·
       intro w' s0
       go_simp
       with_reducible rfl
      rotate_left
      ·
       simp only [Act.put, List.setIfInBounds_toArray, List.set_cons_zero, List.set_cons_succ, i64_w, i32_w]
       rfl
      refine one_ (i := 5) (N := some 17) #[true, true, true, true, true, true, false] rfl rfl (by kernel_rfl) (by decide) (fun K hK => ?_)
      refine goes_ Tryd.func57 (by kernel_rfl) rfl #[.int .i64 x1_1] (by rfl) rfl rfl (by (try simp only [List.map_toArray, List.map_cons, List.map_nil]); first | done | rfl | (simp only [List.length_drop, List.length_take]; rfl)) ?_
      with_reducible refine (laws_markText.calls k1 x1_1 t102 _ A5.out).mono ?_
      rintro e w10 ⟨rfl, hb⟩
      refine ⟨_, rfl, ?_⟩
      have n0_ := Aside0.mk (below_step (by repeat (first | (with_reducible first | exact HB.out | apply below_alloc | apply pw_below_drewN | apply below_drew1) | exact HB.out)) hb)
      clear HB
      have HB := n0_
      clear n0_
      (try clear hb)
      (try clear hb2)
      (try clear hk)
      (try clear hi)
      refine hK.out _ _ ((by first | exact ((HB.out.cell (World.block_lt_of_cell? w _ hw101_0)).trans hw101_0) | exact hw101_0)) (fun hHeld => ?_)
      clear hK K
      refine norm_ (a' := ?_) ?_ ?_
      rotate_left
      ·
       show Act.put _ (some 17) _ = _
       simp only [Act.put, List.setIfInBounds_toArray, List.set_cons_zero, List.set_cons_succ, i64_w, i32_w]
       rfl
      refine pure_ (i := 6) (N := some 18) (v := ?_) (a' := ?_) #[true, true, true, true, true, true, true] rfl rfl (by kernel_rfl) (fun _ _ _ h => h) (Or.inl ⟨by rfl, ?_⟩) ?_ ?_
      rotate_left
      ·
       intro w'
       go_simp
       with_reducible rfl
      rotate_left
      ·
       simp only [Act.put, List.setIfInBounds_toArray, List.set_cons_zero, List.set_cons_succ, i64_w, i32_w]
       rfl
      refine done_ (by kernel_rfl) ?_
      try go_wp2
      go_ret
      exact ⟨by first | rfl | (simp [errW_none, errW_some] <;> rfl) | (simp [*, errW_none, errW_some] <;> rfl), by repeat (first | (with_reducible first | exact HB.out | apply below_alloc | apply pw_below_drewN | apply below_drew1) | exact HB.out)⟩
    ·
     rw [if_neg c4] at H
     exact absurd H (by simp)
   ·
    rw [if_neg c3] at H
    have c3b0 : decide (x5_1 < (l0.length : Int)) = false := decide_eq_false c3
    clear c3
    obtain rfl := Option.some.inj H
    go_wp2
    go_ret
    exact ⟨by first | rfl | (simp [errW_none, errW_some] <;> rfl) | (simp [*, errW_none, errW_some] <;> rfl), by repeat (first | (with_reducible first | exact HB.out | apply below_alloc | apply pw_below_drewN | apply below_drew1) | exact HB.out)⟩

end Go.Proofs.YtamhlbdjjfdbiaaDoor.P

-- printed by xprint.py
namespace Go.Proofs.YtamhlbdjjfdbiaaDoor.P
open Go.RowKit Go.Proofs.YtamhlbdjjfdbiaaDoorW.PrintWords Go.Proofs.YtamhlbdjjfdbiaaDoorW.PrintLast Go.Proofs.YtamhlbdjjfdbiaaDoorW.PrintMore
attribute [local go_sem] max2_int min2_int max_two min_two max_three min_three max_four min_four   -- for this text's walks alone
set_option linter.unusedVariables false
set_option linter.unusedSimpArgs false

/-! ### laws_markStringS: function 31 -/
def laws_markStringS.l0 : Nat → List ByteArray → Int → Int → Option (Int × List ByteArray)
 | 0, _, _, _ => none
 | k + 1, x0, x1, x5 => if x5 < (x0.length : Int) then ((laws_markText.f k x1).bind fun t101 => (if 0 ≤ x5 then (laws_markStringS.l0 k (x0.set (x5 : Int).toNat t101) (wrap64 (x1 + 1)) (wrap64 (x5 + 1))) else (none))) else (some (x1, x0))
def laws_markStringS.f (k : Nat) (l0 : List ByteArray) (a1 : Int) : Option (Int × List ByteArray) := laws_markStringS.l0 k l0 a1 0
theorem laws_markStringS.mono_l : ∀ k, (∀ y0 y1 y2, LeO (laws_markStringS.l0 k y0 y1 y2) (laws_markStringS.l0 (k + 1) y0 y1 y2))
 | 0 => by intros; intro r h; simp [laws_markStringS.l0] at h
 | k + 1 => by
  have ih0 := laws_markStringS.mono_l k
  ·
   intro y0 y1 y2
   unfold laws_markStringS.l0
   repeat' first
   | (with_reducible exact ih0 _ _ _)
   | (with_reducible exact laws_markText.mono _ _)
   | (with_reducible exact LeO.refl _)
   | (with_reducible exact LeO.none _)
   | (with_reducible refine LeO.ite ?_ ?_)
   | (with_reducible refine LeO.bind ?_ (fun _ => ?_))
   | exact ih0 _ _ _
   | exact laws_markText.mono _ _
   | exact LeO.none _
   | refine LeO.ite ?_ ?_
   | refine LeO.bind ?_ (fun _ => ?_)
theorem laws_markStringS.mono : ∀ y0 y1 k, LeO (laws_markStringS.f k y0 y1) (laws_markStringS.f (k + 1) y0 y1) := by
 intro y0 y1 k
 have ih0 := laws_markStringS.mono_l k
 unfold laws_markStringS.f
 repeat' first
   | (with_reducible exact ih0 _ _ _)
   | (with_reducible exact laws_markText.mono _ _)
   | (with_reducible exact LeO.refl _)
   | (with_reducible exact LeO.none _)
   | (with_reducible refine LeO.ite ?_ ?_)
   | (with_reducible refine LeO.bind ?_ (fun _ => ?_))
   | exact ih0 _ _ _
   | exact laws_markText.mono _ _
   | exact LeO.none _
   | refine LeO.ite ?_ ?_
   | refine LeO.bind ?_ (fun _ => ?_)
set_option maxHeartbeats 8000000 in
set_option maxRecDepth 100000 in
theorem laws_markStringS.calls (k : Nat) (P0_ : Nat → Prop) (u9000_ : Value) (l0 : List ByteArray) (a1 : Int) (r1 : Int) (r2 : List ByteArray) (w0 w : World) (hB : Below w0.heap.size w0 w) (ho0 : Kd.R Kd.string 9 w w0.heap.size P0_ u9000_ l0) (h : laws_markStringS.f k l0 a1 = some (r1, r2)) :
  Calls Tryd.prog 31 #[u9000_, .int .i64 a1] w fun e w' => e = .returned (.int .i64 r1) ∧ Kd.R Kd.string 9 w' w0.heap.size (fun k_ => (P0_ k_ ∨ w.heap.size ≤ k_)) u9000_ r2 ∧ Below w0.heap.size w0 w' ∧ Kept w w' (fun k_ => P0_ k_) := by
 have HO0 := Aside0.mk (show Kd.R Kd.string 9 w w0.heap.size (fun k_ => (P0_ k_ ∨ w.heap.size ≤ k_)) u9000_ l0 from Kd.R_mono ho0 (fun k_ hk => (.inl hk)))
 have HK := Aside0.mk (Kept.refl w (fun k_ => P0_ k_))
 have HW0 := Aside0.mk hB.size
 have HB := Aside0.mk hB
 clear hB
 have H : (laws_markStringS.l0 k l0 a1 0) = some (r1, r2) := h
 clear h
 have H' := Aside0.mk H
 clear H
 go_enter Tryd.func31, Tryd.ntmps31
 go_wp2
 go_loopg [1, 5] k (fun kq v1 v5 w' => ∃ (x0_1 : List ByteArray) (x1_1 : Int) (x5_1 : Int), v1 = .int .i64 x1_1 ∧ v5 = .int .i64 x5_1 ∧ Aside0 (laws_markStringS.l0 kq x0_1 x1_1 x5_1 = some (r1, r2)) ∧ Aside0 (kq ≤ k) ∧ Aside0 (Kd.R Kd.string 9 w' w0.heap.size (fun k_ => (P0_ k_ ∨ w.heap.size ≤ k_)) u9000_ x0_1) ∧ Aside0 (Kept w w' (fun k_ => P0_ k_)) ∧ Aside0 (Below w0.heap.size w0 w'))
 case atStart => exact ⟨(l0), (a1), (0), (by first | rfl | (simp; done) | (simp [*]; done)), (by first | rfl | (simp; done) | (simp [*]; done)), H', ⟨Nat.le_refl _⟩, ⟨by (with_reducible repeat (first | apply Kd.R_alloc | apply Kd.R_drewN | apply Kd.R_drew)); exact HO0.out⟩, ⟨by repeat (first | (with_reducible first | exact HK.out | apply Kept.alloc | apply Kept.drewN | apply Kept.drew) | exact HK.out)⟩, ⟨by repeat (first | (with_reducible first | exact HB.out | apply below_alloc | apply pw_below_drewN | apply below_drew1) | exact HB.out)⟩⟩
 case round =>
  clear H'
  try clear p2
  obtain ⟨x0_1, x1_1, x5_1, rfl, rfl, HA, HK1, HO_0, HK, HB⟩ := hrel
  cases gk with
  | zero => exact absurd HA.out (by simp [laws_markStringS.l0])
  | succ k1 =>
   have H := HA.out
   clear HA
   simp only [laws_markStringS.l0] at H
   by_cases c3 : x5_1 < (x0_1.length : Int)
   ·
    rw [if_pos c3] at H
    have c3b0 : decide (x5_1 < (x0_1.length : Int)) = true := decide_eq_true c3
    clear c3
    replace H := Option.bind_eq_some_iff.mp H
    obtain ⟨t101, A40, H⟩ := H
    replace H : (if 0 ≤ x5_1 then (laws_markStringS.l0 k1 (x0_1.set (x5_1 : Int).toNat t101) (wrap64 (x1_1 + 1)) (wrap64 (x5_1 + 1))) else (none)) = some (r1, r2) := H
    have A4 := Aside0.mk A40
    clear A40
    by_cases c5 : 0 ≤ x5_1
    ·
     rw [if_pos c5] at H
     have c5b0 : decide (0 ≤ x5_1) = true := decide_eq_true c5
     clear c5
     obtain ⟨y102, hy102⟩ : ∃ y_ : List ByteArray, y_ = (x0_1.set (x5_1 : Int).toNat t101) := ⟨_, rfl⟩
     replace H : (laws_markStringS.l0 k1 y102 (wrap64 (x1_1 + 1)) (wrap64 (x5_1 + 1))) = some (r1, r2) := by first | (rw [hy102]; with_reducible exact H) | (have H2_ := (Option.bind_some _ _).symm.trans H; rw [hy102]; with_reducible exact H2_) | (have H2_ := (Option.bind_some _ _).symm.trans H; with_reducible exact H2_) | with_reducible exact H | (rw [hy102]; exact H) | exact H
     have Ny102 := Aside0.mk hy102
     clear hy102
     have H' := Aside0.mk H
     clear H
     obtain ⟨Ao7, co7, eo7⟩ := Kd.R_slice HO_0.out
     subst eo7
     go_wp2_with (first | ((with_reducible refine gate_callee (f := 57) rfl ?_); refine goesL_ (some 15) rfl rfl Tryd.func57 (by kernel_rfl) rfl #[.int .i64 x1_1] rfl (by (try simp only [List.map_toArray, List.map_cons, List.map_nil]); first | done | rfl | (simp only [List.length_drop, List.length_take]; rfl)) ?_; (with_reducible refine (laws_markText.calls k1 x1_1 t101 _ A4.out).mono ?_); rintro e w8 ⟨rfl, hb⟩; refine ⟨_, rfl, ?_⟩; have n0_ := Aside0.mk (Kd.R_below (by (with_reducible repeat (first | apply Kd.R_alloc | apply Kd.R_drewN | apply Kd.R_drew)); exact HO_0.out) hb); have n1_ := Aside0.mk (Kept.below (S := (fun k_ => P0_ k_)) (by repeat (first | (with_reducible first | exact HK.out | apply Kept.alloc | apply Kept.drewN | apply Kept.drew) | exact HK.out)) hb); have n2_ := Aside0.mk (below_step (by repeat (first | (with_reducible first | exact HB.out | apply below_alloc | apply pw_below_drewN | apply below_drew1) | exact HB.out)) hb); clear HO_0; clear HK; clear HB; have HO_0 := n0_; have HK := n1_; have HB := n2_; clear n0_ n1_ n2_; (try clear hb); (try clear hb2); (try clear hk); (try clear hi); have p6 : 0 ≤ (x5_1 : Int) := of_decide_eq_true (by first | (with_reducible assumption) | assumption); have q6 : (x5_1 : Int) < ((x0_1.length : Int) : Int) := of_decide_eq_true (by first | (with_reducible assumption) | assumption); obtain ⟨go6, co6, eo6, gb6, gl6, cl6, HG6⟩ := Kd.R_form HO_0.out (by omega); (first | cases eo6 | (injection eo6 with ea_ en_ ec_; (first | subst ea_ | (injection ea_ with ea_; subst ea_)); subst ec_; clear en_)); have GB6 := Aside0.mk gb6; have GG6 := Aside0.mk HG6; clear gb6 gl6 HG6; have HMgo6 := Aside0.mk (show (P0_ go6 ∨ w.heap.size ≤ go6) from (HO_0.out.1 _ rfl)); obtain ⟨hx6_0, hf6_0⟩ := Kd.R_celln (⟨#[]⟩ : ByteArray) HO_0.out (x5_1 : Int) p6 q6; replace p6 := eq_true p6; replace q6 := eq_true q6; obtain ⟨hy9_, hz9_⟩ := Kd.R_celln (⟨#[]⟩ : ByteArray) HO_0.out (x5_1 : Int) (of_decide_eq_true (by first | (with_reducible assumption) | assumption)) (of_decide_eq_true (by first | (with_reducible assumption) | assumption)); have HP9 := Kd.R_putg HO_0.out (x5_1 : Int) t101) | ((with_reducible refine gate_store (t := 9) (p := 16) rfl ?_); refine store_event (t := 9) (p := 16) (v := ?vo_w10) (w1 := (w8.setCell ⟨go6, (x5_1 : Int).toNat, none⟩ (.string t101))) ?hg ?ho ?hn ?hr ?_; (case ho => rfl); (case hg => rfl); (case hn => rfl); (case hr => first | (go_simp; done) | (go_simp; rfl)); intro w10 hw; have hg : w8.grownBy w10 (some go6) := (by rw [hw]; exact HP9.2); have hp_ : Kd.R Kd.string 9 w10 w0.heap.size (fun k_ => (P0_ k_ ∨ w.heap.size ≤ k_)) (.slice (some ⟨go6, 0, none⟩) x0_1.length co7) y102 := (by rw [hw, Ny102.out]; exact HP9.1); clear HP9; have n0_ := Aside0.mk (hp_); have n1_ := Aside0.mk ((by rw [hw]; exact below_set (HB.out) GB6.out : Below w0.heap.size w0 w10)); have n2_ := Aside0.mk (Kept.of_grown (S := (fun k_ => P0_ k_)) hg (by repeat (first | (with_reducible first | exact HK.out | apply Kept.alloc | apply Kept.drewN | apply Kept.drew) | exact HK.out)) (fun k_ e_ => (HO_0.out.1 k_ e_))); clear HO_0; clear HB; clear HK; have HO_0 := n0_; have HB := n1_; have HK := n2_; clear n0_ n1_ n2_; clear hg hw hp_))
     go_roundg k1
     case measure => have := HK1.out; omega
     case rel => exact ⟨(y102), (wrap64 (x1_1 + 1)), (wrap64 (x5_1 + 1)), (by first | rfl | (simp; done) | (simp [*]; done)), (by first | rfl | (simp; done) | (simp [*]; done)), H', ⟨by have := HK1.out; omega⟩, ⟨by (with_reducible repeat (first | apply Kd.R_alloc | apply Kd.R_drewN | apply Kd.R_drew)); exact HO_0.out⟩, ⟨by repeat (first | (with_reducible first | exact HK.out | apply Kept.alloc | apply Kept.drewN | apply Kept.drew) | exact HK.out)⟩, ⟨by repeat (first | (with_reducible first | exact HB.out | apply below_alloc | apply pw_below_drewN | apply below_drew1) | exact HB.out)⟩⟩
    ·
     rw [if_neg c5] at H
     exact absurd H (by simp)
   ·
    rw [if_neg c3] at H
    have c3b0 : decide (x5_1 < (x0_1.length : Int)) = false := decide_eq_false c3
    clear c3
    simp only [Option.some.injEq, Prod.mk.injEq] at H
    obtain ⟨rfl, rfl⟩ := H
    obtain ⟨Ao11, co11, eo11⟩ := Kd.R_slice HO_0.out
    subst eo11
    go_wp2
    go_ret
    exact ⟨by first | rfl | (simp [errW_none, errW_some] <;> rfl) | (simp [*, errW_none, errW_some] <;> rfl), by (with_reducible repeat (first | apply Kd.R_alloc | apply Kd.R_drewN | apply Kd.R_drew)); exact HO_0.out, by repeat (first | (with_reducible first | exact HB.out | apply below_alloc | apply pw_below_drewN | apply below_drew1) | exact HB.out), by repeat (first | (with_reducible first | exact HK.out | apply Kept.alloc | apply Kept.drewN | apply Kept.drew) | exact HK.out)⟩

end Go.Proofs.YtamhlbdjjfdbiaaDoor.P

-- printed by xprint.py
namespace Go.Proofs.YtamhlbdjjfdbiaaDoor.P
open Go.RowKit Go.Proofs.YtamhlbdjjfdbiaaDoorW.PrintWords Go.Proofs.YtamhlbdjjfdbiaaDoorW.PrintLast Go.Proofs.YtamhlbdjjfdbiaaDoorW.PrintMore
attribute [local go_sem] max2_int min2_int max_two min_two max_three min_three max_four min_four   -- for this text's walks alone
set_option linter.unusedVariables false
set_option linter.unusedSimpArgs false

/-! ### laws_szStringS: function 26 -/
def laws_szStringS.l0 : Nat → List ByteArray → Int → Int → Option (Int)
 | 0, _, _, _ => none
 | k + 1, x0, x1, x5 => if x5 < (x0.length : Int) then (if 0 ≤ x5 then (if (wrap64 (x1 - ((rdOf ByteArray.empty x0 x5).size : Int))) < 0 then (some (-1)) else (laws_szStringS.l0 k x0 (wrap64 (x1 - ((rdOf ByteArray.empty x0 x5).size : Int))) (wrap64 (x5 + 1)))) else (none)) else (some x1)
def laws_szStringS.f (k : Nat) (l0 : List ByteArray) (a1 : Int) : Option (Int) := if (wrap64 (a1 - (l0.length : Int))) < 0 then (some (-1)) else (laws_szStringS.l0 k l0 (wrap64 (a1 - (l0.length : Int))) 0)
theorem laws_szStringS.mono_l : ∀ k, (∀ y0 y1 y2, LeO (laws_szStringS.l0 k y0 y1 y2) (laws_szStringS.l0 (k + 1) y0 y1 y2))
 | 0 => by intros; intro r h; simp [laws_szStringS.l0] at h
 | k + 1 => by
  have ih0 := laws_szStringS.mono_l k
  ·
   intro y0 y1 y2
   unfold laws_szStringS.l0
   repeat' first
   | (with_reducible exact ih0 _ _ _)
   | (with_reducible exact LeO.refl _)
   | (with_reducible exact LeO.none _)
   | (with_reducible refine LeO.ite ?_ ?_)
   | (with_reducible refine LeO.bind ?_ (fun _ => ?_))
   | exact ih0 _ _ _
   | exact LeO.none _
   | refine LeO.ite ?_ ?_
   | refine LeO.bind ?_ (fun _ => ?_)
theorem laws_szStringS.mono : ∀ y0 y1 k, LeO (laws_szStringS.f k y0 y1) (laws_szStringS.f (k + 1) y0 y1) := by
 intro y0 y1 k
 have ih0 := laws_szStringS.mono_l k
 unfold laws_szStringS.f
 repeat' first
   | (with_reducible exact ih0 _ _ _)
   | (with_reducible exact LeO.refl _)
   | (with_reducible exact LeO.none _)
   | (with_reducible refine LeO.ite ?_ ?_)
   | (with_reducible refine LeO.bind ?_ (fun _ => ?_))
   | exact ih0 _ _ _
   | exact LeO.none _
   | refine LeO.ite ?_ ?_
   | refine LeO.bind ?_ (fun _ => ?_)
set_option maxHeartbeats 8000000 in
set_option maxRecDepth 100000 in
theorem laws_szStringS.calls (k : Nat) (A0 : Option Addr) (c0 : Nat) (l0 : List ByteArray) (a1 : Int) (r : Int) (w : World) (hr0 : Kd.C Kd.string w A0 l0.length l0) (hc0 : l0.length ≤ c0) (h : laws_szStringS.f k l0 a1 = some r) :
  Calls Tryd.prog 26 #[.slice A0 l0.length c0, .int .i64 a1] w fun e w' => e = .returned (.int .i64 r) ∧ Drawn0 w w' := by
 have HR0 := Aside0.mk hr0
 have HC0 := Aside0.mk hc0
 clear hr0 hc0
 have H : (if (wrap64 (a1 - (l0.length : Int))) < 0 then (some (-1)) else (laws_szStringS.l0 k l0 (wrap64 (a1 - (l0.length : Int))) 0)) = some r := h
 clear h
 by_cases c3 : (wrap64 (a1 - (l0.length : Int))) < 0
 ·
  rw [if_pos c3] at H
  have c3b0 : decide ((wrap64 (a1 - (l0.length : Int))) < 0) = true := decide_eq_true c3
  clear c3
  obtain rfl := Option.some.inj H
  go_enter Tryd.func26, Tryd.ntmps26
  go_wp2
  go_ret
  exact ⟨by first | rfl | (simp; done) | (simp [*]; done), by repeat (first | exact Drawn0.refl _ | apply Drawn0.step)⟩
 ·
  rw [if_neg c3] at H
  have c3b0 : decide ((wrap64 (a1 - (l0.length : Int))) < 0) = false := decide_eq_false c3
  clear c3
  have H' := Aside0.mk H
  clear H
  go_enter Tryd.func26, Tryd.ntmps26
  go_wp2
  go_loopg [1, 5] k (fun kq v1 v5 w' => ∃ (x1_1 : Int) (x5_1 : Int), v1 = .int .i64 x1_1 ∧ v5 = .int .i64 x5_1 ∧ Aside0 (laws_szStringS.l0 kq l0 x1_1 x5_1 = some r) ∧ Aside0 (kq ≤ k) ∧ Drawn0 w w')
  case atStart => exact ⟨(wrap64 (a1 - (l0.length : Int))), (0), (by first | rfl | (simp; done) | (simp [*]; done)), (by first | rfl | (simp; done) | (simp [*]; done)), H', ⟨Nat.le_refl _⟩, by repeat (first | exact Drawn0.refl _ | apply Drawn0.step)⟩
  case round =>
   clear H'
   try clear c2
   try clear p2
   try clear c3
   try clear c3b0
   obtain ⟨x1_1, x5_1, rfl, rfl, HA, HK1, ⟨m1, rfl⟩⟩ := hrel
   cases gk with
   | zero => exact absurd HA.out (by simp [laws_szStringS.l0])
   | succ k1 =>
    have H := HA.out
    clear HA
    simp only [laws_szStringS.l0] at H
    by_cases c4 : x5_1 < (l0.length : Int)
    ·
     rw [if_pos c4] at H
     have c4b0 : decide (x5_1 < (l0.length : Int)) = true := decide_eq_true c4
     clear c4
     by_cases c5 : 0 ≤ x5_1
     ·
      rw [if_pos c5] at H
      have c5b0 : decide (0 ≤ x5_1) = true := decide_eq_true c5
      clear c5
      by_cases c6 : (wrap64 (x1_1 - ((rdOf ByteArray.empty l0 x5_1).size : Int))) < 0
      ·
       rw [if_pos c6] at H
       have c6b0 : decide ((wrap64 (x1_1 - ((rdOf ByteArray.empty l0 x5_1).size : Int))) < 0) = true := decide_eq_true c6
       clear c6
       obtain rfl := Option.some.inj H
       have p101 : 0 ≤ (x5_1 : Int) := of_decide_eq_true (by first | (with_reducible assumption) | assumption)
       have q101 : x5_1 < (l0.length : Int) := of_decide_eq_true (by first | (with_reducible assumption) | assumption)
       obtain ⟨ad101, e101, hx101_0⟩ := Kd.at_string HR0.out x5_1 p101 q101
       cases e101
       replace p101 := eq_true p101
       replace q101 := eq_true q101
       go_wp2
       go_ret
       exact ⟨by first | rfl | (simp; done) | (simp [*]; done), by repeat (first | exact Drawn0.refl _ | apply Drawn0.step)⟩
      ·
       rw [if_neg c6] at H
       have c6b0 : decide ((wrap64 (x1_1 - ((rdOf ByteArray.empty l0 x5_1).size : Int))) < 0) = false := decide_eq_false c6
       clear c6
       have H' := Aside0.mk H
       clear H
       have p101 : 0 ≤ (x5_1 : Int) := of_decide_eq_true (by first | (with_reducible assumption) | assumption)
       have q101 : x5_1 < (l0.length : Int) := of_decide_eq_true (by first | (with_reducible assumption) | assumption)
       obtain ⟨ad101, e101, hx101_0⟩ := Kd.at_string HR0.out x5_1 p101 q101
       cases e101
       replace p101 := eq_true p101
       replace q101 := eq_true q101
       go_wp2
       go_roundg k1
       case measure => have := HK1.out; omega
       case rel => exact ⟨(wrap64 (x1_1 - ((rdOf ByteArray.empty l0 x5_1).size : Int))), (wrap64 (x5_1 + 1)), (by first | rfl | (simp; done) | (simp [*]; done)), (by first | rfl | (simp; done) | (simp [*]; done)), H', ⟨by have := HK1.out; omega⟩, by repeat (first | exact Drawn0.refl _ | apply Drawn0.step)⟩
     ·
      rw [if_neg c5] at H
      exact absurd H (by simp)
    ·
     rw [if_neg c4] at H
     have c4b0 : decide (x5_1 < (l0.length : Int)) = false := decide_eq_false c4
     clear c4
     obtain rfl := Option.some.inj H
     go_wp2
     go_ret
     exact ⟨by first | rfl | (simp; done) | (simp [*]; done), by repeat (first | exact Drawn0.refl _ | apply Drawn0.step)⟩

end Go.Proofs.YtamhlbdjjfdbiaaDoor.P

-- printed by xprint.py
namespace Go.Proofs.YtamhlbdjjfdbiaaDoor.P
open Go.RowKit Go.Proofs.YtamhlbdjjfdbiaaDoorW.PrintWords Go.Proofs.YtamhlbdjjfdbiaaDoorW.PrintLast Go.Proofs.YtamhlbdjjfdbiaaDoorW.PrintMore
attribute [local go_sem] max2_int min2_int max_two min_two max_three min_three max_four min_four   -- for this text's walks alone
set_option linter.unusedVariables false
set_option linter.unusedSimpArgs false

/-! ### laws_toStringS: function 28 -/
def laws_toStringS.l0 : Nat → List ByteArray → List ByteArray → Int → Option (List ByteArray)
 | 0, _, _, _ => none
 | k + 1, x0, x3, x4 => if x4 < (x0.length : Int) then (if 0 ≤ x4 then (if x4 < (x3.length : Int) then (laws_toStringS.l0 k x0 (x3.set (x4 : Int).toNat (rdOf ByteArray.empty x0 x4)) (wrap64 (x4 + 1))) else (none)) else (none)) else (some x3)
def laws_toStringS.f (k : Nat) (l0 : List ByteArray) : Option (List ByteArray) := if 0 ≤ (l0.length : Int) then (if ((l0.length : Int) : Int).toNat ≤ 17592186044416 then (laws_toStringS.l0 k l0 (List.replicate ((l0.length : Int) : Int).toNat (⟨#[]⟩ : ByteArray)) 0) else (none)) else (none)
theorem laws_toStringS.mono_l : ∀ k, (∀ y0 y1 y2, LeO (laws_toStringS.l0 k y0 y1 y2) (laws_toStringS.l0 (k + 1) y0 y1 y2))
 | 0 => by intros; intro r h; simp [laws_toStringS.l0] at h
 | k + 1 => by
  have ih0 := laws_toStringS.mono_l k
  ·
   intro y0 y1 y2
   unfold laws_toStringS.l0
   repeat' first
   | (with_reducible exact ih0 _ _ _)
   | (with_reducible exact LeO.refl _)
   | (with_reducible exact LeO.none _)
   | (with_reducible refine LeO.ite ?_ ?_)
   | (with_reducible refine LeO.bind ?_ (fun _ => ?_))
   | exact ih0 _ _ _
   | exact LeO.none _
   | refine LeO.ite ?_ ?_
   | refine LeO.bind ?_ (fun _ => ?_)
theorem laws_toStringS.mono : ∀ y0 k, LeO (laws_toStringS.f k y0) (laws_toStringS.f (k + 1) y0) := by
 intro y0 k
 have ih0 := laws_toStringS.mono_l k
 unfold laws_toStringS.f
 repeat' first
   | (with_reducible exact ih0 _ _ _)
   | (with_reducible exact LeO.refl _)
   | (with_reducible exact LeO.none _)
   | (with_reducible refine LeO.ite ?_ ?_)
   | (with_reducible refine LeO.bind ?_ (fun _ => ?_))
   | exact ih0 _ _ _
   | exact LeO.none _
   | refine LeO.ite ?_ ?_
   | refine LeO.bind ?_ (fun _ => ?_)
set_option maxHeartbeats 8000000 in
set_option maxRecDepth 100000 in
theorem laws_toStringS.calls (k : Nat) (A0 : Option Addr) (c0 : Nat) (l0 : List ByteArray) (r : List ByteArray) (w : World) (hr0 : Kd.C Kd.string w A0 l0.length l0) (hc0 : l0.length ≤ c0) (h : laws_toStringS.f k l0 = some r) :
  Calls Tryd.prog 28 #[.slice A0 l0.length c0] w fun e w' => ∃ v0_ : Value, e = .returned (v0_) ∧ Kd.R Kd.string 9 w' w.heap.size (fun _ => True) v0_ r ∧ Below w.heap.size w w' := by
 have HR0 := Aside0.mk hr0
 have HC0 := Aside0.mk hc0
 clear hr0 hc0
 have HB := Aside0.mk (Below.refl w.heap.size w)
 have H : (if 0 ≤ (l0.length : Int) then (if ((l0.length : Int) : Int).toNat ≤ 17592186044416 then (laws_toStringS.l0 k l0 (List.replicate ((l0.length : Int) : Int).toNat (⟨#[]⟩ : ByteArray)) 0) else (none)) else (none)) = some r := h
 clear h
 by_cases c2 : 0 ≤ (l0.length : Int)
 ·
  rw [if_pos c2] at H
  have c2b0 := eq_true c2
  have c2b1 : decide (0 ≤ (l0.length : Int)) = true := decide_eq_true c2
  clear c2
  by_cases c3 : ((l0.length : Int) : Int).toNat ≤ 17592186044416
  ·
   rw [if_pos c3] at H
   have c3b0 := eq_true c3
   have c3b1 : decide (((l0.length : Int) : Int).toNat ≤ 17592186044416) = true := decide_eq_true c3
   clear c3
   obtain ⟨y101, hy101⟩ : ∃ y_ : List ByteArray, y_ = (List.replicate ((l0.length : Int) : Int).toNat (⟨#[]⟩ : ByteArray)) := ⟨_, rfl⟩
   replace H : (laws_toStringS.l0 k l0 y101 0) = some r := by first | (rw [hy101]; with_reducible exact H) | (have H2_ := (Option.bind_some _ _).symm.trans H; rw [hy101]; with_reducible exact H2_) | (have H2_ := (Option.bind_some _ _).symm.trans H; with_reducible exact H2_) | with_reducible exact H | (rw [hy101]; exact H) | exact H
   have Ny101 := Aside0.mk hy101
   clear hy101
   have H' := Aside0.mk H
   clear H
   go_enter Tryd.func28, Tryd.ntmps28
   go_wp2_with (first | ((with_reducible refine gate_dst (N := 7) rfl ?_); refine Kd.R_make Kd.string _ 9 rfl (N := 7) rfl 31 _ _ rfl (l0.length : Int) rfl rfl Tryd.underlying31 (.string ⟨#[]⟩) 16 info9 rfl (by decide) (by omega) (⟨#[]⟩ : ByteArray) (ok := fun _ => True) (okp := fun _ => True) rfl (fun _ hk => hk) trivial (of_decide_eq_true (by first | (with_reducible assumption) | assumption)) (Nat.le_trans (Nat.mul_le_mul_right _ (of_decide_eq_true (by first | (with_reducible assumption) | assumption) : (l0.length : Int).toNat ≤ 17592186044416)) (by omega)) (Below.refl _ _) (Nat.le_refl _) ?_; intro v102 w4 ho5 hb hg_ hnew_; clear hg_ hnew_; (first | rw [← Ny101.out] at ho5 | (simp only [Int.reduceToNat] at ho5; rw [← Ny101.out] at ho5)); have n0_ := Aside0.mk (Kd.R_lower ho5 (below_size (by repeat (first | (with_reducible first | exact HB.out | apply below_alloc | apply pw_below_drewN | apply below_drew1) | exact HB.out)))); have n1_ := Aside0.mk (below_step (by repeat (first | (with_reducible first | exact HB.out | apply below_alloc | apply pw_below_drewN | apply below_drew1) | exact HB.out)) hb); clear HB; have HO103 := n0_; have HB := n1_; clear n0_ n1_; clear hb ho5))
   go_loopg [4] k (fun kq v4 w' => ∃ (x3_1 : List ByteArray) (x4_1 : Int), v4 = .int .i64 x4_1 ∧ Aside0 (laws_toStringS.l0 kq l0 x3_1 x4_1 = some r) ∧ Aside0 (kq ≤ k) ∧ Aside0 (Kd.R Kd.string 9 w' w.heap.size (fun _ => True) v102 x3_1) ∧ Aside0 (Below w.heap.size w w'))
   case atStart => exact ⟨(y101), (0), (by first | rfl | (simp; done) | (simp [*]; done)), H', ⟨Nat.le_refl _⟩, ⟨by (with_reducible repeat (first | apply Kd.R_alloc | apply Kd.R_drewN | apply Kd.R_drew)); exact HO103.out⟩, ⟨by repeat (first | (with_reducible first | exact HB.out | apply below_alloc | apply pw_below_drewN | apply below_drew1) | exact HB.out)⟩⟩
   case round =>
    clear H'
    try clear c2
    try clear c2b0
    try clear c2b1
    try clear p2
    try clear c3
    try clear c3b0
    try clear c3b1
    obtain ⟨x3_1, x4_1, rfl, HA, HK1, HO_3, HB⟩ := hrel
    cases gk with
    | zero => exact absurd HA.out (by simp [laws_toStringS.l0])
    | succ k1 =>
     have H := HA.out
     clear HA
     simp only [laws_toStringS.l0] at H
     by_cases c6 : x4_1 < (l0.length : Int)
     ·
      rw [if_pos c6] at H
      have c6b0 : decide (x4_1 < (l0.length : Int)) = true := decide_eq_true c6
      clear c6
      by_cases c7 : 0 ≤ x4_1
      ·
       rw [if_pos c7] at H
       have c7b0 : decide (0 ≤ x4_1) = true := decide_eq_true c7
       clear c7
       by_cases c8 : x4_1 < (x3_1.length : Int)
       ·
        rw [if_pos c8] at H
        have c8b0 : decide (x4_1 < (x3_1.length : Int)) = true := decide_eq_true c8
        clear c8
        obtain ⟨y105, hy105⟩ : ∃ y_ : List ByteArray, y_ = (x3_1.set (x4_1 : Int).toNat (rdOf ByteArray.empty l0 x4_1)) := ⟨_, rfl⟩
        replace H : (laws_toStringS.l0 k1 l0 y105 (wrap64 (x4_1 + 1))) = some r := by first | (rw [hy105]; with_reducible exact H) | (have H2_ := (Option.bind_some _ _).symm.trans H; rw [hy105]; with_reducible exact H2_) | (have H2_ := (Option.bind_some _ _).symm.trans H; with_reducible exact H2_) | with_reducible exact H | (rw [hy105]; exact H) | exact H
        have Ny105 := Aside0.mk hy105
        clear hy105
        have H' := Aside0.mk H
        clear H
        have p104 : 0 ≤ (x4_1 : Int) := of_decide_eq_true (by first | (with_reducible assumption) | assumption)
        have q104 : x4_1 < (l0.length : Int) := of_decide_eq_true (by first | (with_reducible assumption) | assumption)
        obtain ⟨ad104, e104, hx104_0⟩ := Kd.at_string HR0.out x4_1 p104 q104
        cases e104
        (try replace hx104_0 := (HB.out.cell (World.block_lt_of_cell? w _ hx104_0)).trans hx104_0)
        replace p104 := eq_true p104
        replace q104 := eq_true q104
        have p9 : 0 ≤ (x4_1 : Int) := of_decide_eq_true (by first | (with_reducible assumption) | assumption)
        have q9 : (x4_1 : Int) < ((x3_1.length : Int) : Int) := of_decide_eq_true (by first | (with_reducible assumption) | assumption)
        obtain ⟨go9, co9, eo9, gb9, gl9, cl9, HG9⟩ := Kd.R_form HO_3.out (by omega)
        (first | cases eo9 | (injection eo9 with ea_ en_ ec_; (first | subst ea_ | (injection ea_ with ea_; subst ea_)); subst ec_; clear en_))
        have GB9 := Aside0.mk gb9
        have GG9 := Aside0.mk HG9
        clear gb9 gl9 HG9
        obtain ⟨hx9_0, hf9_0⟩ := Kd.R_celln (⟨#[]⟩ : ByteArray) HO_3.out (x4_1 : Int) p9 q9
        replace p9 := eq_true p9
        replace q9 := eq_true q9
        have HP10 := Kd.R_putg HO_3.out (x4_1 : Int) (rdOf ByteArray.empty l0 x4_1)
        go_wp2_with (first | ((with_reducible refine gate_store (t := 9) (p := 20) rfl ?_); refine store_event (t := 9) (p := 20) (v := ?vo_w11) (w1 := (wr.setCell ⟨go9, (x4_1 : Int).toNat, none⟩ (.string (rdOf ByteArray.empty l0 x4_1)))) ?hg ?ho ?hn ?hr ?_; (case ho => rfl); (case hg => rfl); (case hn => rfl); (case hr => first | (go_simp; done) | (go_simp; rfl)); intro w11 hw; have hg : wr.grownBy w11 (some go9) := (by rw [hw]; exact HP10.2); have hp_ : Kd.R Kd.string 9 w11 w.heap.size (fun _ => True) (.slice (some ⟨go9, 0, none⟩) x3_1.length co9) y105 := (by rw [hw, Ny105.out]; exact HP10.1); clear HP10; have n0_ := Aside0.mk (hp_); have n1_ := Aside0.mk ((by rw [hw]; exact below_set (HB.out) GB9.out : Below w.heap.size w w11)); clear HO_3; clear HB; have HO_3 := n0_; have HB := n1_; clear n0_ n1_; clear hg hw hp_))
        go_roundg k1
        case measure => have := HK1.out; omega
        case rel => exact ⟨(y105), (wrap64 (x4_1 + 1)), (by first | rfl | (simp; done) | (simp [*]; done)), H', ⟨by have := HK1.out; omega⟩, ⟨by (with_reducible repeat (first | apply Kd.R_alloc | apply Kd.R_drewN | apply Kd.R_drew)); exact HO_3.out⟩, ⟨by repeat (first | (with_reducible first | exact HB.out | apply below_alloc | apply pw_below_drewN | apply below_drew1) | exact HB.out)⟩⟩
       ·
        rw [if_neg c8] at H
        exact absurd H (by simp)
      ·
       rw [if_neg c7] at H
       exact absurd H (by simp)
     ·
      rw [if_neg c6] at H
      have c6b0 : decide (x4_1 < (l0.length : Int)) = false := decide_eq_false c6
      clear c6
      obtain rfl := Option.some.inj H
      go_wp2
      go_ret
      exact ⟨_, by first | rfl | (simp [errW_none, errW_some] <;> rfl) | (simp [*, errW_none, errW_some] <;> rfl), by (with_reducible repeat (first | apply Kd.R_alloc | apply Kd.R_drewN | apply Kd.R_drew)); exact HO_3.out, by repeat (first | (with_reducible first | exact HB.out | apply below_alloc | apply pw_below_drewN | apply below_drew1) | exact HB.out)⟩
  ·
   rw [if_neg c3] at H
   exact absurd H (by simp)
 ·
  rw [if_neg c2] at H
  exact absurd H (by simp)

end Go.Proofs.YtamhlbdjjfdbiaaDoor.P

-- printed by xprint.py
namespace Go.Proofs.YtamhlbdjjfdbiaaDoor.P
open Go.RowKit Go.Proofs.YtamhlbdjjfdbiaaDoorW.PrintWords Go.Proofs.YtamhlbdjjfdbiaaDoorW.PrintLast Go.Proofs.YtamhlbdjjfdbiaaDoorW.PrintMore
attribute [local go_sem] max2_int min2_int max_two min_two max_three min_three max_four min_four   -- for this text's walks alone
set_option linter.unusedVariables false
set_option linter.unusedSimpArgs false

/-! ### spec_l1Least: function 60 -/
def spec_l1Least.f (a0 : Int) (a1 : Int) : Option (Int) := if a0 < a1 then (some a0) else (some a1)
set_option maxHeartbeats 8000000 in
set_option maxRecDepth 100000 in
theorem spec_l1Least.calls (a0 : Int) (a1 : Int) (r : Int) (w : World) (h : spec_l1Least.f a0 a1 = some r) :
  Calls Tryd.prog 60 #[.int .i64 a0, .int .i64 a1] w fun e w' => e = .returned (.int .i64 r) ∧ Drawn0 w w' := by
 have H : (if a0 < a1 then (some a0) else (some a1)) = some r := h
 clear h
 by_cases c3 : a0 < a1
 ·
  rw [if_pos c3] at H
  have c3b0 : decide (a0 < a1) = true := decide_eq_true c3
  clear c3
  obtain rfl := Option.some.inj H
  go_enter Tryd.func60, Tryd.ntmps60
  go_wp2
  go_ret
  exact ⟨by first | rfl | (simp; done) | (simp [*]; done), by repeat (first | exact Drawn0.refl _ | apply Drawn0.step)⟩
 ·
  rw [if_neg c3] at H
  have c3b0 : decide (a0 < a1) = false := decide_eq_false c3
  clear c3
  obtain rfl := Option.some.inj H
  go_enter Tryd.func60, Tryd.ntmps60
  go_wp2
  go_ret
  exact ⟨by first | rfl | (simp; done) | (simp [*]; done), by repeat (first | exact Drawn0.refl _ | apply Drawn0.step)⟩

end Go.Proofs.YtamhlbdjjfdbiaaDoor.P

-- printed by xprint.py
namespace Go.Proofs.YtamhlbdjjfdbiaaDoor.P
open Go.RowKit Go.Proofs.YtamhlbdjjfdbiaaDoorW.PrintWords Go.Proofs.YtamhlbdjjfdbiaaDoorW.PrintLast Go.Proofs.YtamhlbdjjfdbiaaDoorW.PrintMore
attribute [local go_sem] max2_int min2_int max_two min_two max_three min_three max_four min_four   -- for this text's walks alone
set_option linter.unusedVariables false
set_option linter.unusedSimpArgs false

/-! ### spec_bkTable: function 39 -/
mutual
def spec_bkTable.l0 : Nat → ByteArray → ByteArray → List (List Int) → Int → Option ((List (List Int)))
 | 0, _, _, _, _ => none
 | k + 1, x0, x1, x5, x6 => if x6 ≤ (x0.size : Int) then (if 0 ≤ (wrap64 ((x1.size : Int) + 1)) then (if (wrap64 ((x1.size : Int) + 1) : Int).toNat ≤ 35184372088832 then (if x5.length < 5864062014805 then (spec_bkTable.l0 k x0 x1 (x5 ++ [(List.replicate (wrap64 ((x1.size : Int) + 1) : Int).toNat 0)]) (wrap64 (x6 + 1))) else (none)) else (none)) else (none)) else (spec_bkTable.l1 k x0 x1 x5 (x0.size : Int))
def spec_bkTable.l1 : Nat → ByteArray → ByteArray → List (List Int) → Int → Option ((List (List Int)))
 | 0, _, _, _, _ => none
 | k + 1, x0, x1, x5, x7 => if x7 ≥ 0 then (if 0 ≤ x7 then (if x7 < (x5.length : Int) then (spec_bkTable.l2 k x0 x1 x5 x7 (x1.size : Int)) else (none)) else (none)) else (some x5)
def spec_bkTable.l2 : Nat → ByteArray → ByteArray → List (List Int) → Int → Int → Option ((List (List Int)))
 | 0, _, _, _, _, _ => none
 | k + 1, x0, x1, x5, x7, x9 => if x9 ≥ 0 then (if x7 = (x0.size : Int) then (if 0 ≤ x7 then (if x7 < (x5.length : Int) then (if 0 ≤ x9 then (if x9 < ((rd_L1 x5 x7).length : Int) then (spec_bkTable.l2 k x0 x1 (x5.set (x7 : Int).toNat ((rd_L1 x5 x7).set (x9 : Int).toNat (wrap64 ((x1.size : Int) - x9)))) x7 (wrap64 (x9 - 1))) else (none)) else (none)) else (none)) else (none)) else (if x9 = (x1.size : Int) then (if 0 ≤ x7 then (if x7 < (x5.length : Int) then (if 0 ≤ x9 then (if x9 < ((rd_L1 x5 x7).length : Int) then (spec_bkTable.l2 k x0 x1 (x5.set (x7 : Int).toNat ((rd_L1 x5 x7).set (x9 : Int).toNat (wrap64 ((x0.size : Int) - x7)))) x7 (wrap64 (x9 - 1))) else (none)) else (none)) else (none)) else (none)) else (if 0 ≤ (wrap64 (x7 + 1)) then (if (wrap64 (x7 + 1)) < (x5.length : Int) then (if 0 ≤ x9 then (if x9 < ((rd_L1 x5 (wrap64 (x7 + 1))).length : Int) then (if 0 ≤ x7 then (if x7 < (x5.length : Int) then (if 0 ≤ (wrap64 (x9 + 1)) then (if (wrap64 (x9 + 1)) < ((rd_L1 x5 x7).length : Int) then ((spec_l1Least.f (rd (rd_L1 x5 (wrap64 (x7 + 1))) x9) (rd (rd_L1 x5 x7) (wrap64 (x9 + 1)))).bind fun t120 => (if x7 < (x0.size : Int) then (if x9 < (x1.size : Int) then (if (bt x0 x7) = (bt x1 x9) then (if (wrap64 (x9 + 1)) < ((rd_L1 x5 (wrap64 (x7 + 1))).length : Int) then ((spec_l1Least.f (wrap64 (t120 + 1)) (wrap64 ((rd (rd_L1 x5 (wrap64 (x7 + 1))) (wrap64 (x9 + 1))) + 0))).bind fun t124 => (if x9 < ((rd_L1 x5 x7).length : Int) then (spec_bkTable.l2 k x0 x1 (x5.set (x7 : Int).toNat ((rd_L1 x5 x7).set (x9 : Int).toNat t124)) x7 (wrap64 (x9 - 1))) else (none))) else (none)) else (if (wrap64 (x9 + 1)) < ((rd_L1 x5 (wrap64 (x7 + 1))).length : Int) then ((spec_l1Least.f (wrap64 (t120 + 1)) (wrap64 ((rd (rd_L1 x5 (wrap64 (x7 + 1))) (wrap64 (x9 + 1))) + 1))).bind fun t131 => (if x9 < ((rd_L1 x5 x7).length : Int) then (spec_bkTable.l2 k x0 x1 (x5.set (x7 : Int).toNat ((rd_L1 x5 x7).set (x9 : Int).toNat t131)) x7 (wrap64 (x9 - 1))) else (none))) else (none))) else (none)) else (none))) else (none)) else (none)) else (none)) else (none)) else (none)) else (none)) else (none)) else (none)))) else (spec_bkTable.l1 k x0 x1 x5 (wrap64 (x7 - 1)))
end
def spec_bkTable.f (k : Nat) (a0 : ByteArray) (a1 : ByteArray) : Option ((List (List Int))) := spec_bkTable.l0 k a0 a1 ([] : List (List Int)) 0
theorem spec_bkTable.mono_l : ∀ k, (∀ y0 y1 y2 y3, LeO (spec_bkTable.l0 k y0 y1 y2 y3) (spec_bkTable.l0 (k + 1) y0 y1 y2 y3)) ∧ (∀ y0 y1 y2 y3, LeO (spec_bkTable.l1 k y0 y1 y2 y3) (spec_bkTable.l1 (k + 1) y0 y1 y2 y3)) ∧ (∀ y0 y1 y2 y3 y4, LeO (spec_bkTable.l2 k y0 y1 y2 y3 y4) (spec_bkTable.l2 (k + 1) y0 y1 y2 y3 y4))
 | 0 => ⟨by intros; intro r h; simp [spec_bkTable.l0] at h, by intros; intro r h; simp [spec_bkTable.l1] at h, by intros; intro r h; simp [spec_bkTable.l2] at h⟩
 | k + 1 => by
  obtain ⟨ih0, ih1, ih2⟩ := spec_bkTable.mono_l k
  refine ⟨?_, ?_, ?_⟩
  ·
   intro y0 y1 y2 y3
   unfold spec_bkTable.l0
   repeat' first
   | (with_reducible exact ih0 _ _ _ _)
   | (with_reducible exact ih1 _ _ _ _)
   | (with_reducible exact ih2 _ _ _ _ _)
   | (with_reducible exact LeO.refl _)
   | (with_reducible exact LeO.none _)
   | (with_reducible refine LeO.ite ?_ ?_)
   | (with_reducible refine LeO.bind ?_ (fun _ => ?_))
   | exact ih0 _ _ _ _
   | exact ih1 _ _ _ _
   | exact ih2 _ _ _ _ _
   | exact LeO.none _
   | refine LeO.ite ?_ ?_
   | refine LeO.bind ?_ (fun _ => ?_)
  ·
   intro y0 y1 y2 y3
   unfold spec_bkTable.l1
   repeat' first
   | (with_reducible exact ih0 _ _ _ _)
   | (with_reducible exact ih1 _ _ _ _)
   | (with_reducible exact ih2 _ _ _ _ _)
   | (with_reducible exact LeO.refl _)
   | (with_reducible exact LeO.none _)
   | (with_reducible refine LeO.ite ?_ ?_)
   | (with_reducible refine LeO.bind ?_ (fun _ => ?_))
   | exact ih0 _ _ _ _
   | exact ih1 _ _ _ _
   | exact ih2 _ _ _ _ _
   | exact LeO.none _
   | refine LeO.ite ?_ ?_
   | refine LeO.bind ?_ (fun _ => ?_)
  ·
   intro y0 y1 y2 y3 y4
   unfold spec_bkTable.l2
   repeat' first
   | (with_reducible exact ih0 _ _ _ _)
   | (with_reducible exact ih1 _ _ _ _)
   | (with_reducible exact ih2 _ _ _ _ _)
   | (with_reducible exact LeO.refl _)
   | (with_reducible exact LeO.none _)
   | (with_reducible refine LeO.ite ?_ ?_)
   | (with_reducible refine LeO.bind ?_ (fun _ => ?_))
   | exact ih0 _ _ _ _
   | exact ih1 _ _ _ _
   | exact ih2 _ _ _ _ _
   | exact LeO.none _
   | refine LeO.ite ?_ ?_
   | refine LeO.bind ?_ (fun _ => ?_)
theorem spec_bkTable.mono : ∀ y0 y1 k, LeO (spec_bkTable.f k y0 y1) (spec_bkTable.f (k + 1) y0 y1) := by
 intro y0 y1 k
 obtain ⟨ih0, ih1, ih2⟩ := spec_bkTable.mono_l k
 unfold spec_bkTable.f
 repeat' first
   | (with_reducible exact ih0 _ _ _ _)
   | (with_reducible exact ih1 _ _ _ _)
   | (with_reducible exact ih2 _ _ _ _ _)
   | (with_reducible exact LeO.refl _)
   | (with_reducible exact LeO.none _)
   | (with_reducible refine LeO.ite ?_ ?_)
   | (with_reducible refine LeO.bind ?_ (fun _ => ?_))
   | exact ih0 _ _ _ _
   | exact ih1 _ _ _ _
   | exact ih2 _ _ _ _ _
   | exact LeO.none _
   | refine LeO.ite ?_ ?_
   | refine LeO.bind ?_ (fun _ => ?_)
theorem spec_bkTable_alkeep {W w1 : World} {a : Addr} {v : Value} {g : Nat} (hg : W.grownBy w1 (some g)) (hne : a.block ≠ g) (h : W.cell? a = some v) : w1.cell? a = some v := by
 have hb := hg.block a.block (World.block_lt_of_cell? W _ h) (by simpa using hne)
 unfold World.cell? at h ⊢
 rw [hb]; exact h
theorem spec_bkTable_alfr {w w' : World} {m : Nat} {a : Addr} {b : Bool} (hq : w.drewN m = w') (h : w.frozen? a = b) : w'.frozen? a = b := by subst hq; exact h
theorem spec_bkTable_alne {ad : Addr} {n cap g j : Nat} (h : some g ≠ (Value.slice (some ad) n cap).ownBlock) : (ad.add j).block ≠ g := by
 intro e
 apply h
 rw [add_block] at e
 simp [Value.ownBlock, e]
theorem spec_bkTable_alst {W : World} {base : Nat} {ad : Addr} {n cap : Nat} {xs : List (List Int)} {i : Int} {g c : Nat} {k x : Int} (h : Kd.S (Kd.slice 3 (Kd.int .i64)) 43 W base (fun _ => True) (.slice (some ad) n cap) xs) (h0 : 0 ≤ i) (h1 : i < n) (hc : W.cell? (ad.add i.toNat) = some (.slice (some ⟨g, 0, none⟩) (rd_L1 xs i).length c)) :
  Kd.S (Kd.slice 3 (Kd.int .i64)) 43 (W.setCell ⟨g, k.toNat, none⟩ (.int .i64 x)) base (fun _ => True) (.slice (some ad) n cap) (xs.set i.toNat ((rd_L1 xs i).set k.toNat x)) ∧ (W.setCell ⟨g, k.toNat, none⟩ (.int .i64 x)).cell? (ad.add i.toNat) = some (.slice (some ⟨g, 0, none⟩) (rd_L1 xs i).length c) ∧ base ≤ g := by
 obtain ⟨oki, c_, hcl, hM, hcc, hok, hbk⟩ := Kd.S_borrow h [] i h0 h1
 obtain ⟨ve, rfl, ge⟩ := hM
 have hv := hcc 0 _ rfl
 rw [Nat.add_zero, show ((Kd.slice 3 (Kd.int .i64))).sz = 1 from rfl, Nat.mul_one] at hv
 replace hv := Option.some.inj (hv.symm.trans hc)
 subst hv
 replace ge := (show Kd.R (Kd.int .i64) 3 _ _ _ _ (rd_L1 xs i) from ge)
 have HP := Kd.R_putg ge k x
 exact ⟨hbk HP.2 (fun k_ e_ => by injection e_ with e_; subst e_; exact ge.1 _ rfl) (Kd.M_row HP.1), spec_bkTable_alkeep HP.2 (spec_bkTable_alne (hok _ (ge.1 _ rfl)).2) hc, Kd.R_base ge _ rfl⟩
set_option maxHeartbeats 8000000 in
set_option maxRecDepth 100000 in
theorem spec_bkTable.calls (k : Nat) (a0 : ByteArray) (a1 : ByteArray) (r : List (List Int)) (w : World) (h : spec_bkTable.f k a0 a1 = some r) :
  Calls Tryd.prog 39 #[.string a0, .string a1] w fun e w' => ∃ v0_ : Value, e = .returned (v0_) ∧ Kd.S (Kd.slice 3 (Kd.int .i64)) 43 w' w.heap.size (fun _ => True) v0_ r ∧ Below w.heap.size w w' := by
 have HB := Aside0.mk (Below.refl w.heap.size w)
 have H : (spec_bkTable.l0 k a0 a1 ([] : List (List Int)) 0) = some r := h
 clear h
 have H' := Aside0.mk H
 clear H
 go_enter Tryd.func39, Tryd.ntmps39
 go_wp2
 repeat (go_quiet (fail); try go_wp2)
 go_loopg [5, 6] k (fun kq v5 v6 w' => ∃ (x5_1 : List (List Int)) (x6_1 : Int), v6 = .int .i64 x6_1 ∧ Aside0 (spec_bkTable.l0 kq a0 a1 x5_1 x6_1 = some r) ∧ Aside0 (kq ≤ k) ∧ Aside0 (Kd.S (Kd.slice 3 (Kd.int .i64)) 43 w' w.heap.size (fun _ => True) v5 x5_1) ∧ Aside0 (Below w.heap.size w w'))
 case atStart => exact ⟨(([] : List (List Int))), (0), (by first | rfl | (simp; done) | (simp [*]; done)), H', ⟨Nat.le_refl _⟩, ⟨by first | exact Kd.S_nil _ _ _ _ _ | exact Kd.N_nil _ _ _ _ _ | exact Kd.V_nil _ _ _ _ _ | exact Kd.Q_nil _ _ _ _ _ | exact Kd.R_nil _ _ _ _ _⟩, ⟨by repeat (first | (with_reducible first | exact HB.out | apply below_alloc | apply pw_below_drewN | apply below_drew1) | exact HB.out)⟩⟩
 case round =>
  clear H'
  try clear p2
  obtain ⟨x5_1, x6_1, rfl, HA, HK1, HO_5, HB⟩ := hrel
  cases gk with
  | zero => exact absurd HA.out (by simp [spec_bkTable.l0])
  | succ k1 =>
   have H := HA.out
   clear HA
   simp only [spec_bkTable.l0] at H
   by_cases c3 : x6_1 ≤ (a0.size : Int)
   ·
    rw [if_pos c3] at H
    have c3b0 : decide (x6_1 ≤ (a0.size : Int)) = true := decide_eq_true c3
    clear c3
    obtain ⟨ji4, hji4⟩ : ∃ j_ : Int, (wrap64 ((a1.size : Int) + 1)) = j_ := ⟨_, rfl⟩
    replace H : (if 0 ≤ (ji4) then (if (ji4 : Int).toNat ≤ 35184372088832 then (if x5_1.length < 5864062014805 then (spec_bkTable.l0 k1 a0 a1 (x5_1 ++ [(List.replicate (ji4 : Int).toNat 0)]) (wrap64 (x6_1 + 1))) else (none)) else (none)) else (none)) = some r := by first | (rw [hji4] at H; exact H) | (simp only [hji4] at H ⊢; exact H)
    have hji4w : (IntKind.i64.wrap ((a1.size : Int) + 1)) = ji4 := (i64_w _).trans hji4
    by_cases c5 : 0 ≤ (ji4)
    ·
     rw [if_pos c5] at H
     have c5b0 := eq_true c5
     have c5b1 : decide (0 ≤ (ji4)) = true := decide_eq_true c5
     clear c5
     by_cases c6 : (ji4 : Int).toNat ≤ 35184372088832
     ·
      rw [if_pos c6] at H
      have c6b0 := eq_true c6
      have c6b1 : decide ((ji4 : Int).toNat ≤ 35184372088832) = true := decide_eq_true c6
      clear c6
      obtain ⟨y101, hy101⟩ : ∃ y_ : List Int, y_ = (List.replicate (ji4 : Int).toNat 0) := ⟨_, rfl⟩
      replace H : (if x5_1.length < 5864062014805 then (spec_bkTable.l0 k1 a0 a1 (x5_1 ++ [y101]) (wrap64 (x6_1 + 1))) else (none)) = some r := by first | (rw [hy101]; with_reducible exact H) | (have H2_ := (Option.bind_some _ _).symm.trans H; rw [hy101]; with_reducible exact H2_) | (have H2_ := (Option.bind_some _ _).symm.trans H; with_reducible exact H2_) | with_reducible exact H | (rw [hy101]; exact H) | exact H
      have Ny101 := Aside0.mk hy101
      clear hy101
      by_cases c7 : x5_1.length < 5864062014805
      ·
       rw [if_pos c7] at H
       have LMc7 := Aside0.mk c7
       clear c7
       obtain ⟨y104, hy104⟩ : ∃ y_ : List (List Int), y_ = (x5_1 ++ [y101]) := ⟨_, rfl⟩
       replace H : (spec_bkTable.l0 k1 a0 a1 y104 (wrap64 (x6_1 + 1))) = some r := by first | (rw [hy104]; with_reducible exact H) | (have H2_ := (Option.bind_some _ _).symm.trans H; rw [hy104]; with_reducible exact H2_) | (have H2_ := (Option.bind_some _ _).symm.trans H; with_reducible exact H2_) | with_reducible exact H | (rw [hy104]; exact H) | exact H
       have Ny104 := Aside0.mk hy104
       clear hy104
       have H' := Aside0.mk H
       clear H
       go_wp2_with (first | ((with_reducible refine gate_dst (N := 22) rfl ?_); refine Kd.R_make (Kd.int .i64) _ 3 rfl (N := 22) rfl 43 _ _ rfl ji4 rfl rfl Tryd.underlying43 (.int .i64 0) 8 info3 rfl (by decide) (by omega) 0 (ok := fun _ => True) (okp := fun _ => True) rfl (fun _ hk => hk) trivial (of_decide_eq_true (by first | (with_reducible assumption) | assumption)) (Nat.le_trans (Nat.mul_le_mul_right _ (of_decide_eq_true (by first | (with_reducible assumption) | assumption) : ji4.toNat ≤ 35184372088832)) (by omega)) (Below.refl _ _) (Nat.le_refl _) ?_; intro v102 w8 ho9 hb hg_ hnew_; clear hg_ hnew_; (first | rw [← Ny101.out] at ho9 | (simp only [Int.reduceToNat] at ho9; rw [← Ny101.out] at ho9)); have n0_ := Aside0.mk (Kd.S_elder' (by (with_reducible repeat (first | apply Kd.S_alloc | apply Kd.S_drewN | apply Kd.S_drew)); exact HO_5.out) (Kd.R_base ho9) hb); have n1_ := Aside0.mk (Kd.R_lower ho9 (below_size (by repeat (first | (with_reducible first | exact HB.out | apply below_alloc | apply pw_below_drewN | apply below_drew1) | exact HB.out)))); have n2_ := Aside0.mk (below_step (by repeat (first | (with_reducible first | exact HB.out | apply below_alloc | apply pw_below_drewN | apply below_drew1) | exact HB.out)) hb); clear HO_5; clear HB; have HO_5 := n0_; have HO103 := n1_; have HB := n2_; clear n0_ n1_ n2_; clear hb ho9; obtain ⟨Ao11, co11, eo11⟩ := Kd.R_slice HO103.out; subst eo11) | ((with_reducible refine gate_builtin (b := .append) (xs := #[.tmp 18, .tmp 23]) rfl ?_); at_builtin; refine Kd.S_append (Kd.slice 3 (Kd.int .i64)) (w0 := w) w.heap.size rfl (.tmp 18) (.tmp 23) 44 43 (.slice none 0 0) 24 rfl Tryd.underlying44 info43 rfl (by decide) (by omega) u5 x5_1 y101 [.slice Ao11 y101.length co11] (fun _ => True) (fun k_ => some k_ = (.slice Ao11 y101.length co11 : Value).ownBlock) rfl rfl ?aP (fun k_ hk_ => ((Kd.R_mono (ok' := fun k_ => ((fun _ => True)) k_ ∧ some k_ ≠ (u5 : Value).ownBlock) (Kd.R_apart' (HO103.out) (Kd.S_typed HO_5.out) (by decide)) (fun k_ hk => ⟨trivial, hk.2⟩))).1 k_ hk_.symm) ?aF ?aO ?aB ?aS ?aL ?_; (case aP => exact Kd.M_row (Kd.R_mono (Kd.R_tight rfl (Kd.R_mono (ok' := fun k_ => ((fun _ => True)) k_ ∧ some k_ ≠ (u5 : Value).ownBlock) (Kd.R_apart' (HO103.out) (Kd.S_typed HO_5.out) (by decide)) (fun k_ hk => ⟨trivial, hk.2⟩))) (fun _ h_ => h_))); (case aB => exact (by repeat (first | (with_reducible first | exact HB.out | apply below_alloc | apply pw_below_drewN | apply below_drew1) | exact HB.out))); (case aF => exact (fun _ _ => trivial)); (case aO => exact (by (with_reducible repeat (first | apply Kd.S_alloc | apply Kd.S_drewN | apply Kd.S_drew)); exact Kd.S_mono HO_5.out (fun k_ hk => ⟨trivial, fun e_ => hk.2 e_⟩))); (case aS => exact (below_size (by repeat (first | (with_reducible first | exact HB.out | apply below_alloc | apply pw_below_drewN | apply below_drew1) | exact HB.out)))); (case aL => have := LMc7.out; omega); intro v105 w10 ho hb hg hat; rw [← Ny104.out] at ho; have n0_ := Aside0.mk (hb); have n1_ := Aside0.mk (ho); clear HB; clear HO_5; clear HO103; have HB := n0_; have HO106 := n1_; clear n0_ n1_; clear ho hb hg hat))
       repeat (go_quiet (first | ((with_reducible refine gate_dst (N := 22) rfl ?_); refine Kd.R_make (Kd.int .i64) _ 3 rfl (N := 22) rfl 43 _ _ rfl ji4 rfl rfl Tryd.underlying43 (.int .i64 0) 8 info3 rfl (by decide) (by omega) 0 (ok := fun _ => True) (okp := fun _ => True) rfl (fun _ hk => hk) trivial (of_decide_eq_true (by first | (with_reducible assumption) | assumption)) (Nat.le_trans (Nat.mul_le_mul_right _ (of_decide_eq_true (by first | (with_reducible assumption) | assumption) : ji4.toNat ≤ 35184372088832)) (by omega)) (Below.refl _ _) (Nat.le_refl _) ?_; intro v102 w8 ho9 hb hg_ hnew_; clear hg_ hnew_; (first | rw [← Ny101.out] at ho9 | (simp only [Int.reduceToNat] at ho9; rw [← Ny101.out] at ho9)); have n0_ := Aside0.mk (Kd.S_elder' (by (with_reducible repeat (first | apply Kd.S_alloc | apply Kd.S_drewN | apply Kd.S_drew)); exact HO_5.out) (Kd.R_base ho9) hb); have n1_ := Aside0.mk (Kd.R_lower ho9 (below_size (by repeat (first | (with_reducible first | exact HB.out | apply below_alloc | apply pw_below_drewN | apply below_drew1) | exact HB.out)))); have n2_ := Aside0.mk (below_step (by repeat (first | (with_reducible first | exact HB.out | apply below_alloc | apply pw_below_drewN | apply below_drew1) | exact HB.out)) hb); clear HO_5; clear HB; have HO_5 := n0_; have HO103 := n1_; have HB := n2_; clear n0_ n1_ n2_; clear hb ho9; obtain ⟨Ao11, co11, eo11⟩ := Kd.R_slice HO103.out; subst eo11) | ((with_reducible refine gate_builtin (b := .append) (xs := #[.tmp 18, .tmp 23]) rfl ?_); at_builtin; refine Kd.S_append (Kd.slice 3 (Kd.int .i64)) (w0 := w) w.heap.size rfl (.tmp 18) (.tmp 23) 44 43 (.slice none 0 0) 24 rfl Tryd.underlying44 info43 rfl (by decide) (by omega) u5 x5_1 y101 [.slice Ao11 y101.length co11] (fun _ => True) (fun k_ => some k_ = (.slice Ao11 y101.length co11 : Value).ownBlock) rfl rfl ?aP (fun k_ hk_ => ((Kd.R_mono (ok' := fun k_ => ((fun _ => True)) k_ ∧ some k_ ≠ (u5 : Value).ownBlock) (Kd.R_apart' (HO103.out) (Kd.S_typed HO_5.out) (by decide)) (fun k_ hk => ⟨trivial, hk.2⟩))).1 k_ hk_.symm) ?aF ?aO ?aB ?aS ?aL ?_; (case aP => exact Kd.M_row (Kd.R_mono (Kd.R_tight rfl (Kd.R_mono (ok' := fun k_ => ((fun _ => True)) k_ ∧ some k_ ≠ (u5 : Value).ownBlock) (Kd.R_apart' (HO103.out) (Kd.S_typed HO_5.out) (by decide)) (fun k_ hk => ⟨trivial, hk.2⟩))) (fun _ h_ => h_))); (case aB => exact (by repeat (first | (with_reducible first | exact HB.out | apply below_alloc | apply pw_below_drewN | apply below_drew1) | exact HB.out))); (case aF => exact (fun _ _ => trivial)); (case aO => exact (by (with_reducible repeat (first | apply Kd.S_alloc | apply Kd.S_drewN | apply Kd.S_drew)); exact Kd.S_mono HO_5.out (fun k_ hk => ⟨trivial, fun e_ => hk.2 e_⟩))); (case aS => exact (below_size (by repeat (first | (with_reducible first | exact HB.out | apply below_alloc | apply pw_below_drewN | apply below_drew1) | exact HB.out)))); (case aL => have := LMc7.out; omega); intro v105 w10 ho hb hg hat; rw [← Ny104.out] at ho; have n0_ := Aside0.mk (hb); have n1_ := Aside0.mk (ho); clear HB; clear HO_5; clear HO103; have HB := n0_; have HO106 := n1_; clear n0_ n1_; clear ho hb hg hat)); try go_wp2_with (first | ((with_reducible refine gate_dst (N := 22) rfl ?_); refine Kd.R_make (Kd.int .i64) _ 3 rfl (N := 22) rfl 43 _ _ rfl ji4 rfl rfl Tryd.underlying43 (.int .i64 0) 8 info3 rfl (by decide) (by omega) 0 (ok := fun _ => True) (okp := fun _ => True) rfl (fun _ hk => hk) trivial (of_decide_eq_true (by first | (with_reducible assumption) | assumption)) (Nat.le_trans (Nat.mul_le_mul_right _ (of_decide_eq_true (by first | (with_reducible assumption) | assumption) : ji4.toNat ≤ 35184372088832)) (by omega)) (Below.refl _ _) (Nat.le_refl _) ?_; intro v102 w8 ho9 hb hg_ hnew_; clear hg_ hnew_; (first | rw [← Ny101.out] at ho9 | (simp only [Int.reduceToNat] at ho9; rw [← Ny101.out] at ho9)); have n0_ := Aside0.mk (Kd.S_elder' (by (with_reducible repeat (first | apply Kd.S_alloc | apply Kd.S_drewN | apply Kd.S_drew)); exact HO_5.out) (Kd.R_base ho9) hb); have n1_ := Aside0.mk (Kd.R_lower ho9 (below_size (by repeat (first | (with_reducible first | exact HB.out | apply below_alloc | apply pw_below_drewN | apply below_drew1) | exact HB.out)))); have n2_ := Aside0.mk (below_step (by repeat (first | (with_reducible first | exact HB.out | apply below_alloc | apply pw_below_drewN | apply below_drew1) | exact HB.out)) hb); clear HO_5; clear HB; have HO_5 := n0_; have HO103 := n1_; have HB := n2_; clear n0_ n1_ n2_; clear hb ho9; obtain ⟨Ao11, co11, eo11⟩ := Kd.R_slice HO103.out; subst eo11) | ((with_reducible refine gate_builtin (b := .append) (xs := #[.tmp 18, .tmp 23]) rfl ?_); at_builtin; refine Kd.S_append (Kd.slice 3 (Kd.int .i64)) (w0 := w) w.heap.size rfl (.tmp 18) (.tmp 23) 44 43 (.slice none 0 0) 24 rfl Tryd.underlying44 info43 rfl (by decide) (by omega) u5 x5_1 y101 [.slice Ao11 y101.length co11] (fun _ => True) (fun k_ => some k_ = (.slice Ao11 y101.length co11 : Value).ownBlock) rfl rfl ?aP (fun k_ hk_ => ((Kd.R_mono (ok' := fun k_ => ((fun _ => True)) k_ ∧ some k_ ≠ (u5 : Value).ownBlock) (Kd.R_apart' (HO103.out) (Kd.S_typed HO_5.out) (by decide)) (fun k_ hk => ⟨trivial, hk.2⟩))).1 k_ hk_.symm) ?aF ?aO ?aB ?aS ?aL ?_; (case aP => exact Kd.M_row (Kd.R_mono (Kd.R_tight rfl (Kd.R_mono (ok' := fun k_ => ((fun _ => True)) k_ ∧ some k_ ≠ (u5 : Value).ownBlock) (Kd.R_apart' (HO103.out) (Kd.S_typed HO_5.out) (by decide)) (fun k_ hk => ⟨trivial, hk.2⟩))) (fun _ h_ => h_))); (case aB => exact (by repeat (first | (with_reducible first | exact HB.out | apply below_alloc | apply pw_below_drewN | apply below_drew1) | exact HB.out))); (case aF => exact (fun _ _ => trivial)); (case aO => exact (by (with_reducible repeat (first | apply Kd.S_alloc | apply Kd.S_drewN | apply Kd.S_drew)); exact Kd.S_mono HO_5.out (fun k_ hk => ⟨trivial, fun e_ => hk.2 e_⟩))); (case aS => exact (below_size (by repeat (first | (with_reducible first | exact HB.out | apply below_alloc | apply pw_below_drewN | apply below_drew1) | exact HB.out)))); (case aL => have := LMc7.out; omega); intro v105 w10 ho hb hg hat; rw [← Ny104.out] at ho; have n0_ := Aside0.mk (hb); have n1_ := Aside0.mk (ho); clear HB; clear HO_5; clear HO103; have HB := n0_; have HO106 := n1_; clear n0_ n1_; clear ho hb hg hat)))
       go_roundg k1
       case measure => have := HK1.out; omega
       case rel => exact ⟨(y104), (wrap64 (x6_1 + 1)), (by first | rfl | (simp; done) | (simp [*]; done)), H', ⟨by have := HK1.out; omega⟩, ⟨by (with_reducible repeat (first | apply Kd.S_alloc | apply Kd.S_drewN | apply Kd.S_drew)); exact HO106.out⟩, ⟨by repeat (first | (with_reducible first | exact HB.out | apply below_alloc | apply pw_below_drewN | apply below_drew1) | exact HB.out)⟩⟩
      ·
       rw [if_neg c7] at H
       exact absurd H (by simp)
     ·
      rw [if_neg c6] at H
      exact absurd H (by simp)
    ·
     rw [if_neg c5] at H
     exact absurd H (by simp)
   ·
    rw [if_neg c3] at H
    have c3b0 : decide (x6_1 ≤ (a0.size : Int)) = false := decide_eq_false c3
    clear c3
    have H' := Aside0.mk H
    clear H
    go_wp2
    repeat (go_quiet (fail); try go_wp2)
    go_loopg [7] k1 (fun kq v7 w' => ∃ (x5_2 : List (List Int)) (x7_2 : Int), v7 = .int .i64 x7_2 ∧ Aside0 (spec_bkTable.l1 kq a0 a1 x5_2 x7_2 = some r) ∧ Aside0 (kq ≤ k1) ∧ Aside0 (Kd.S (Kd.slice 3 (Kd.int .i64)) 43 w' w.heap.size (fun _ => True) u5 x5_2) ∧ Aside0 (Below w.heap.size w w'))
    case atStart => exact ⟨(x5_1), ((a0.size : Int)), (by first | rfl | (simp; done) | (simp [*]; done)), H', ⟨Nat.le_refl _⟩, ⟨by (with_reducible repeat (first | apply Kd.S_alloc | apply Kd.S_drewN | apply Kd.S_drew)); exact HO_5.out⟩, ⟨by repeat (first | (with_reducible first | exact HB.out | apply below_alloc | apply pw_below_drewN | apply below_drew1) | exact HB.out)⟩⟩
    case round =>
     clear H'
     try clear p2
     try clear c3
     try clear c3b0
     try clear c5
     try clear c5b0
     try clear c5b1
     try clear c6
     try clear c6b0
     try clear c6b1
     try clear p6
     try clear c7
     try clear p2
     obtain ⟨x5_2, x7_2, rfl, HA, HK2, HO_5, HB⟩ := hrel
     cases gk with
     | zero => exact absurd HA.out (by simp [spec_bkTable.l1])
     | succ k2 =>
      have H := HA.out
      clear HA
      simp only [spec_bkTable.l1] at H
      by_cases c12 : x7_2 ≥ 0
      ·
       rw [if_pos c12] at H
       have c12b0 : decide (0 ≤ x7_2) = true := decide_eq_true c12
       clear c12
       by_cases c13 : 0 ≤ x7_2
       ·
        rw [if_pos c13] at H
        have c13b0 : decide (0 ≤ x7_2) = true := decide_eq_true c13
        clear c13
        by_cases c14 : x7_2 < (x5_2.length : Int)
        ·
         rw [if_pos c14] at H
         have c14b0 : decide (x7_2 < (x5_2.length : Int)) = true := decide_eq_true c14
         clear c14
         have H' := Aside0.mk H
         clear H
         obtain ⟨Ao15, co15, eo15⟩ := Kd.S_slice HO_5.out
         subst eo15
         have p107 : 0 ≤ (x7_2 : Int) := of_decide_eq_true (by first | (with_reducible assumption) | assumption)
         have q107 : x7_2 < (x5_2.length : Int) := of_decide_eq_true (by first | (with_reducible assumption) | assumption)
         obtain ⟨ad107, A107_0, c107_0, e107, hx107_0, hl107_0, hi107_0⟩ := at_L1 (Kd.S_reads' HO_5.out).2.2 x7_2 p107 q107
         cases e107
         obtain ⟨ce107, hce107, hMe107, hcc107⟩ := Kd.S_get HO_5.out [] x7_2 p107 (by first | exact q107 | exact of_decide_eq_true (by first | (with_reducible assumption) | assumption) | (have e_ := (Kd.S_reads' HO_5.out).1; omega))
         obtain ⟨ve107_0, rfl, ge107_0⟩ := hMe107
         have hv107_0 := hcc107 0 _ rfl
         rw [Nat.add_zero, show ((Kd.slice 3 (Kd.int .i64))).sz = 1 from rfl, Nat.mul_one] at hv107_0
         replace hv107_0 := Option.some.inj (hv107_0.symm.trans hx107_0)
         rw [hv107_0] at ge107_0
         have HL107_0 := Aside0.mk (show Kd.R (Kd.int .i64) 3 _ _ _ _ (rd_L1 x5_2 x7_2) from ge107_0)
         clear hv107_0 ge107_0
         have HX107_0 := Aside0.mk hx107_0
         clear hcc107 hce107
         have HR107_0 := Aside0.mk hi107_0
         have HC107_0 := Aside0.mk hl107_0
         clear hi107_0 hl107_0
         replace p107 := eq_true p107
         replace q107 := eq_true q107
         go_wp2
         repeat (go_quiet (fail); try go_wp2)
         generalize hu8_ : (Value.slice A107_0 (rd_L1 x5_2 x7_2).length c107_0) = ual8
         have HE8 := Aside0.mk (HX107_0.out.trans (congrArg some hu8_))
         clear hu8_
         go_loopg [9] k2 (fun kq v9 w' => ∃ (x5_3 : List (List Int)) (x9_3 : Int), v9 = .int .i64 x9_3 ∧ Aside0 (spec_bkTable.l2 kq a0 a1 x5_3 x7_2 x9_3 = some r) ∧ Aside0 (kq ≤ k2) ∧ Aside0 (Kd.S (Kd.slice 3 (Kd.int .i64)) 43 w' w.heap.size (fun _ => True) (.slice (some ad107) x5_2.length co15) x5_3) ∧ Aside0 (Below w.heap.size w w') ∧ Aside0 (w'.cell? (ad107.add (x7_2 : Int).toNat) = some ual8))
         case atStart => exact ⟨(x5_2), ((a1.size : Int)), (by first | rfl | (simp; done) | (simp [*]; done)), H', ⟨Nat.le_refl _⟩, ⟨by (with_reducible repeat (first | apply Kd.S_alloc | apply Kd.S_drewN | apply Kd.S_drew)); exact HO_5.out⟩, ⟨by repeat (first | (with_reducible first | exact HB.out | apply below_alloc | apply pw_below_drewN | apply below_drew1) | exact HB.out)⟩, ⟨by exact HE8.out⟩⟩
         case round =>
          clear H'
          try clear c1
          try clear p1
          try clear q1
          try clear hx1
          try clear p2
          try clear c3
          try clear c3b0
          try clear c5
          try clear c5b0
          try clear c5b1
          try clear c6
          try clear c6b0
          try clear c6b1
          try clear p6
          try clear c7
          try clear c10
          try clear p10
          try clear q10
          try clear hx10
          try clear c12
          try clear c12b0
          try clear c13
          try clear c13b0
          try clear c14
          try clear c14b0
          try clear hx107_0
          try clear p107
          try clear p2
          try clear p6
          try clear q107
          obtain ⟨x5_3, x9_3, rfl, HA, HK3, HO_5, HB, HE8⟩ := hrel
          have hl5_3 := (Kd.S_reads' HO_5.out).1
          rw [hl5_3] at HO_5
          (try simp only [hl5_3])
          cases gk with
          | zero => exact absurd HA.out (by simp [spec_bkTable.l2])
          | succ k3 =>
           have H := HA.out
           clear HA
           simp only [spec_bkTable.l2] at H
           by_cases c16 : x9_3 ≥ 0
           ·
            rw [if_pos c16] at H
            have c16b0 : decide (0 ≤ x9_3) = true := decide_eq_true c16
            clear c16
            by_cases c17 : x7_2 = (a0.size : Int)
            ·
             rw [if_pos c17] at H
             have c17b0 : (x7_2 == (a0.size : Int)) = true := beq_iff_eq.mpr c17
             have c17b1 : (x7_2 != (a0.size : Int)) = false := bne_eq_false_iff_eq.mpr c17
             clear c17
             by_cases c18 : 0 ≤ x7_2
             ·
              rw [if_pos c18] at H
              have c18b0 : decide (0 ≤ x7_2) = true := decide_eq_true c18
              clear c18
              by_cases c19 : x7_2 < (x5_3.length : Int)
              ·
               rw [if_pos c19] at H
               have c19b0 : decide (x7_2 < (x5_3.length : Int)) = true := decide_eq_true c19
               (try (have c19b0_ := c19b0; rw [hl5_3] at c19b0_))
               clear c19
               by_cases c20 : 0 ≤ x9_3
               ·
                rw [if_pos c20] at H
                have c20b0 : decide (0 ≤ x9_3) = true := decide_eq_true c20
                clear c20
                by_cases c21 : x9_3 < ((rd_L1 x5_3 x7_2).length : Int)
                ·
                 rw [if_pos c21] at H
                 have c21b0 : decide (x9_3 < ((rd_L1 x5_3 x7_2).length : Int)) = true := decide_eq_true c21
                 (try (have c21b0_ := c21b0; rw [hl5_3] at c21b0_))
                 clear c21
                 obtain ⟨y109, hy109⟩ : ∃ y_ : List Int, y_ = ((rd_L1 x5_3 x7_2).set (x9_3 : Int).toNat (wrap64 ((a1.size : Int) - x9_3))) := ⟨_, rfl⟩
                 replace H : (spec_bkTable.l2 k3 a0 a1 (x5_3.set (x7_2 : Int).toNat y109) x7_2 (wrap64 (x9_3 - 1))) = some r := by first | (rw [hy109]; with_reducible exact H) | (have H2_ := (Option.bind_some _ _).symm.trans H; rw [hy109]; with_reducible exact H2_) | (have H2_ := (Option.bind_some _ _).symm.trans H; with_reducible exact H2_) | with_reducible exact H | (rw [hy109]; exact H) | exact H
                 have Ny109 := Aside0.mk hy109
                 clear hy109
                 obtain ⟨y111, hy111⟩ : ∃ y_ : List (List Int), y_ = (x5_3.set (x7_2 : Int).toNat y109) := ⟨_, rfl⟩
                 replace H : (spec_bkTable.l2 k3 a0 a1 y111 x7_2 (wrap64 (x9_3 - 1))) = some r := by first | (rw [hy111]; with_reducible exact H) | (have H2_ := (Option.bind_some _ _).symm.trans H; rw [hy111]; with_reducible exact H2_) | (have H2_ := (Option.bind_some _ _).symm.trans H; with_reducible exact H2_) | with_reducible exact H | (rw [hy111]; exact H) | exact H
                 have Ny111 := Aside0.mk hy111
                 clear hy111
                 have H' := Aside0.mk H
                 clear H
                 have p108 : 0 ≤ (x7_2 : Int) := of_decide_eq_true (by first | (with_reducible assumption) | assumption)
                 have q108 : x7_2 < (x5_3.length : Int) := of_decide_eq_true (by first | (with_reducible assumption) | assumption)
                 obtain ⟨ad108, A108_0, c108_0, e108, hx108_0, hl108_0, hi108_0⟩ := at_L1 (Kd.S_reads' HO_5.out).2.2 x7_2 p108 q108
                 obtain rfl : ad107 = ad108 := (by injection e108)
                 obtain ⟨ce108, hce108, hMe108, hcc108⟩ := Kd.S_get HO_5.out [] x7_2 p108 (by first | exact q108 | exact of_decide_eq_true (by first | (with_reducible assumption) | assumption) | (have e_ := (Kd.S_reads' HO_5.out).1; omega))
                 obtain ⟨ve108_0, rfl, ge108_0⟩ := hMe108
                 have hv108_0 := hcc108 0 _ rfl
                 rw [Nat.add_zero, show ((Kd.slice 3 (Kd.int .i64))).sz = 1 from rfl, Nat.mul_one] at hv108_0
                 replace hv108_0 := Option.some.inj (hv108_0.symm.trans hx108_0)
                 rw [hv108_0] at ge108_0
                 have HL108_0 := Aside0.mk (show Kd.R (Kd.int .i64) 3 _ _ _ _ (rd_L1 x5_3 x7_2) from ge108_0)
                 clear hv108_0 ge108_0
                 have HX108_0 := Aside0.mk hx108_0
                 (try (have eal_ := Option.some.inj (HE8.out.symm.trans hx108_0)))
                 (try subst eal_)
                 clear hcc108 hce108
                 have HR108_0 := Aside0.mk hi108_0
                 have HC108_0 := Aside0.mk hl108_0
                 clear hi108_0 hl108_0
                 replace p108 := eq_true p108
                 replace q108 := eq_true q108
                 have p22 : 0 ≤ (x9_3 : Int) := of_decide_eq_true (by first | (with_reducible assumption) | assumption)
                 have q22 : (x9_3 : Int) < (((rd_L1 x5_3 x7_2).length : Int) : Int) := of_decide_eq_true (by first | (with_reducible assumption) | assumption)
                 obtain ⟨go22, co22, eo22, gb22, gl22, cl22, HG22⟩ := Kd.R_form HL108_0.out (by omega)
                 (first | cases eo22 | (injection eo22 with ea_ en_ ec_; (first | subst ea_ | (injection ea_ with ea_; subst ea_)); subst ec_; clear en_))
                 have GB22 := Aside0.mk gb22
                 have GG22 := Aside0.mk HG22
                 clear gb22 gl22 HG22
                 obtain ⟨hx22_0, hf22_0⟩ := Kd.R_celln 0 HL108_0.out (x9_3 : Int) p22 q22
                 replace p22 := eq_true p22
                 replace q22 := eq_true q22
                 have hq23 : (x7_2 : Int) < (x5_3.length : Int) := (by have h_ : (x7_2 : Int) < ((x5_3.length : Int) : Int) := of_decide_eq_true (by first | (with_reducible assumption) | assumption); first | exact h_ | (have e_ := (Kd.S_reads' HO_5.out).1; omega) | simpa only [List.length_set, List.length_set] using h_)
                 obtain ⟨oki23, ce23, hcl23, hM23, hcc23, hok23, hbk23⟩ := Kd.S_borrow HO_5.out [] (x7_2 : Int) (of_decide_eq_true (by first | (with_reducible assumption) | assumption)) hq23
                 obtain ⟨ve23_0, rfl, ge23_0⟩ := hM23
                 have hv23 := hcc23 0 _ rfl
                 rw [Nat.add_zero, show ((Kd.slice 3 (Kd.int .i64))).sz = 1 from rfl, Nat.mul_one] at hv23
                 replace hv23 := Option.some.inj (hv23.symm.trans HX108_0.out)
                 subst hv23
                 clear hcc23 hcl23
                 replace ge23_0 := (show Kd.R (Kd.int .i64) 3 _ _ _ _ (rd_L1 x5_3 x7_2) from ge23_0)
                 have HP23 := Kd.R_putg ge23_0 (x9_3 : Int) (wrap64 ((a1.size : Int) - x9_3))
                 go_wp2_with (first | ((with_reducible refine gate_store (t := 3) (p := 90) rfl ?_); (try (rw [drewN_self wr]; generalize hq_ : World.drewN wr _ = wr; have n0_ := Aside0.mk (Kd.S_at hq_ HO_5.out); have n1_ := Aside0.mk (Kd.R_at hq_ HL108_0.out); have n2_ := Aside0.mk (below_at hq_ HB.out); have nx_ := Aside0.mk (cell_at hq_ HX108_0.out); clear HX108_0; have HX108_0 := nx_; clear nx_; have nf_ := spec_bkTable_alfr hq_ hf22_0; clear hf22_0; have hf22_0 := nf_; clear nf_; have ne8_ := Aside0.mk (cell_at hq_ HE8.out); clear HE8; have HE8 := ne8_; clear ne8_; clear hq_ HO_5 HL108_0 HB; have HO_5 := n0_; have HL108_0 := n1_; have HB := n2_; clear n0_ n1_ n2_; (try (have hq23 : (x7_2 : Int) < (x5_3.length : Int) := (by have h_ : (x7_2 : Int) < ((x5_3.length : Int) : Int) := of_decide_eq_true (by first | (with_reducible assumption) | assumption); first | exact h_ | (have e_ := (Kd.S_reads' HO_5.out).1; omega) | simpa only [List.length_set, List.length_set] using h_))); (try (obtain ⟨oki23, ce23, hcl23, hM23, hcc23, hok23, hbk23⟩ := Kd.S_borrow HO_5.out [] (x7_2 : Int) (of_decide_eq_true (by first | (with_reducible assumption) | assumption)) hq23)); (try (obtain ⟨ve23_0, rfl, ge23_0⟩ := hM23)); (try (have hv23 := hcc23 0 _ rfl)); (try (rw [Nat.add_zero, show ((Kd.slice 3 (Kd.int .i64))).sz = 1 from rfl, Nat.mul_one] at hv23)); (try (replace hv23 := Option.some.inj (hv23.symm.trans HX108_0.out))); (try (subst hv23)); (try (clear hcc23 hcl23)); (try (replace ge23_0 := (show Kd.R (Kd.int .i64) 3 _ _ _ _ (rd_L1 x5_3 x7_2) from ge23_0))); (try (have HP23 := Kd.R_putg ge23_0 (x9_3 : Int) (wrap64 ((a1.size : Int) - x9_3)))))); refine store_event (t := 3) (p := 90) (v := ?vo_w24) (w1 := (wr.setCell ⟨go22, (x9_3 : Int).toNat, none⟩ (.int .i64 (wrap64 ((a1.size : Int) - x9_3))))) ?hg ?ho ?hn ?hr ?_; (case ho => rfl); (case hg => rfl); (case hn => rfl); (case hr => first | (go_simp; done) | (go_simp; rfl)); intro w24 hw; have hg : wr.grownBy w24 (some go22) := (by rw [hw]; exact HP23.2); have hz_ : Kd.R (Kd.int .i64) 3 w24 w.heap.size oki23 (.slice (some ⟨go22, 0, none⟩) (rd_L1 x5_3 x7_2).length c108_0) y109 := (by rw [hw, Ny109.out]; exact HP23.1); have hp_ : Kd.S (Kd.slice 3 (Kd.int .i64)) 43 w24 w.heap.size (fun _ => True) (.slice (some ad107) x5_3.length co15) y111 := (by rw [Ny111.out]; exact hbk23 hg (fun k_ e_ => by injection e_ with e_; subst e_; exact ge23_0.1 _ rfl) (Kd.M_row hz_)); have hm_ := Kd.R_mono hz_ hok23; clear HP23 hbk23; have n0_ := Aside0.mk (hp_); have n1_ := Aside0.mk ((by rw [hw]; exact below_set (HB.out) GB22.out : Below w.heap.size w w24)); have n2_ := Aside0.mk (hm_); have n3_ := Aside0.mk ((Kd.R_reads' hm_).2.1); clear HO_5; clear HB; clear HL108_0; have HO_5 := n0_; have HB := n1_; have HL135 := n2_; have HC110 := n3_; clear n0_ n1_ n2_ n3_; have ne8_ := Aside0.mk (spec_bkTable_alkeep hg (spec_bkTable_alne (hok23 _ (ge23_0.1 _ rfl)).2) HE8.out); clear HE8; have HE8 := ne8_; clear ne8_; clear hg hw hp_ hz_ hm_ hok23))
                 repeat (go_quiet (first | ((with_reducible refine gate_store (t := 3) (p := 90) rfl ?_); (try (rw [drewN_self wr]; generalize hq_ : World.drewN wr _ = wr; have n0_ := Aside0.mk (Kd.S_at hq_ HO_5.out); have n1_ := Aside0.mk (Kd.R_at hq_ HL108_0.out); have n2_ := Aside0.mk (below_at hq_ HB.out); have nx_ := Aside0.mk (cell_at hq_ HX108_0.out); clear HX108_0; have HX108_0 := nx_; clear nx_; have nf_ := spec_bkTable_alfr hq_ hf22_0; clear hf22_0; have hf22_0 := nf_; clear nf_; have ne8_ := Aside0.mk (cell_at hq_ HE8.out); clear HE8; have HE8 := ne8_; clear ne8_; clear hq_ HO_5 HL108_0 HB; have HO_5 := n0_; have HL108_0 := n1_; have HB := n2_; clear n0_ n1_ n2_; (try (have hq23 : (x7_2 : Int) < (x5_3.length : Int) := (by have h_ : (x7_2 : Int) < ((x5_3.length : Int) : Int) := of_decide_eq_true (by first | (with_reducible assumption) | assumption); first | exact h_ | (have e_ := (Kd.S_reads' HO_5.out).1; omega) | simpa only [List.length_set, List.length_set] using h_))); (try (obtain ⟨oki23, ce23, hcl23, hM23, hcc23, hok23, hbk23⟩ := Kd.S_borrow HO_5.out [] (x7_2 : Int) (of_decide_eq_true (by first | (with_reducible assumption) | assumption)) hq23)); (try (obtain ⟨ve23_0, rfl, ge23_0⟩ := hM23)); (try (have hv23 := hcc23 0 _ rfl)); (try (rw [Nat.add_zero, show ((Kd.slice 3 (Kd.int .i64))).sz = 1 from rfl, Nat.mul_one] at hv23)); (try (replace hv23 := Option.some.inj (hv23.symm.trans HX108_0.out))); (try (subst hv23)); (try (clear hcc23 hcl23)); (try (replace ge23_0 := (show Kd.R (Kd.int .i64) 3 _ _ _ _ (rd_L1 x5_3 x7_2) from ge23_0))); (try (have HP23 := Kd.R_putg ge23_0 (x9_3 : Int) (wrap64 ((a1.size : Int) - x9_3)))))); refine store_event (t := 3) (p := 90) (v := ?vo_w24) (w1 := (wr.setCell ⟨go22, (x9_3 : Int).toNat, none⟩ (.int .i64 (wrap64 ((a1.size : Int) - x9_3))))) ?hg ?ho ?hn ?hr ?_; (case ho => rfl); (case hg => rfl); (case hn => rfl); (case hr => first | (go_simp; done) | (go_simp; rfl)); intro w24 hw; have hg : wr.grownBy w24 (some go22) := (by rw [hw]; exact HP23.2); have hz_ : Kd.R (Kd.int .i64) 3 w24 w.heap.size oki23 (.slice (some ⟨go22, 0, none⟩) (rd_L1 x5_3 x7_2).length c108_0) y109 := (by rw [hw, Ny109.out]; exact HP23.1); have hp_ : Kd.S (Kd.slice 3 (Kd.int .i64)) 43 w24 w.heap.size (fun _ => True) (.slice (some ad107) x5_3.length co15) y111 := (by rw [Ny111.out]; exact hbk23 hg (fun k_ e_ => by injection e_ with e_; subst e_; exact ge23_0.1 _ rfl) (Kd.M_row hz_)); have hm_ := Kd.R_mono hz_ hok23; clear HP23 hbk23; have n0_ := Aside0.mk (hp_); have n1_ := Aside0.mk ((by rw [hw]; exact below_set (HB.out) GB22.out : Below w.heap.size w w24)); have n2_ := Aside0.mk (hm_); have n3_ := Aside0.mk ((Kd.R_reads' hm_).2.1); clear HO_5; clear HB; clear HL108_0; have HO_5 := n0_; have HB := n1_; have HL135 := n2_; have HC110 := n3_; clear n0_ n1_ n2_ n3_; have ne8_ := Aside0.mk (spec_bkTable_alkeep hg (spec_bkTable_alne (hok23 _ (ge23_0.1 _ rfl)).2) HE8.out); clear HE8; have HE8 := ne8_; clear ne8_; clear hg hw hp_ hz_ hm_ hok23)); try go_wp2_with (first | ((with_reducible refine gate_store (t := 3) (p := 90) rfl ?_); (try (rw [drewN_self wr]; generalize hq_ : World.drewN wr _ = wr; have n0_ := Aside0.mk (Kd.S_at hq_ HO_5.out); have n1_ := Aside0.mk (Kd.R_at hq_ HL108_0.out); have n2_ := Aside0.mk (below_at hq_ HB.out); have nx_ := Aside0.mk (cell_at hq_ HX108_0.out); clear HX108_0; have HX108_0 := nx_; clear nx_; have nf_ := spec_bkTable_alfr hq_ hf22_0; clear hf22_0; have hf22_0 := nf_; clear nf_; have ne8_ := Aside0.mk (cell_at hq_ HE8.out); clear HE8; have HE8 := ne8_; clear ne8_; clear hq_ HO_5 HL108_0 HB; have HO_5 := n0_; have HL108_0 := n1_; have HB := n2_; clear n0_ n1_ n2_; (try (have hq23 : (x7_2 : Int) < (x5_3.length : Int) := (by have h_ : (x7_2 : Int) < ((x5_3.length : Int) : Int) := of_decide_eq_true (by first | (with_reducible assumption) | assumption); first | exact h_ | (have e_ := (Kd.S_reads' HO_5.out).1; omega) | simpa only [List.length_set, List.length_set] using h_))); (try (obtain ⟨oki23, ce23, hcl23, hM23, hcc23, hok23, hbk23⟩ := Kd.S_borrow HO_5.out [] (x7_2 : Int) (of_decide_eq_true (by first | (with_reducible assumption) | assumption)) hq23)); (try (obtain ⟨ve23_0, rfl, ge23_0⟩ := hM23)); (try (have hv23 := hcc23 0 _ rfl)); (try (rw [Nat.add_zero, show ((Kd.slice 3 (Kd.int .i64))).sz = 1 from rfl, Nat.mul_one] at hv23)); (try (replace hv23 := Option.some.inj (hv23.symm.trans HX108_0.out))); (try (subst hv23)); (try (clear hcc23 hcl23)); (try (replace ge23_0 := (show Kd.R (Kd.int .i64) 3 _ _ _ _ (rd_L1 x5_3 x7_2) from ge23_0))); (try (have HP23 := Kd.R_putg ge23_0 (x9_3 : Int) (wrap64 ((a1.size : Int) - x9_3)))))); refine store_event (t := 3) (p := 90) (v := ?vo_w24) (w1 := (wr.setCell ⟨go22, (x9_3 : Int).toNat, none⟩ (.int .i64 (wrap64 ((a1.size : Int) - x9_3))))) ?hg ?ho ?hn ?hr ?_; (case ho => rfl); (case hg => rfl); (case hn => rfl); (case hr => first | (go_simp; done) | (go_simp; rfl)); intro w24 hw; have hg : wr.grownBy w24 (some go22) := (by rw [hw]; exact HP23.2); have hz_ : Kd.R (Kd.int .i64) 3 w24 w.heap.size oki23 (.slice (some ⟨go22, 0, none⟩) (rd_L1 x5_3 x7_2).length c108_0) y109 := (by rw [hw, Ny109.out]; exact HP23.1); have hp_ : Kd.S (Kd.slice 3 (Kd.int .i64)) 43 w24 w.heap.size (fun _ => True) (.slice (some ad107) x5_3.length co15) y111 := (by rw [Ny111.out]; exact hbk23 hg (fun k_ e_ => by injection e_ with e_; subst e_; exact ge23_0.1 _ rfl) (Kd.M_row hz_)); have hm_ := Kd.R_mono hz_ hok23; clear HP23 hbk23; have n0_ := Aside0.mk (hp_); have n1_ := Aside0.mk ((by rw [hw]; exact below_set (HB.out) GB22.out : Below w.heap.size w w24)); have n2_ := Aside0.mk (hm_); have n3_ := Aside0.mk ((Kd.R_reads' hm_).2.1); clear HO_5; clear HB; clear HL108_0; have HO_5 := n0_; have HB := n1_; have HL135 := n2_; have HC110 := n3_; clear n0_ n1_ n2_ n3_; have ne8_ := Aside0.mk (spec_bkTable_alkeep hg (spec_bkTable_alne (hok23 _ (ge23_0.1 _ rfl)).2) HE8.out); clear HE8; have HE8 := ne8_; clear ne8_; clear hg hw hp_ hz_ hm_ hok23)))
                 (try simp only [← hl5_3])
                 go_roundg k3
                 case measure => have := HK1.out; have := HK2.out; have := HK3.out; omega
                 case rel => exact ⟨(y111), (wrap64 (x9_3 - 1)), (by first | rfl | (simp; done) | (simp [*]; done)), H', ⟨by have := HK1.out; have := HK2.out; have := HK3.out; omega⟩, ⟨by (try simp only [hl5_3]); (with_reducible repeat (first | apply Kd.S_alloc | apply Kd.S_drewN | apply Kd.S_drew)); exact HO_5.out⟩, ⟨by repeat (first | (with_reducible first | exact HB.out | apply below_alloc | apply pw_below_drewN | apply below_drew1) | exact HB.out)⟩, ⟨by exact HE8.out⟩⟩
                ·
                 rw [if_neg c21] at H
                 exact absurd H (by simp)
               ·
                rw [if_neg c20] at H
                exact absurd H (by simp)
              ·
               rw [if_neg c19] at H
               exact absurd H (by simp)
             ·
              rw [if_neg c18] at H
              exact absurd H (by simp)
            ·
             rw [if_neg c17] at H
             have c17b0 : (x7_2 == (a0.size : Int)) = false := beq_eq_false_iff_ne.mpr c17
             have c17b1 : (x7_2 != (a0.size : Int)) = true := bne_iff_ne.mpr c17
             by_cases c25 : x9_3 = (a1.size : Int)
             ·
              rw [if_pos c25] at H
              have c25b0 : (x9_3 == (a1.size : Int)) = true := beq_iff_eq.mpr c25
              have c25b1 : (x9_3 != (a1.size : Int)) = false := bne_eq_false_iff_eq.mpr c25
              clear c25
              by_cases c26 : 0 ≤ x7_2
              ·
               rw [if_pos c26] at H
               have c26b0 : decide (0 ≤ x7_2) = true := decide_eq_true c26
               clear c26
               by_cases c27 : x7_2 < (x5_3.length : Int)
               ·
                rw [if_pos c27] at H
                have c27b0 : decide (x7_2 < (x5_3.length : Int)) = true := decide_eq_true c27
                (try (have c27b0_ := c27b0; rw [hl5_3] at c27b0_))
                clear c27
                by_cases c28 : 0 ≤ x9_3
                ·
                 rw [if_pos c28] at H
                 have c28b0 : decide (0 ≤ x9_3) = true := decide_eq_true c28
                 clear c28
                 by_cases c29 : x9_3 < ((rd_L1 x5_3 x7_2).length : Int)
                 ·
                  rw [if_pos c29] at H
                  have c29b0 : decide (x9_3 < ((rd_L1 x5_3 x7_2).length : Int)) = true := decide_eq_true c29
                  (try (have c29b0_ := c29b0; rw [hl5_3] at c29b0_))
                  clear c29
                  obtain ⟨y113, hy113⟩ : ∃ y_ : List Int, y_ = ((rd_L1 x5_3 x7_2).set (x9_3 : Int).toNat (wrap64 ((a0.size : Int) - x7_2))) := ⟨_, rfl⟩
                  replace H : (spec_bkTable.l2 k3 a0 a1 (x5_3.set (x7_2 : Int).toNat y113) x7_2 (wrap64 (x9_3 - 1))) = some r := by first | (rw [hy113]; with_reducible exact H) | (have H2_ := (Option.bind_some _ _).symm.trans H; rw [hy113]; with_reducible exact H2_) | (have H2_ := (Option.bind_some _ _).symm.trans H; with_reducible exact H2_) | with_reducible exact H | (rw [hy113]; exact H) | exact H
                  have Ny113 := Aside0.mk hy113
                  clear hy113
                  obtain ⟨y115, hy115⟩ : ∃ y_ : List (List Int), y_ = (x5_3.set (x7_2 : Int).toNat y113) := ⟨_, rfl⟩
                  replace H : (spec_bkTable.l2 k3 a0 a1 y115 x7_2 (wrap64 (x9_3 - 1))) = some r := by first | (rw [hy115]; with_reducible exact H) | (have H2_ := (Option.bind_some _ _).symm.trans H; rw [hy115]; with_reducible exact H2_) | (have H2_ := (Option.bind_some _ _).symm.trans H; with_reducible exact H2_) | with_reducible exact H | (rw [hy115]; exact H) | exact H
                  have Ny115 := Aside0.mk hy115
                  clear hy115
                  have H' := Aside0.mk H
                  clear H
                  have p112 : 0 ≤ (x7_2 : Int) := of_decide_eq_true (by first | (with_reducible assumption) | assumption)
                  have q112 : x7_2 < (x5_3.length : Int) := of_decide_eq_true (by first | (with_reducible assumption) | assumption)
                  obtain ⟨ad112, A112_0, c112_0, e112, hx112_0, hl112_0, hi112_0⟩ := at_L1 (Kd.S_reads' HO_5.out).2.2 x7_2 p112 q112
                  obtain rfl : ad107 = ad112 := (by injection e112)
                  obtain ⟨ce112, hce112, hMe112, hcc112⟩ := Kd.S_get HO_5.out [] x7_2 p112 (by first | exact q112 | exact of_decide_eq_true (by first | (with_reducible assumption) | assumption) | (have e_ := (Kd.S_reads' HO_5.out).1; omega))
                  obtain ⟨ve112_0, rfl, ge112_0⟩ := hMe112
                  have hv112_0 := hcc112 0 _ rfl
                  rw [Nat.add_zero, show ((Kd.slice 3 (Kd.int .i64))).sz = 1 from rfl, Nat.mul_one] at hv112_0
                  replace hv112_0 := Option.some.inj (hv112_0.symm.trans hx112_0)
                  rw [hv112_0] at ge112_0
                  have HL112_0 := Aside0.mk (show Kd.R (Kd.int .i64) 3 _ _ _ _ (rd_L1 x5_3 x7_2) from ge112_0)
                  clear hv112_0 ge112_0
                  have HX112_0 := Aside0.mk hx112_0
                  (try (have eal_ := Option.some.inj (HE8.out.symm.trans hx112_0)))
                  (try subst eal_)
                  clear hcc112 hce112
                  have HR112_0 := Aside0.mk hi112_0
                  have HC112_0 := Aside0.mk hl112_0
                  clear hi112_0 hl112_0
                  replace p112 := eq_true p112
                  replace q112 := eq_true q112
                  have p30 : 0 ≤ (x9_3 : Int) := of_decide_eq_true (by first | (with_reducible assumption) | assumption)
                  have q30 : (x9_3 : Int) < (((rd_L1 x5_3 x7_2).length : Int) : Int) := of_decide_eq_true (by first | (with_reducible assumption) | assumption)
                  obtain ⟨go30, co30, eo30, gb30, gl30, cl30, HG30⟩ := Kd.R_form HL112_0.out (by omega)
                  (first | cases eo30 | (injection eo30 with ea_ en_ ec_; (first | subst ea_ | (injection ea_ with ea_; subst ea_)); subst ec_; clear en_))
                  have GB30 := Aside0.mk gb30
                  have GG30 := Aside0.mk HG30
                  clear gb30 gl30 HG30
                  obtain ⟨hx30_0, hf30_0⟩ := Kd.R_celln 0 HL112_0.out (x9_3 : Int) p30 q30
                  replace p30 := eq_true p30
                  replace q30 := eq_true q30
                  have hq31 : (x7_2 : Int) < (x5_3.length : Int) := (by have h_ : (x7_2 : Int) < ((x5_3.length : Int) : Int) := of_decide_eq_true (by first | (with_reducible assumption) | assumption); first | exact h_ | (have e_ := (Kd.S_reads' HO_5.out).1; omega) | simpa only [List.length_set, List.length_set] using h_)
                  obtain ⟨oki31, ce31, hcl31, hM31, hcc31, hok31, hbk31⟩ := Kd.S_borrow HO_5.out [] (x7_2 : Int) (of_decide_eq_true (by first | (with_reducible assumption) | assumption)) hq31
                  obtain ⟨ve31_0, rfl, ge31_0⟩ := hM31
                  have hv31 := hcc31 0 _ rfl
                  rw [Nat.add_zero, show ((Kd.slice 3 (Kd.int .i64))).sz = 1 from rfl, Nat.mul_one] at hv31
                  replace hv31 := Option.some.inj (hv31.symm.trans HX112_0.out)
                  subst hv31
                  clear hcc31 hcl31
                  replace ge31_0 := (show Kd.R (Kd.int .i64) 3 _ _ _ _ (rd_L1 x5_3 x7_2) from ge31_0)
                  have HP31 := Kd.R_putg ge31_0 (x9_3 : Int) (wrap64 ((a0.size : Int) - x7_2))
                  go_wp2_with (first | ((with_reducible refine gate_store (t := 3) (p := 102) rfl ?_); (try (rw [drewN_self wr]; generalize hq_ : World.drewN wr _ = wr; have n0_ := Aside0.mk (Kd.S_at hq_ HO_5.out); have n1_ := Aside0.mk (Kd.R_at hq_ HL112_0.out); have n2_ := Aside0.mk (below_at hq_ HB.out); have nx_ := Aside0.mk (cell_at hq_ HX112_0.out); clear HX112_0; have HX112_0 := nx_; clear nx_; have nf_ := spec_bkTable_alfr hq_ hf30_0; clear hf30_0; have hf30_0 := nf_; clear nf_; have ne8_ := Aside0.mk (cell_at hq_ HE8.out); clear HE8; have HE8 := ne8_; clear ne8_; clear hq_ HO_5 HL112_0 HB; have HO_5 := n0_; have HL112_0 := n1_; have HB := n2_; clear n0_ n1_ n2_; (try (have hq31 : (x7_2 : Int) < (x5_3.length : Int) := (by have h_ : (x7_2 : Int) < ((x5_3.length : Int) : Int) := of_decide_eq_true (by first | (with_reducible assumption) | assumption); first | exact h_ | (have e_ := (Kd.S_reads' HO_5.out).1; omega) | simpa only [List.length_set, List.length_set] using h_))); (try (obtain ⟨oki31, ce31, hcl31, hM31, hcc31, hok31, hbk31⟩ := Kd.S_borrow HO_5.out [] (x7_2 : Int) (of_decide_eq_true (by first | (with_reducible assumption) | assumption)) hq31)); (try (obtain ⟨ve31_0, rfl, ge31_0⟩ := hM31)); (try (have hv31 := hcc31 0 _ rfl)); (try (rw [Nat.add_zero, show ((Kd.slice 3 (Kd.int .i64))).sz = 1 from rfl, Nat.mul_one] at hv31)); (try (replace hv31 := Option.some.inj (hv31.symm.trans HX112_0.out))); (try (subst hv31)); (try (clear hcc31 hcl31)); (try (replace ge31_0 := (show Kd.R (Kd.int .i64) 3 _ _ _ _ (rd_L1 x5_3 x7_2) from ge31_0))); (try (have HP31 := Kd.R_putg ge31_0 (x9_3 : Int) (wrap64 ((a0.size : Int) - x7_2)))))); refine store_event (t := 3) (p := 102) (v := ?vo_w32) (w1 := (wr.setCell ⟨go30, (x9_3 : Int).toNat, none⟩ (.int .i64 (wrap64 ((a0.size : Int) - x7_2))))) ?hg ?ho ?hn ?hr ?_; (case ho => rfl); (case hg => rfl); (case hn => rfl); (case hr => first | (go_simp; done) | (go_simp; rfl)); intro w32 hw; have hg : wr.grownBy w32 (some go30) := (by rw [hw]; exact HP31.2); have hz_ : Kd.R (Kd.int .i64) 3 w32 w.heap.size oki31 (.slice (some ⟨go30, 0, none⟩) (rd_L1 x5_3 x7_2).length c112_0) y113 := (by rw [hw, Ny113.out]; exact HP31.1); have hp_ : Kd.S (Kd.slice 3 (Kd.int .i64)) 43 w32 w.heap.size (fun _ => True) (.slice (some ad107) x5_3.length co15) y115 := (by rw [Ny115.out]; exact hbk31 hg (fun k_ e_ => by injection e_ with e_; subst e_; exact ge31_0.1 _ rfl) (Kd.M_row hz_)); have hm_ := Kd.R_mono hz_ hok31; clear HP31 hbk31; have n0_ := Aside0.mk (hp_); have n1_ := Aside0.mk ((by rw [hw]; exact below_set (HB.out) GB30.out : Below w.heap.size w w32)); have n2_ := Aside0.mk (hm_); have n3_ := Aside0.mk ((Kd.R_reads' hm_).2.1); clear HO_5; clear HB; clear HL112_0; have HO_5 := n0_; have HB := n1_; have HL136 := n2_; have HC114 := n3_; clear n0_ n1_ n2_ n3_; have ne8_ := Aside0.mk (spec_bkTable_alkeep hg (spec_bkTable_alne (hok31 _ (ge31_0.1 _ rfl)).2) HE8.out); clear HE8; have HE8 := ne8_; clear ne8_; clear hg hw hp_ hz_ hm_ hok31))
                  repeat (go_quiet (first | ((with_reducible refine gate_store (t := 3) (p := 102) rfl ?_); (try (rw [drewN_self wr]; generalize hq_ : World.drewN wr _ = wr; have n0_ := Aside0.mk (Kd.S_at hq_ HO_5.out); have n1_ := Aside0.mk (Kd.R_at hq_ HL112_0.out); have n2_ := Aside0.mk (below_at hq_ HB.out); have nx_ := Aside0.mk (cell_at hq_ HX112_0.out); clear HX112_0; have HX112_0 := nx_; clear nx_; have nf_ := spec_bkTable_alfr hq_ hf30_0; clear hf30_0; have hf30_0 := nf_; clear nf_; have ne8_ := Aside0.mk (cell_at hq_ HE8.out); clear HE8; have HE8 := ne8_; clear ne8_; clear hq_ HO_5 HL112_0 HB; have HO_5 := n0_; have HL112_0 := n1_; have HB := n2_; clear n0_ n1_ n2_; (try (have hq31 : (x7_2 : Int) < (x5_3.length : Int) := (by have h_ : (x7_2 : Int) < ((x5_3.length : Int) : Int) := of_decide_eq_true (by first | (with_reducible assumption) | assumption); first | exact h_ | (have e_ := (Kd.S_reads' HO_5.out).1; omega) | simpa only [List.length_set, List.length_set] using h_))); (try (obtain ⟨oki31, ce31, hcl31, hM31, hcc31, hok31, hbk31⟩ := Kd.S_borrow HO_5.out [] (x7_2 : Int) (of_decide_eq_true (by first | (with_reducible assumption) | assumption)) hq31)); (try (obtain ⟨ve31_0, rfl, ge31_0⟩ := hM31)); (try (have hv31 := hcc31 0 _ rfl)); (try (rw [Nat.add_zero, show ((Kd.slice 3 (Kd.int .i64))).sz = 1 from rfl, Nat.mul_one] at hv31)); (try (replace hv31 := Option.some.inj (hv31.symm.trans HX112_0.out))); (try (subst hv31)); (try (clear hcc31 hcl31)); (try (replace ge31_0 := (show Kd.R (Kd.int .i64) 3 _ _ _ _ (rd_L1 x5_3 x7_2) from ge31_0))); (try (have HP31 := Kd.R_putg ge31_0 (x9_3 : Int) (wrap64 ((a0.size : Int) - x7_2)))))); refine store_event (t := 3) (p := 102) (v := ?vo_w32) (w1 := (wr.setCell ⟨go30, (x9_3 : Int).toNat, none⟩ (.int .i64 (wrap64 ((a0.size : Int) - x7_2))))) ?hg ?ho ?hn ?hr ?_; (case ho => rfl); (case hg => rfl); (case hn => rfl); (case hr => first | (go_simp; done) | (go_simp; rfl)); intro w32 hw; have hg : wr.grownBy w32 (some go30) := (by rw [hw]; exact HP31.2); have hz_ : Kd.R (Kd.int .i64) 3 w32 w.heap.size oki31 (.slice (some ⟨go30, 0, none⟩) (rd_L1 x5_3 x7_2).length c112_0) y113 := (by rw [hw, Ny113.out]; exact HP31.1); have hp_ : Kd.S (Kd.slice 3 (Kd.int .i64)) 43 w32 w.heap.size (fun _ => True) (.slice (some ad107) x5_3.length co15) y115 := (by rw [Ny115.out]; exact hbk31 hg (fun k_ e_ => by injection e_ with e_; subst e_; exact ge31_0.1 _ rfl) (Kd.M_row hz_)); have hm_ := Kd.R_mono hz_ hok31; clear HP31 hbk31; have n0_ := Aside0.mk (hp_); have n1_ := Aside0.mk ((by rw [hw]; exact below_set (HB.out) GB30.out : Below w.heap.size w w32)); have n2_ := Aside0.mk (hm_); have n3_ := Aside0.mk ((Kd.R_reads' hm_).2.1); clear HO_5; clear HB; clear HL112_0; have HO_5 := n0_; have HB := n1_; have HL136 := n2_; have HC114 := n3_; clear n0_ n1_ n2_ n3_; have ne8_ := Aside0.mk (spec_bkTable_alkeep hg (spec_bkTable_alne (hok31 _ (ge31_0.1 _ rfl)).2) HE8.out); clear HE8; have HE8 := ne8_; clear ne8_; clear hg hw hp_ hz_ hm_ hok31)); try go_wp2_with (first | ((with_reducible refine gate_store (t := 3) (p := 102) rfl ?_); (try (rw [drewN_self wr]; generalize hq_ : World.drewN wr _ = wr; have n0_ := Aside0.mk (Kd.S_at hq_ HO_5.out); have n1_ := Aside0.mk (Kd.R_at hq_ HL112_0.out); have n2_ := Aside0.mk (below_at hq_ HB.out); have nx_ := Aside0.mk (cell_at hq_ HX112_0.out); clear HX112_0; have HX112_0 := nx_; clear nx_; have nf_ := spec_bkTable_alfr hq_ hf30_0; clear hf30_0; have hf30_0 := nf_; clear nf_; have ne8_ := Aside0.mk (cell_at hq_ HE8.out); clear HE8; have HE8 := ne8_; clear ne8_; clear hq_ HO_5 HL112_0 HB; have HO_5 := n0_; have HL112_0 := n1_; have HB := n2_; clear n0_ n1_ n2_; (try (have hq31 : (x7_2 : Int) < (x5_3.length : Int) := (by have h_ : (x7_2 : Int) < ((x5_3.length : Int) : Int) := of_decide_eq_true (by first | (with_reducible assumption) | assumption); first | exact h_ | (have e_ := (Kd.S_reads' HO_5.out).1; omega) | simpa only [List.length_set, List.length_set] using h_))); (try (obtain ⟨oki31, ce31, hcl31, hM31, hcc31, hok31, hbk31⟩ := Kd.S_borrow HO_5.out [] (x7_2 : Int) (of_decide_eq_true (by first | (with_reducible assumption) | assumption)) hq31)); (try (obtain ⟨ve31_0, rfl, ge31_0⟩ := hM31)); (try (have hv31 := hcc31 0 _ rfl)); (try (rw [Nat.add_zero, show ((Kd.slice 3 (Kd.int .i64))).sz = 1 from rfl, Nat.mul_one] at hv31)); (try (replace hv31 := Option.some.inj (hv31.symm.trans HX112_0.out))); (try (subst hv31)); (try (clear hcc31 hcl31)); (try (replace ge31_0 := (show Kd.R (Kd.int .i64) 3 _ _ _ _ (rd_L1 x5_3 x7_2) from ge31_0))); (try (have HP31 := Kd.R_putg ge31_0 (x9_3 : Int) (wrap64 ((a0.size : Int) - x7_2)))))); refine store_event (t := 3) (p := 102) (v := ?vo_w32) (w1 := (wr.setCell ⟨go30, (x9_3 : Int).toNat, none⟩ (.int .i64 (wrap64 ((a0.size : Int) - x7_2))))) ?hg ?ho ?hn ?hr ?_; (case ho => rfl); (case hg => rfl); (case hn => rfl); (case hr => first | (go_simp; done) | (go_simp; rfl)); intro w32 hw; have hg : wr.grownBy w32 (some go30) := (by rw [hw]; exact HP31.2); have hz_ : Kd.R (Kd.int .i64) 3 w32 w.heap.size oki31 (.slice (some ⟨go30, 0, none⟩) (rd_L1 x5_3 x7_2).length c112_0) y113 := (by rw [hw, Ny113.out]; exact HP31.1); have hp_ : Kd.S (Kd.slice 3 (Kd.int .i64)) 43 w32 w.heap.size (fun _ => True) (.slice (some ad107) x5_3.length co15) y115 := (by rw [Ny115.out]; exact hbk31 hg (fun k_ e_ => by injection e_ with e_; subst e_; exact ge31_0.1 _ rfl) (Kd.M_row hz_)); have hm_ := Kd.R_mono hz_ hok31; clear HP31 hbk31; have n0_ := Aside0.mk (hp_); have n1_ := Aside0.mk ((by rw [hw]; exact below_set (HB.out) GB30.out : Below w.heap.size w w32)); have n2_ := Aside0.mk (hm_); have n3_ := Aside0.mk ((Kd.R_reads' hm_).2.1); clear HO_5; clear HB; clear HL112_0; have HO_5 := n0_; have HB := n1_; have HL136 := n2_; have HC114 := n3_; clear n0_ n1_ n2_ n3_; have ne8_ := Aside0.mk (spec_bkTable_alkeep hg (spec_bkTable_alne (hok31 _ (ge31_0.1 _ rfl)).2) HE8.out); clear HE8; have HE8 := ne8_; clear ne8_; clear hg hw hp_ hz_ hm_ hok31)))
                  (try simp only [← hl5_3])
                  go_roundg k3
                  case measure => have := HK1.out; have := HK2.out; have := HK3.out; omega
                  case rel => exact ⟨(y115), (wrap64 (x9_3 - 1)), (by first | rfl | (simp; done) | (simp [*]; done)), H', ⟨by have := HK1.out; have := HK2.out; have := HK3.out; omega⟩, ⟨by (try simp only [hl5_3]); (with_reducible repeat (first | apply Kd.S_alloc | apply Kd.S_drewN | apply Kd.S_drew)); exact HO_5.out⟩, ⟨by repeat (first | (with_reducible first | exact HB.out | apply below_alloc | apply pw_below_drewN | apply below_drew1) | exact HB.out)⟩, ⟨by exact HE8.out⟩⟩
                 ·
                  rw [if_neg c29] at H
                  exact absurd H (by simp)
                ·
                 rw [if_neg c28] at H
                 exact absurd H (by simp)
               ·
                rw [if_neg c27] at H
                exact absurd H (by simp)
              ·
               rw [if_neg c26] at H
               exact absurd H (by simp)
             ·
              rw [if_neg c25] at H
              have c25b0 : (x9_3 == (a1.size : Int)) = false := beq_eq_false_iff_ne.mpr c25
              have c25b1 : (x9_3 != (a1.size : Int)) = true := bne_iff_ne.mpr c25
              obtain ⟨ji33, hji33⟩ : ∃ j_ : Int, (wrap64 (x7_2 + 1)) = j_ := ⟨_, rfl⟩
              replace H : (if 0 ≤ (ji33) then (if (ji33) < (x5_3.length : Int) then (if 0 ≤ x9_3 then (if x9_3 < ((rd_L1 x5_3 (ji33)).length : Int) then (if 0 ≤ x7_2 then (if x7_2 < (x5_3.length : Int) then (if 0 ≤ (wrap64 (x9_3 + 1)) then (if (wrap64 (x9_3 + 1)) < ((rd_L1 x5_3 x7_2).length : Int) then ((spec_l1Least.f (rd (rd_L1 x5_3 (ji33)) x9_3) (rd (rd_L1 x5_3 x7_2) (wrap64 (x9_3 + 1)))).bind fun t120 => (if x7_2 < (a0.size : Int) then (if x9_3 < (a1.size : Int) then (if (bt a0 x7_2) = (bt a1 x9_3) then (if (wrap64 (x9_3 + 1)) < ((rd_L1 x5_3 (ji33)).length : Int) then ((spec_l1Least.f (wrap64 (t120 + 1)) (wrap64 ((rd (rd_L1 x5_3 (ji33)) (wrap64 (x9_3 + 1))) + 0))).bind fun t124 => (if x9_3 < ((rd_L1 x5_3 x7_2).length : Int) then (spec_bkTable.l2 k3 a0 a1 (x5_3.set (x7_2 : Int).toNat ((rd_L1 x5_3 x7_2).set (x9_3 : Int).toNat t124)) x7_2 (wrap64 (x9_3 - 1))) else (none))) else (none)) else (if (wrap64 (x9_3 + 1)) < ((rd_L1 x5_3 (ji33)).length : Int) then ((spec_l1Least.f (wrap64 (t120 + 1)) (wrap64 ((rd (rd_L1 x5_3 (ji33)) (wrap64 (x9_3 + 1))) + 1))).bind fun t131 => (if x9_3 < ((rd_L1 x5_3 x7_2).length : Int) then (spec_bkTable.l2 k3 a0 a1 (x5_3.set (x7_2 : Int).toNat ((rd_L1 x5_3 x7_2).set (x9_3 : Int).toNat t131)) x7_2 (wrap64 (x9_3 - 1))) else (none))) else (none))) else (none)) else (none))) else (none)) else (none)) else (none)) else (none)) else (none)) else (none)) else (none)) else (none)) = some r := by first | (rw [hji33] at H; exact H) | (simp only [hji33] at H ⊢; exact H)
              have hji33w : (IntKind.i64.wrap (x7_2 + 1)) = ji33 := (i64_w _).trans hji33
              by_cases c34 : 0 ≤ (ji33)
              ·
               rw [if_pos c34] at H
               have c34b0 : decide (0 ≤ (ji33)) = true := decide_eq_true c34
               clear c34
               by_cases c35 : (ji33) < (x5_3.length : Int)
               ·
                rw [if_pos c35] at H
                have c35b0 : decide ((ji33) < (x5_3.length : Int)) = true := decide_eq_true c35
                (try (have c35b0_ := c35b0; rw [hl5_3] at c35b0_))
                clear c35
                by_cases c36 : 0 ≤ x9_3
                ·
                 rw [if_pos c36] at H
                 have c36b0 : decide (0 ≤ x9_3) = true := decide_eq_true c36
                 clear c36
                 by_cases c37 : x9_3 < ((rd_L1 x5_3 (ji33)).length : Int)
                 ·
                  rw [if_pos c37] at H
                  have c37b0 : decide (x9_3 < ((rd_L1 x5_3 (ji33)).length : Int)) = true := decide_eq_true c37
                  (try (have c37b0_ := c37b0; rw [hl5_3] at c37b0_))
                  clear c37
                  by_cases c38 : 0 ≤ x7_2
                  ·
                   rw [if_pos c38] at H
                   have c38b0 : decide (0 ≤ x7_2) = true := decide_eq_true c38
                   clear c38
                   by_cases c39 : x7_2 < (x5_3.length : Int)
                   ·
                    rw [if_pos c39] at H
                    have c39b0 : decide (x7_2 < (x5_3.length : Int)) = true := decide_eq_true c39
                    (try (have c39b0_ := c39b0; rw [hl5_3] at c39b0_))
                    clear c39
                    obtain ⟨ji40, hji40⟩ : ∃ j_ : Int, (wrap64 (x9_3 + 1)) = j_ := ⟨_, rfl⟩
                    replace H : (if 0 ≤ (ji40) then (if (ji40) < ((rd_L1 x5_3 x7_2).length : Int) then ((spec_l1Least.f (rd (rd_L1 x5_3 (ji33)) x9_3) (rd (rd_L1 x5_3 x7_2) (ji40))).bind fun t120 => (if x7_2 < (a0.size : Int) then (if x9_3 < (a1.size : Int) then (if (bt a0 x7_2) = (bt a1 x9_3) then (if (ji40) < ((rd_L1 x5_3 (ji33)).length : Int) then ((spec_l1Least.f (wrap64 (t120 + 1)) (wrap64 ((rd (rd_L1 x5_3 (ji33)) (ji40)) + 0))).bind fun t124 => (if x9_3 < ((rd_L1 x5_3 x7_2).length : Int) then (spec_bkTable.l2 k3 a0 a1 (x5_3.set (x7_2 : Int).toNat ((rd_L1 x5_3 x7_2).set (x9_3 : Int).toNat t124)) x7_2 (wrap64 (x9_3 - 1))) else (none))) else (none)) else (if (ji40) < ((rd_L1 x5_3 (ji33)).length : Int) then ((spec_l1Least.f (wrap64 (t120 + 1)) (wrap64 ((rd (rd_L1 x5_3 (ji33)) (ji40)) + 1))).bind fun t131 => (if x9_3 < ((rd_L1 x5_3 x7_2).length : Int) then (spec_bkTable.l2 k3 a0 a1 (x5_3.set (x7_2 : Int).toNat ((rd_L1 x5_3 x7_2).set (x9_3 : Int).toNat t131)) x7_2 (wrap64 (x9_3 - 1))) else (none))) else (none))) else (none)) else (none))) else (none)) else (none)) = some r := by first | (rw [hji40] at H; exact H) | (simp only [hji40] at H ⊢; exact H)
                    have hji40w : (IntKind.i64.wrap (x9_3 + 1)) = ji40 := (i64_w _).trans hji40
                    by_cases c41 : 0 ≤ (ji40)
                    ·
                     rw [if_pos c41] at H
                     have c41b0 : decide (0 ≤ (ji40)) = true := decide_eq_true c41
                     clear c41
                     by_cases c42 : (ji40) < ((rd_L1 x5_3 x7_2).length : Int)
                     ·
                      rw [if_pos c42] at H
                      have c42b0 : decide ((ji40) < ((rd_L1 x5_3 x7_2).length : Int)) = true := decide_eq_true c42
                      (try (have c42b0_ := c42b0; rw [hl5_3] at c42b0_))
                      clear c42
                      replace H := Option.bind_eq_some_iff.mp H
                      obtain ⟨t120, A430, H⟩ := H
                      replace H : (if x7_2 < (a0.size : Int) then (if x9_3 < (a1.size : Int) then (if (bt a0 x7_2) = (bt a1 x9_3) then (if (ji40) < ((rd_L1 x5_3 (ji33)).length : Int) then ((spec_l1Least.f (wrap64 (t120 + 1)) (wrap64 ((rd (rd_L1 x5_3 (ji33)) (ji40)) + 0))).bind fun t124 => (if x9_3 < ((rd_L1 x5_3 x7_2).length : Int) then (spec_bkTable.l2 k3 a0 a1 (x5_3.set (x7_2 : Int).toNat ((rd_L1 x5_3 x7_2).set (x9_3 : Int).toNat t124)) x7_2 (wrap64 (x9_3 - 1))) else (none))) else (none)) else (if (ji40) < ((rd_L1 x5_3 (ji33)).length : Int) then ((spec_l1Least.f (wrap64 (t120 + 1)) (wrap64 ((rd (rd_L1 x5_3 (ji33)) (ji40)) + 1))).bind fun t131 => (if x9_3 < ((rd_L1 x5_3 x7_2).length : Int) then (spec_bkTable.l2 k3 a0 a1 (x5_3.set (x7_2 : Int).toNat ((rd_L1 x5_3 x7_2).set (x9_3 : Int).toNat t131)) x7_2 (wrap64 (x9_3 - 1))) else (none))) else (none))) else (none)) else (none)) = some r := H
                      have A43 := Aside0.mk A430
                      clear A430
                      by_cases c44 : x7_2 < (a0.size : Int)
                      ·
                       rw [if_pos c44] at H
                       have c44b0 : decide (x7_2 < (a0.size : Int)) = true := decide_eq_true c44
                       clear c44
                       by_cases c46 : x9_3 < (a1.size : Int)
                       ·
                        rw [if_pos c46] at H
                        have c46b0 : decide (x9_3 < (a1.size : Int)) = true := decide_eq_true c46
                        clear c46
                        by_cases c48 : (bt a0 x7_2) = (bt a1 x9_3)
                        ·
                         rw [if_pos c48] at H
                         have c48b0 : ((bt a0 x7_2) == (bt a1 x9_3)) = true := beq_iff_eq.mpr c48
                         have c48b1 : ((bt a0 x7_2) != (bt a1 x9_3)) = false := bne_eq_false_iff_eq.mpr c48
                         clear c48
                         by_cases c49 : (ji40) < ((rd_L1 x5_3 (ji33)).length : Int)
                         ·
                          rw [if_pos c49] at H
                          have c49b0 : decide ((ji40) < ((rd_L1 x5_3 (ji33)).length : Int)) = true := decide_eq_true c49
                          (try (have c49b0_ := c49b0; rw [hl5_3] at c49b0_))
                          clear c49
                          replace H := Option.bind_eq_some_iff.mp H
                          obtain ⟨t124, A500, H⟩ := H
                          replace H : (if x9_3 < ((rd_L1 x5_3 x7_2).length : Int) then (spec_bkTable.l2 k3 a0 a1 (x5_3.set (x7_2 : Int).toNat ((rd_L1 x5_3 x7_2).set (x9_3 : Int).toNat t124)) x7_2 (wrap64 (x9_3 - 1))) else (none)) = some r := H
                          have A50 := Aside0.mk A500
                          clear A500
                          by_cases c51 : x9_3 < ((rd_L1 x5_3 x7_2).length : Int)
                          ·
                           rw [if_pos c51] at H
                           have c51b0 : decide (x9_3 < ((rd_L1 x5_3 x7_2).length : Int)) = true := decide_eq_true c51
                           (try (have c51b0_ := c51b0; rw [hl5_3] at c51b0_))
                           clear c51
                           obtain ⟨y125, hy125⟩ : ∃ y_ : List Int, y_ = ((rd_L1 x5_3 x7_2).set (x9_3 : Int).toNat t124) := ⟨_, rfl⟩
                           replace H : (spec_bkTable.l2 k3 a0 a1 (x5_3.set (x7_2 : Int).toNat y125) x7_2 (wrap64 (x9_3 - 1))) = some r := by first | (rw [hy125]; with_reducible exact H) | (have H2_ := (Option.bind_some _ _).symm.trans H; rw [hy125]; with_reducible exact H2_) | (have H2_ := (Option.bind_some _ _).symm.trans H; with_reducible exact H2_) | with_reducible exact H | (rw [hy125]; exact H) | exact H
                           have Ny125 := Aside0.mk hy125
                           clear hy125
                           obtain ⟨y127, hy127⟩ : ∃ y_ : List (List Int), y_ = (x5_3.set (x7_2 : Int).toNat y125) := ⟨_, rfl⟩
                           replace H : (spec_bkTable.l2 k3 a0 a1 y127 x7_2 (wrap64 (x9_3 - 1))) = some r := by first | (rw [hy127]; with_reducible exact H) | (have H2_ := (Option.bind_some _ _).symm.trans H; rw [hy127]; with_reducible exact H2_) | (have H2_ := (Option.bind_some _ _).symm.trans H; with_reducible exact H2_) | with_reducible exact H | (rw [hy127]; exact H) | exact H
                           have Ny127 := Aside0.mk hy127
                           clear hy127
                           have H' := Aside0.mk H
                           clear H
                           have p116 : 0 ≤ ((ji33) : Int) := of_decide_eq_true (by first | (with_reducible assumption) | assumption)
                           have q116 : (ji33) < (x5_3.length : Int) := of_decide_eq_true (by first | (with_reducible assumption) | assumption)
                           obtain ⟨ad116, A116_0, c116_0, e116, hx116_0, hl116_0, hi116_0⟩ := at_L1 (Kd.S_reads' HO_5.out).2.2 (ji33) p116 q116
                           obtain rfl : ad107 = ad116 := (by injection e116)
                           obtain ⟨ce116, hce116, hMe116, hcc116⟩ := Kd.S_get HO_5.out [] (ji33) p116 (by first | exact q116 | exact of_decide_eq_true (by first | (with_reducible assumption) | assumption) | (have e_ := (Kd.S_reads' HO_5.out).1; omega))
                           obtain ⟨ve116_0, rfl, ge116_0⟩ := hMe116
                           have hv116_0 := hcc116 0 _ rfl
                           rw [Nat.add_zero, show ((Kd.slice 3 (Kd.int .i64))).sz = 1 from rfl, Nat.mul_one] at hv116_0
                           replace hv116_0 := Option.some.inj (hv116_0.symm.trans hx116_0)
                           rw [hv116_0] at ge116_0
                           have HL116_0 := Aside0.mk (show Kd.R (Kd.int .i64) 3 _ _ _ _ (rd_L1 x5_3 (ji33)) from ge116_0)
                           clear hv116_0 ge116_0
                           have HX116_0 := Aside0.mk hx116_0
                           clear hcc116 hce116
                           have HR116_0 := Aside0.mk hi116_0
                           have HC116_0 := Aside0.mk hl116_0
                           clear hi116_0 hl116_0
                           replace p116 := eq_true p116
                           replace q116 := eq_true q116
                           have p117 : 0 ≤ (x9_3 : Int) := of_decide_eq_true (by first | (with_reducible assumption) | assumption)
                           have q117 : x9_3 < ((rd_L1 x5_3 (ji33)).length : Int) := of_decide_eq_true (by first | (with_reducible assumption) | assumption)
                           obtain ⟨ad117, e117, hx117_0⟩ := Kd.at_int (by repeat (first | (with_reducible exact HR116_0.out) | (with_reducible refine Kd.C_alloc ?_ _) | (with_reducible refine Kd.C_drewN ?_ _) | (with_reducible refine Kd.C_drew ?_) | exact HR116_0.out)) x9_3 p117 q117
                           cases e117
                           replace p117 := eq_true p117
                           replace q117 := eq_true q117
                           have p118 : 0 ≤ (x7_2 : Int) := of_decide_eq_true (by first | (with_reducible assumption) | assumption)
                           have q118 : x7_2 < (x5_3.length : Int) := of_decide_eq_true (by first | (with_reducible assumption) | assumption)
                           obtain ⟨ad118, A118_0, c118_0, e118, hx118_0, hl118_0, hi118_0⟩ := at_L1 (Kd.S_reads' HO_5.out).2.2 x7_2 p118 q118
                           obtain rfl : ad107 = ad118 := (by injection e118)
                           obtain ⟨ce118, hce118, hMe118, hcc118⟩ := Kd.S_get HO_5.out [] x7_2 p118 (by first | exact q118 | exact of_decide_eq_true (by first | (with_reducible assumption) | assumption) | (have e_ := (Kd.S_reads' HO_5.out).1; omega))
                           obtain ⟨ve118_0, rfl, ge118_0⟩ := hMe118
                           have hv118_0 := hcc118 0 _ rfl
                           rw [Nat.add_zero, show ((Kd.slice 3 (Kd.int .i64))).sz = 1 from rfl, Nat.mul_one] at hv118_0
                           replace hv118_0 := Option.some.inj (hv118_0.symm.trans hx118_0)
                           rw [hv118_0] at ge118_0
                           have HL118_0 := Aside0.mk (show Kd.R (Kd.int .i64) 3 _ _ _ _ (rd_L1 x5_3 x7_2) from ge118_0)
                           clear hv118_0 ge118_0
                           have HX118_0 := Aside0.mk hx118_0
                           (try (have eal_ := Option.some.inj (HE8.out.symm.trans hx118_0)))
                           (try subst eal_)
                           clear hcc118 hce118
                           have HR118_0 := Aside0.mk hi118_0
                           have HC118_0 := Aside0.mk hl118_0
                           clear hi118_0 hl118_0
                           replace p118 := eq_true p118
                           replace q118 := eq_true q118
                           have p119 : 0 ≤ ((ji40) : Int) := of_decide_eq_true (by first | (with_reducible assumption) | assumption)
                           have q119 : (ji40) < ((rd_L1 x5_3 x7_2).length : Int) := of_decide_eq_true (by first | (with_reducible assumption) | assumption)
                           obtain ⟨ad119, e119, hx119_0⟩ := Kd.at_int (by repeat (first | (with_reducible exact HR118_0.out) | (with_reducible refine Kd.C_alloc ?_ _) | (with_reducible refine Kd.C_drewN ?_ _) | (with_reducible refine Kd.C_drew ?_) | exact HR118_0.out)) (ji40) p119 q119
                           cases e119
                           replace p119 := eq_true p119
                           replace q119 := eq_true q119
                           go_wp2_with (first | (go_at_call 60; (with_reducible refine (spec_l1Least.calls (rd (rd_L1 x5_3 (ji33)) x9_3) (rd (rd_L1 x5_3 x7_2) (ji40)) t120 _ A43.out).mono ?_); rintro e w' ⟨rfl, ⟨nd, rfl⟩⟩; (try first | exact ⟨rfl, _, World.drewN_drewN _ _ _⟩ | exact ⟨rfl, _, Eq.trans (World.drewN_drewN _ _ _) (congrArg (World.drewN _) (Nat.add_assoc _ _ _))⟩); have p45 : 0 ≤ (x7_2 : Int) := of_decide_eq_true (by first | (with_reducible assumption) | assumption); have q45 : x7_2 < (a0.size : Int) := of_decide_eq_true (by first | (with_reducible assumption) | assumption); have hx45 := bt_at a0 x7_2; replace p45 := eq_true p45; replace q45 := eq_true q45; have p47 : 0 ≤ (x9_3 : Int) := of_decide_eq_true (by first | (with_reducible assumption) | assumption); have q47 : x9_3 < (a1.size : Int) := of_decide_eq_true (by first | (with_reducible assumption) | assumption); have hx47 := bt_at a1 x9_3; replace p47 := eq_true p47; replace q47 := eq_true q47; have p121 : 0 ≤ (x7_2 : Int) := of_decide_eq_true (by first | (with_reducible assumption) | assumption); have q121 : x7_2 < (x5_3.length : Int) := of_decide_eq_true (by first | (with_reducible assumption) | assumption); obtain ⟨ad121, A121_0, c121_0, e121, hx121_0, hl121_0, hi121_0⟩ := at_L1 (Kd.S_reads' HO_5.out).2.2 x7_2 p121 q121; obtain rfl : ad107 = ad121 := (by injection e121); obtain ⟨ce121, hce121, hMe121, hcc121⟩ := Kd.S_get HO_5.out [] x7_2 p121 (by first | exact q121 | exact of_decide_eq_true (by first | (with_reducible assumption) | assumption) | (have e_ := (Kd.S_reads' HO_5.out).1; omega)); obtain ⟨ve121_0, rfl, ge121_0⟩ := hMe121; have hv121_0 := hcc121 0 _ rfl; rw [Nat.add_zero, show ((Kd.slice 3 (Kd.int .i64))).sz = 1 from rfl, Nat.mul_one] at hv121_0; replace hv121_0 := Option.some.inj (hv121_0.symm.trans hx121_0); rw [hv121_0] at ge121_0; have HL121_0 := Aside0.mk (show Kd.R (Kd.int .i64) 3 _ _ _ _ (rd_L1 x5_3 x7_2) from ge121_0); clear hv121_0 ge121_0; have HX121_0 := Aside0.mk hx121_0; (try (have eal_ := Option.some.inj (HE8.out.symm.trans hx121_0))); (try subst eal_); clear hcc121 hce121; have HR121_0 := Aside0.mk hi121_0; have HC121_0 := Aside0.mk hl121_0; clear hi121_0 hl121_0; replace p121 := eq_true p121; replace q121 := eq_true q121; have ea_ := Option.some.inj (hx118_0.symm.trans hx121_0); injection ea_ with ea_ en_ ec_; subst ea_; subst ec_; clear en_; have p122 : 0 ≤ ((ji33) : Int) := of_decide_eq_true (by first | (with_reducible assumption) | assumption); have q122 : (ji33) < (x5_3.length : Int) := of_decide_eq_true (by first | (with_reducible assumption) | assumption); obtain ⟨ad122, A122_0, c122_0, e122, hx122_0, hl122_0, hi122_0⟩ := at_L1 (Kd.S_reads' HO_5.out).2.2 (ji33) p122 q122; obtain rfl : ad107 = ad122 := (by injection e122); obtain ⟨ce122, hce122, hMe122, hcc122⟩ := Kd.S_get HO_5.out [] (ji33) p122 (by first | exact q122 | exact of_decide_eq_true (by first | (with_reducible assumption) | assumption) | (have e_ := (Kd.S_reads' HO_5.out).1; omega)); obtain ⟨ve122_0, rfl, ge122_0⟩ := hMe122; have hv122_0 := hcc122 0 _ rfl; rw [Nat.add_zero, show ((Kd.slice 3 (Kd.int .i64))).sz = 1 from rfl, Nat.mul_one] at hv122_0; replace hv122_0 := Option.some.inj (hv122_0.symm.trans hx122_0); rw [hv122_0] at ge122_0; have HL122_0 := Aside0.mk (show Kd.R (Kd.int .i64) 3 _ _ _ _ (rd_L1 x5_3 (ji33)) from ge122_0); clear hv122_0 ge122_0; have HX122_0 := Aside0.mk hx122_0; clear hcc122 hce122; have HR122_0 := Aside0.mk hi122_0; have HC122_0 := Aside0.mk hl122_0; clear hi122_0 hl122_0; replace p122 := eq_true p122; replace q122 := eq_true q122; have ea_ := Option.some.inj (hx116_0.symm.trans hx122_0); injection ea_ with ea_ en_ ec_; subst ea_; subst ec_; clear en_; have p123 : 0 ≤ ((ji40) : Int) := of_decide_eq_true (by first | (with_reducible assumption) | assumption); have q123 : (ji40) < ((rd_L1 x5_3 (ji33)).length : Int) := of_decide_eq_true (by first | (with_reducible assumption) | assumption); obtain ⟨ad123, e123, hx123_0⟩ := Kd.at_int (by repeat (first | (with_reducible exact HR122_0.out) | (with_reducible refine Kd.C_alloc ?_ _) | (with_reducible refine Kd.C_drewN ?_ _) | (with_reducible refine Kd.C_drew ?_) | exact HR122_0.out)) (ji40) p123 q123; cases e123; replace p123 := eq_true p123; replace q123 := eq_true q123) | (go_at_call 60; (with_reducible refine (spec_l1Least.calls (wrap64 (t120 + 1)) (wrap64 (rd (rd_L1 x5_3 (ji33)) (ji40))) t124 _ (by have h_ := A50.out; simp only [Int.add_zero] at h_; exact h_)).mono ?_); rintro e w' ⟨rfl, ⟨nd, rfl⟩⟩; (try first | exact ⟨rfl, _, World.drewN_drewN _ _ _⟩ | exact ⟨rfl, _, Eq.trans (World.drewN_drewN _ _ _) (congrArg (World.drewN _) (Nat.add_assoc _ _ _))⟩); have p52 : 0 ≤ (x9_3 : Int) := of_decide_eq_true (by first | (with_reducible assumption) | assumption); have q52 : (x9_3 : Int) < (((rd_L1 x5_3 x7_2).length : Int) : Int) := of_decide_eq_true (by first | (with_reducible assumption) | assumption); obtain ⟨go52, co52, eo52, gb52, gl52, cl52, HG52⟩ := Kd.R_form HL121_0.out (by omega); (first | cases eo52 | (injection eo52 with ea_ en_ ec_; (first | subst ea_ | (injection ea_ with ea_; subst ea_)); subst ec_; clear en_)); have GB52 := Aside0.mk gb52; have GG52 := Aside0.mk HG52; clear gb52 gl52 HG52; (first | simp only [add_plain] at hx119_0 | skip); obtain ⟨hx52_0, hf52_0⟩ := Kd.R_celln 0 HL121_0.out (x9_3 : Int) p52 q52; replace p52 := eq_true p52; replace q52 := eq_true q52; have hq53 : (x7_2 : Int) < (x5_3.length : Int) := (by have h_ : (x7_2 : Int) < ((x5_3.length : Int) : Int) := of_decide_eq_true (by first | (with_reducible assumption) | assumption); first | exact h_ | (have e_ := (Kd.S_reads' HO_5.out).1; omega) | simpa only [List.length_set, List.length_set] using h_); obtain ⟨oki53, ce53, hcl53, hM53, hcc53, hok53, hbk53⟩ := Kd.S_borrow HO_5.out [] (x7_2 : Int) (of_decide_eq_true (by first | (with_reducible assumption) | assumption)) hq53; obtain ⟨ve53_0, rfl, ge53_0⟩ := hM53; have hv53 := hcc53 0 _ rfl; rw [Nat.add_zero, show ((Kd.slice 3 (Kd.int .i64))).sz = 1 from rfl, Nat.mul_one] at hv53; replace hv53 := Option.some.inj (hv53.symm.trans HX121_0.out); subst hv53; clear hcc53 hcl53; replace ge53_0 := (show Kd.R (Kd.int .i64) 3 _ _ _ _ (rd_L1 x5_3 x7_2) from ge53_0); have HP53 := Kd.R_putg ge53_0 (x9_3 : Int) t124) | ((with_reducible refine gate_store (t := 3) (p := 78) rfl ?_); (try (rw [drewN_self wr]; generalize hq_ : World.drewN wr _ = wr; have n0_ := Aside0.mk (Kd.S_at hq_ HO_5.out); have n1_ := Aside0.mk (Kd.R_at hq_ HL121_0.out); have n2_ := Aside0.mk (below_at hq_ HB.out); have nx_ := Aside0.mk (cell_at hq_ HX121_0.out); clear HX121_0; have HX121_0 := nx_; clear nx_; have nf_ := spec_bkTable_alfr hq_ hf52_0; clear hf52_0; have hf52_0 := nf_; clear nf_; have ne8_ := Aside0.mk (cell_at hq_ HE8.out); clear HE8; have HE8 := ne8_; clear ne8_; clear hq_ HO_5 HL121_0 HB; have HO_5 := n0_; have HL121_0 := n1_; have HB := n2_; clear n0_ n1_ n2_; (try (have hq53 : (x7_2 : Int) < (x5_3.length : Int) := (by have h_ : (x7_2 : Int) < ((x5_3.length : Int) : Int) := of_decide_eq_true (by first | (with_reducible assumption) | assumption); first | exact h_ | (have e_ := (Kd.S_reads' HO_5.out).1; omega) | simpa only [List.length_set, List.length_set] using h_))); (try (obtain ⟨oki53, ce53, hcl53, hM53, hcc53, hok53, hbk53⟩ := Kd.S_borrow HO_5.out [] (x7_2 : Int) (of_decide_eq_true (by first | (with_reducible assumption) | assumption)) hq53)); (try (obtain ⟨ve53_0, rfl, ge53_0⟩ := hM53)); (try (have hv53 := hcc53 0 _ rfl)); (try (rw [Nat.add_zero, show ((Kd.slice 3 (Kd.int .i64))).sz = 1 from rfl, Nat.mul_one] at hv53)); (try (replace hv53 := Option.some.inj (hv53.symm.trans HX121_0.out))); (try (subst hv53)); (try (clear hcc53 hcl53)); (try (replace ge53_0 := (show Kd.R (Kd.int .i64) 3 _ _ _ _ (rd_L1 x5_3 x7_2) from ge53_0))); (try (have HP53 := Kd.R_putg ge53_0 (x9_3 : Int) t124)))); refine store_event (t := 3) (p := 78) (v := ?vo_w54) (w1 := (wr.setCell ⟨go52, (x9_3 : Int).toNat, none⟩ (.int .i64 t124))) ?hg ?ho ?hn ?hr ?_; (case ho => rfl); (case hg => rfl); (case hn => rfl); (case hr => first | (go_simp; done) | (go_simp; rfl)); intro w54 hw; have hg : wr.grownBy w54 (some go52) := (by rw [hw]; exact HP53.2); have hz_ : Kd.R (Kd.int .i64) 3 w54 w.heap.size oki53 (.slice (some ⟨go52, 0, none⟩) (rd_L1 x5_3 x7_2).length c118_0) y125 := (by rw [hw, Ny125.out]; exact HP53.1); have hp_ : Kd.S (Kd.slice 3 (Kd.int .i64)) 43 w54 w.heap.size (fun _ => True) (.slice (some ad107) x5_3.length co15) y127 := (by rw [Ny127.out]; exact hbk53 hg (fun k_ e_ => by injection e_ with e_; subst e_; exact ge53_0.1 _ rfl) (Kd.M_row hz_)); have hm_ := Kd.R_mono hz_ hok53; clear HP53 hbk53; have n0_ := Aside0.mk (hp_); have n1_ := Aside0.mk ((by rw [hw]; exact below_set (HB.out) GB52.out : Below w.heap.size w w54)); have n2_ := Aside0.mk (hm_); have n3_ := Aside0.mk ((Kd.R_reads' hm_).2.1); clear HO_5; clear HB; clear HL116_0; clear HL118_0; clear HL121_0; clear HL122_0; have HO_5 := n0_; have HB := n1_; have HL137 := n2_; have HC126 := n3_; clear n0_ n1_ n2_ n3_; have ne8_ := Aside0.mk (spec_bkTable_alkeep hg (spec_bkTable_alne (hok53 _ (ge53_0.1 _ rfl)).2) HE8.out); clear HE8; have HE8 := ne8_; clear ne8_; clear hg hw hp_ hz_ hm_ hok53))
                           repeat (go_quiet (first | (go_at_call 60; (with_reducible refine (spec_l1Least.calls (rd (rd_L1 x5_3 (ji33)) x9_3) (rd (rd_L1 x5_3 x7_2) (ji40)) t120 _ A43.out).mono ?_); rintro e w' ⟨rfl, ⟨nd, rfl⟩⟩; (try first | exact ⟨rfl, _, World.drewN_drewN _ _ _⟩ | exact ⟨rfl, _, Eq.trans (World.drewN_drewN _ _ _) (congrArg (World.drewN _) (Nat.add_assoc _ _ _))⟩); have p45 : 0 ≤ (x7_2 : Int) := of_decide_eq_true (by first | (with_reducible assumption) | assumption); have q45 : x7_2 < (a0.size : Int) := of_decide_eq_true (by first | (with_reducible assumption) | assumption); have hx45 := bt_at a0 x7_2; replace p45 := eq_true p45; replace q45 := eq_true q45; have p47 : 0 ≤ (x9_3 : Int) := of_decide_eq_true (by first | (with_reducible assumption) | assumption); have q47 : x9_3 < (a1.size : Int) := of_decide_eq_true (by first | (with_reducible assumption) | assumption); have hx47 := bt_at a1 x9_3; replace p47 := eq_true p47; replace q47 := eq_true q47; have p121 : 0 ≤ (x7_2 : Int) := of_decide_eq_true (by first | (with_reducible assumption) | assumption); have q121 : x7_2 < (x5_3.length : Int) := of_decide_eq_true (by first | (with_reducible assumption) | assumption); obtain ⟨ad121, A121_0, c121_0, e121, hx121_0, hl121_0, hi121_0⟩ := at_L1 (Kd.S_reads' HO_5.out).2.2 x7_2 p121 q121; obtain rfl : ad107 = ad121 := (by injection e121); obtain ⟨ce121, hce121, hMe121, hcc121⟩ := Kd.S_get HO_5.out [] x7_2 p121 (by first | exact q121 | exact of_decide_eq_true (by first | (with_reducible assumption) | assumption) | (have e_ := (Kd.S_reads' HO_5.out).1; omega)); obtain ⟨ve121_0, rfl, ge121_0⟩ := hMe121; have hv121_0 := hcc121 0 _ rfl; rw [Nat.add_zero, show ((Kd.slice 3 (Kd.int .i64))).sz = 1 from rfl, Nat.mul_one] at hv121_0; replace hv121_0 := Option.some.inj (hv121_0.symm.trans hx121_0); rw [hv121_0] at ge121_0; have HL121_0 := Aside0.mk (show Kd.R (Kd.int .i64) 3 _ _ _ _ (rd_L1 x5_3 x7_2) from ge121_0); clear hv121_0 ge121_0; have HX121_0 := Aside0.mk hx121_0; (try (have eal_ := Option.some.inj (HE8.out.symm.trans hx121_0))); (try subst eal_); clear hcc121 hce121; have HR121_0 := Aside0.mk hi121_0; have HC121_0 := Aside0.mk hl121_0; clear hi121_0 hl121_0; replace p121 := eq_true p121; replace q121 := eq_true q121; have ea_ := Option.some.inj (hx118_0.symm.trans hx121_0); injection ea_ with ea_ en_ ec_; subst ea_; subst ec_; clear en_; have p122 : 0 ≤ ((ji33) : Int) := of_decide_eq_true (by first | (with_reducible assumption) | assumption); have q122 : (ji33) < (x5_3.length : Int) := of_decide_eq_true (by first | (with_reducible assumption) | assumption); obtain ⟨ad122, A122_0, c122_0, e122, hx122_0, hl122_0, hi122_0⟩ := at_L1 (Kd.S_reads' HO_5.out).2.2 (ji33) p122 q122; obtain rfl : ad107 = ad122 := (by injection e122); obtain ⟨ce122, hce122, hMe122, hcc122⟩ := Kd.S_get HO_5.out [] (ji33) p122 (by first | exact q122 | exact of_decide_eq_true (by first | (with_reducible assumption) | assumption) | (have e_ := (Kd.S_reads' HO_5.out).1; omega)); obtain ⟨ve122_0, rfl, ge122_0⟩ := hMe122; have hv122_0 := hcc122 0 _ rfl; rw [Nat.add_zero, show ((Kd.slice 3 (Kd.int .i64))).sz = 1 from rfl, Nat.mul_one] at hv122_0; replace hv122_0 := Option.some.inj (hv122_0.symm.trans hx122_0); rw [hv122_0] at ge122_0; have HL122_0 := Aside0.mk (show Kd.R (Kd.int .i64) 3 _ _ _ _ (rd_L1 x5_3 (ji33)) from ge122_0); clear hv122_0 ge122_0; have HX122_0 := Aside0.mk hx122_0; clear hcc122 hce122; have HR122_0 := Aside0.mk hi122_0; have HC122_0 := Aside0.mk hl122_0; clear hi122_0 hl122_0; replace p122 := eq_true p122; replace q122 := eq_true q122; have ea_ := Option.some.inj (hx116_0.symm.trans hx122_0); injection ea_ with ea_ en_ ec_; subst ea_; subst ec_; clear en_; have p123 : 0 ≤ ((ji40) : Int) := of_decide_eq_true (by first | (with_reducible assumption) | assumption); have q123 : (ji40) < ((rd_L1 x5_3 (ji33)).length : Int) := of_decide_eq_true (by first | (with_reducible assumption) | assumption); obtain ⟨ad123, e123, hx123_0⟩ := Kd.at_int (by repeat (first | (with_reducible exact HR122_0.out) | (with_reducible refine Kd.C_alloc ?_ _) | (with_reducible refine Kd.C_drewN ?_ _) | (with_reducible refine Kd.C_drew ?_) | exact HR122_0.out)) (ji40) p123 q123; cases e123; replace p123 := eq_true p123; replace q123 := eq_true q123) | (go_at_call 60; (with_reducible refine (spec_l1Least.calls (wrap64 (t120 + 1)) (wrap64 (rd (rd_L1 x5_3 (ji33)) (ji40))) t124 _ (by have h_ := A50.out; simp only [Int.add_zero] at h_; exact h_)).mono ?_); rintro e w' ⟨rfl, ⟨nd, rfl⟩⟩; (try first | exact ⟨rfl, _, World.drewN_drewN _ _ _⟩ | exact ⟨rfl, _, Eq.trans (World.drewN_drewN _ _ _) (congrArg (World.drewN _) (Nat.add_assoc _ _ _))⟩); have p52 : 0 ≤ (x9_3 : Int) := of_decide_eq_true (by first | (with_reducible assumption) | assumption); have q52 : (x9_3 : Int) < (((rd_L1 x5_3 x7_2).length : Int) : Int) := of_decide_eq_true (by first | (with_reducible assumption) | assumption); obtain ⟨go52, co52, eo52, gb52, gl52, cl52, HG52⟩ := Kd.R_form HL121_0.out (by omega); (first | cases eo52 | (injection eo52 with ea_ en_ ec_; (first | subst ea_ | (injection ea_ with ea_; subst ea_)); subst ec_; clear en_)); have GB52 := Aside0.mk gb52; have GG52 := Aside0.mk HG52; clear gb52 gl52 HG52; (first | simp only [add_plain] at hx119_0 | skip); obtain ⟨hx52_0, hf52_0⟩ := Kd.R_celln 0 HL121_0.out (x9_3 : Int) p52 q52; replace p52 := eq_true p52; replace q52 := eq_true q52; have hq53 : (x7_2 : Int) < (x5_3.length : Int) := (by have h_ : (x7_2 : Int) < ((x5_3.length : Int) : Int) := of_decide_eq_true (by first | (with_reducible assumption) | assumption); first | exact h_ | (have e_ := (Kd.S_reads' HO_5.out).1; omega) | simpa only [List.length_set, List.length_set] using h_); obtain ⟨oki53, ce53, hcl53, hM53, hcc53, hok53, hbk53⟩ := Kd.S_borrow HO_5.out [] (x7_2 : Int) (of_decide_eq_true (by first | (with_reducible assumption) | assumption)) hq53; obtain ⟨ve53_0, rfl, ge53_0⟩ := hM53; have hv53 := hcc53 0 _ rfl; rw [Nat.add_zero, show ((Kd.slice 3 (Kd.int .i64))).sz = 1 from rfl, Nat.mul_one] at hv53; replace hv53 := Option.some.inj (hv53.symm.trans HX121_0.out); subst hv53; clear hcc53 hcl53; replace ge53_0 := (show Kd.R (Kd.int .i64) 3 _ _ _ _ (rd_L1 x5_3 x7_2) from ge53_0); have HP53 := Kd.R_putg ge53_0 (x9_3 : Int) t124) | ((with_reducible refine gate_store (t := 3) (p := 78) rfl ?_); (try (rw [drewN_self wr]; generalize hq_ : World.drewN wr _ = wr; have n0_ := Aside0.mk (Kd.S_at hq_ HO_5.out); have n1_ := Aside0.mk (Kd.R_at hq_ HL137.out); have n2_ := Aside0.mk (below_at hq_ HB.out); clear hq_ HO_5 HL137 HB; have HO_5 := n0_; have HL137 := n1_; have HB := n2_; clear n0_ n1_ n2_; (try (have hq53 : (x7_2 : Int) < (x5_3.length : Int) := (by have h_ : (x7_2 : Int) < ((x5_3.length : Int) : Int) := of_decide_eq_true (by first | (with_reducible assumption) | assumption); first | exact h_ | (have e_ := (Kd.S_reads' HO_5.out).1; omega) | simpa only [List.length_set, List.length_set] using h_))); (try (obtain ⟨oki53, ce53, hcl53, hM53, hcc53, hok53, hbk53⟩ := Kd.S_borrow HO_5.out [] (x7_2 : Int) (of_decide_eq_true (by first | (with_reducible assumption) | assumption)) hq53)); (try (obtain ⟨ve53_0, rfl, ge53_0⟩ := hM53)); (try (have hv53 := hcc53 0 _ rfl)); (try (rw [Nat.add_zero, show ((Kd.slice 3 (Kd.int .i64))).sz = 1 from rfl, Nat.mul_one] at hv53)); (try (replace hv53 := Option.some.inj (hv53.symm.trans HX121_0.out))); (try (subst hv53)); (try (clear hcc53 hcl53)); (try (replace ge53_0 := (show Kd.R (Kd.int .i64) 3 _ _ _ _ (rd_L1 x5_3 x7_2) from ge53_0))); (try (have HP53 := Kd.R_putg ge53_0 (x9_3 : Int) t124)))); refine store_event (t := 3) (p := 78) (v := ?vo_w54) (w1 := (wr.setCell ⟨go52, (x9_3 : Int).toNat, none⟩ (.int .i64 t124))) ?hg ?ho ?hn ?hr ?_; (case ho => rfl); (case hg => rfl); (case hn => rfl); (case hr => first | (go_simp; done) | (go_simp; rfl)); intro w54 hw; have hg : wr.grownBy w54 (some go52) := (by rw [hw]; exact HP53.2); have hz_ : Kd.R (Kd.int .i64) 3 w54 w.heap.size oki53 (.slice (some ⟨go52, 0, none⟩) (rd_L1 x5_3 x7_2).length c118_0) y125 := (by rw [hw, Ny125.out]; exact HP53.1); have hp_ : Kd.S (Kd.slice 3 (Kd.int .i64)) 43 w54 w.heap.size (fun _ => True) (.slice (some ad107) x5_3.length co15) y127 := (by rw [Ny127.out]; exact hbk53 hg (fun k_ e_ => by injection e_ with e_; subst e_; exact ge53_0.1 _ rfl) (Kd.M_row hz_)); have hm_ := Kd.R_mono hz_ hok53; clear HP53 hbk53; have n0_ := Aside0.mk (hp_); have n1_ := Aside0.mk ((by rw [hw]; exact below_set (HB.out) GB52.out : Below w.heap.size w w54)); have n2_ := Aside0.mk (hm_); have n3_ := Aside0.mk ((Kd.R_reads' hm_).2.1); clear HO_5; clear HB; clear HL116_0; clear HL118_0; clear HL121_0; clear HL122_0; have HO_5 := n0_; have HB := n1_; have HL137 := n2_; have HC126 := n3_; clear n0_ n1_ n2_ n3_; clear hg hw hp_ hz_ hm_ hok53)); try go_wp2_with (first | (go_at_call 60; (with_reducible refine (spec_l1Least.calls (rd (rd_L1 x5_3 (ji33)) x9_3) (rd (rd_L1 x5_3 x7_2) (ji40)) t120 _ A43.out).mono ?_); rintro e w' ⟨rfl, ⟨nd, rfl⟩⟩; (try first | exact ⟨rfl, _, World.drewN_drewN _ _ _⟩ | exact ⟨rfl, _, Eq.trans (World.drewN_drewN _ _ _) (congrArg (World.drewN _) (Nat.add_assoc _ _ _))⟩); have p45 : 0 ≤ (x7_2 : Int) := of_decide_eq_true (by first | (with_reducible assumption) | assumption); have q45 : x7_2 < (a0.size : Int) := of_decide_eq_true (by first | (with_reducible assumption) | assumption); have hx45 := bt_at a0 x7_2; replace p45 := eq_true p45; replace q45 := eq_true q45; have p47 : 0 ≤ (x9_3 : Int) := of_decide_eq_true (by first | (with_reducible assumption) | assumption); have q47 : x9_3 < (a1.size : Int) := of_decide_eq_true (by first | (with_reducible assumption) | assumption); have hx47 := bt_at a1 x9_3; replace p47 := eq_true p47; replace q47 := eq_true q47; have p121 : 0 ≤ (x7_2 : Int) := of_decide_eq_true (by first | (with_reducible assumption) | assumption); have q121 : x7_2 < (x5_3.length : Int) := of_decide_eq_true (by first | (with_reducible assumption) | assumption); obtain ⟨ad121, A121_0, c121_0, e121, hx121_0, hl121_0, hi121_0⟩ := at_L1 (Kd.S_reads' HO_5.out).2.2 x7_2 p121 q121; obtain rfl : ad107 = ad121 := (by injection e121); obtain ⟨ce121, hce121, hMe121, hcc121⟩ := Kd.S_get HO_5.out [] x7_2 p121 (by first | exact q121 | exact of_decide_eq_true (by first | (with_reducible assumption) | assumption) | (have e_ := (Kd.S_reads' HO_5.out).1; omega)); obtain ⟨ve121_0, rfl, ge121_0⟩ := hMe121; have hv121_0 := hcc121 0 _ rfl; rw [Nat.add_zero, show ((Kd.slice 3 (Kd.int .i64))).sz = 1 from rfl, Nat.mul_one] at hv121_0; replace hv121_0 := Option.some.inj (hv121_0.symm.trans hx121_0); rw [hv121_0] at ge121_0; have HL121_0 := Aside0.mk (show Kd.R (Kd.int .i64) 3 _ _ _ _ (rd_L1 x5_3 x7_2) from ge121_0); clear hv121_0 ge121_0; have HX121_0 := Aside0.mk hx121_0; (try (have eal_ := Option.some.inj (HE8.out.symm.trans hx121_0))); (try subst eal_); clear hcc121 hce121; have HR121_0 := Aside0.mk hi121_0; have HC121_0 := Aside0.mk hl121_0; clear hi121_0 hl121_0; replace p121 := eq_true p121; replace q121 := eq_true q121; have ea_ := Option.some.inj (hx118_0.symm.trans hx121_0); injection ea_ with ea_ en_ ec_; subst ea_; subst ec_; clear en_; have p122 : 0 ≤ ((ji33) : Int) := of_decide_eq_true (by first | (with_reducible assumption) | assumption); have q122 : (ji33) < (x5_3.length : Int) := of_decide_eq_true (by first | (with_reducible assumption) | assumption); obtain ⟨ad122, A122_0, c122_0, e122, hx122_0, hl122_0, hi122_0⟩ := at_L1 (Kd.S_reads' HO_5.out).2.2 (ji33) p122 q122; obtain rfl : ad107 = ad122 := (by injection e122); obtain ⟨ce122, hce122, hMe122, hcc122⟩ := Kd.S_get HO_5.out [] (ji33) p122 (by first | exact q122 | exact of_decide_eq_true (by first | (with_reducible assumption) | assumption) | (have e_ := (Kd.S_reads' HO_5.out).1; omega)); obtain ⟨ve122_0, rfl, ge122_0⟩ := hMe122; have hv122_0 := hcc122 0 _ rfl; rw [Nat.add_zero, show ((Kd.slice 3 (Kd.int .i64))).sz = 1 from rfl, Nat.mul_one] at hv122_0; replace hv122_0 := Option.some.inj (hv122_0.symm.trans hx122_0); rw [hv122_0] at ge122_0; have HL122_0 := Aside0.mk (show Kd.R (Kd.int .i64) 3 _ _ _ _ (rd_L1 x5_3 (ji33)) from ge122_0); clear hv122_0 ge122_0; have HX122_0 := Aside0.mk hx122_0; clear hcc122 hce122; have HR122_0 := Aside0.mk hi122_0; have HC122_0 := Aside0.mk hl122_0; clear hi122_0 hl122_0; replace p122 := eq_true p122; replace q122 := eq_true q122; have ea_ := Option.some.inj (hx116_0.symm.trans hx122_0); injection ea_ with ea_ en_ ec_; subst ea_; subst ec_; clear en_; have p123 : 0 ≤ ((ji40) : Int) := of_decide_eq_true (by first | (with_reducible assumption) | assumption); have q123 : (ji40) < ((rd_L1 x5_3 (ji33)).length : Int) := of_decide_eq_true (by first | (with_reducible assumption) | assumption); obtain ⟨ad123, e123, hx123_0⟩ := Kd.at_int (by repeat (first | (with_reducible exact HR122_0.out) | (with_reducible refine Kd.C_alloc ?_ _) | (with_reducible refine Kd.C_drewN ?_ _) | (with_reducible refine Kd.C_drew ?_) | exact HR122_0.out)) (ji40) p123 q123; cases e123; replace p123 := eq_true p123; replace q123 := eq_true q123) | (go_at_call 60; (with_reducible refine (spec_l1Least.calls (wrap64 (t120 + 1)) (wrap64 (rd (rd_L1 x5_3 (ji33)) (ji40))) t124 _ (by have h_ := A50.out; simp only [Int.add_zero] at h_; exact h_)).mono ?_); rintro e w' ⟨rfl, ⟨nd, rfl⟩⟩; (try first | exact ⟨rfl, _, World.drewN_drewN _ _ _⟩ | exact ⟨rfl, _, Eq.trans (World.drewN_drewN _ _ _) (congrArg (World.drewN _) (Nat.add_assoc _ _ _))⟩); have p52 : 0 ≤ (x9_3 : Int) := of_decide_eq_true (by first | (with_reducible assumption) | assumption); have q52 : (x9_3 : Int) < (((rd_L1 x5_3 x7_2).length : Int) : Int) := of_decide_eq_true (by first | (with_reducible assumption) | assumption); obtain ⟨go52, co52, eo52, gb52, gl52, cl52, HG52⟩ := Kd.R_form HL121_0.out (by omega); (first | cases eo52 | (injection eo52 with ea_ en_ ec_; (first | subst ea_ | (injection ea_ with ea_; subst ea_)); subst ec_; clear en_)); have GB52 := Aside0.mk gb52; have GG52 := Aside0.mk HG52; clear gb52 gl52 HG52; (first | simp only [add_plain] at hx119_0 | skip); obtain ⟨hx52_0, hf52_0⟩ := Kd.R_celln 0 HL121_0.out (x9_3 : Int) p52 q52; replace p52 := eq_true p52; replace q52 := eq_true q52; have hq53 : (x7_2 : Int) < (x5_3.length : Int) := (by have h_ : (x7_2 : Int) < ((x5_3.length : Int) : Int) := of_decide_eq_true (by first | (with_reducible assumption) | assumption); first | exact h_ | (have e_ := (Kd.S_reads' HO_5.out).1; omega) | simpa only [List.length_set, List.length_set] using h_); obtain ⟨oki53, ce53, hcl53, hM53, hcc53, hok53, hbk53⟩ := Kd.S_borrow HO_5.out [] (x7_2 : Int) (of_decide_eq_true (by first | (with_reducible assumption) | assumption)) hq53; obtain ⟨ve53_0, rfl, ge53_0⟩ := hM53; have hv53 := hcc53 0 _ rfl; rw [Nat.add_zero, show ((Kd.slice 3 (Kd.int .i64))).sz = 1 from rfl, Nat.mul_one] at hv53; replace hv53 := Option.some.inj (hv53.symm.trans HX121_0.out); subst hv53; clear hcc53 hcl53; replace ge53_0 := (show Kd.R (Kd.int .i64) 3 _ _ _ _ (rd_L1 x5_3 x7_2) from ge53_0); have HP53 := Kd.R_putg ge53_0 (x9_3 : Int) t124) | ((with_reducible refine gate_store (t := 3) (p := 78) rfl ?_); (try (rw [drewN_self wr]; generalize hq_ : World.drewN wr _ = wr; have n0_ := Aside0.mk (Kd.S_at hq_ HO_5.out); have n1_ := Aside0.mk (Kd.R_at hq_ HL137.out); have n2_ := Aside0.mk (below_at hq_ HB.out); clear hq_ HO_5 HL137 HB; have HO_5 := n0_; have HL137 := n1_; have HB := n2_; clear n0_ n1_ n2_; (try (have hq53 : (x7_2 : Int) < (x5_3.length : Int) := (by have h_ : (x7_2 : Int) < ((x5_3.length : Int) : Int) := of_decide_eq_true (by first | (with_reducible assumption) | assumption); first | exact h_ | (have e_ := (Kd.S_reads' HO_5.out).1; omega) | simpa only [List.length_set, List.length_set] using h_))); (try (obtain ⟨oki53, ce53, hcl53, hM53, hcc53, hok53, hbk53⟩ := Kd.S_borrow HO_5.out [] (x7_2 : Int) (of_decide_eq_true (by first | (with_reducible assumption) | assumption)) hq53)); (try (obtain ⟨ve53_0, rfl, ge53_0⟩ := hM53)); (try (have hv53 := hcc53 0 _ rfl)); (try (rw [Nat.add_zero, show ((Kd.slice 3 (Kd.int .i64))).sz = 1 from rfl, Nat.mul_one] at hv53)); (try (replace hv53 := Option.some.inj (hv53.symm.trans HX121_0.out))); (try (subst hv53)); (try (clear hcc53 hcl53)); (try (replace ge53_0 := (show Kd.R (Kd.int .i64) 3 _ _ _ _ (rd_L1 x5_3 x7_2) from ge53_0))); (try (have HP53 := Kd.R_putg ge53_0 (x9_3 : Int) t124)))); refine store_event (t := 3) (p := 78) (v := ?vo_w54) (w1 := (wr.setCell ⟨go52, (x9_3 : Int).toNat, none⟩ (.int .i64 t124))) ?hg ?ho ?hn ?hr ?_; (case ho => rfl); (case hg => rfl); (case hn => rfl); (case hr => first | (go_simp; done) | (go_simp; rfl)); intro w54 hw; have hg : wr.grownBy w54 (some go52) := (by rw [hw]; exact HP53.2); have hz_ : Kd.R (Kd.int .i64) 3 w54 w.heap.size oki53 (.slice (some ⟨go52, 0, none⟩) (rd_L1 x5_3 x7_2).length c118_0) y125 := (by rw [hw, Ny125.out]; exact HP53.1); have hp_ : Kd.S (Kd.slice 3 (Kd.int .i64)) 43 w54 w.heap.size (fun _ => True) (.slice (some ad107) x5_3.length co15) y127 := (by rw [Ny127.out]; exact hbk53 hg (fun k_ e_ => by injection e_ with e_; subst e_; exact ge53_0.1 _ rfl) (Kd.M_row hz_)); have hm_ := Kd.R_mono hz_ hok53; clear HP53 hbk53; have n0_ := Aside0.mk (hp_); have n1_ := Aside0.mk ((by rw [hw]; exact below_set (HB.out) GB52.out : Below w.heap.size w w54)); have n2_ := Aside0.mk (hm_); have n3_ := Aside0.mk ((Kd.R_reads' hm_).2.1); clear HO_5; clear HB; clear HL116_0; clear HL118_0; clear HL121_0; clear HL122_0; have HO_5 := n0_; have HB := n1_; have HL137 := n2_; have HC126 := n3_; clear n0_ n1_ n2_ n3_; clear hg hw hp_ hz_ hm_ hok53)))
                           generalize hq_ : World.drewN wr _ = wq_
                           have hs_ := spec_bkTable_alst (k := x9_3) (x := t124) (Kd.S_at hq_ HO_5.out) (of_eq_true p121) (of_eq_true q121) (cell_at hq_ HE8.out)
                           have n0_ := hs_.1
                           rw [← Ny125.out, ← Ny127.out] at n0_
                           have n1_ := Aside0.mk (below_set (below_at hq_ HB.out) hs_.2.2 (j := (x9_3 : Int).toNat) (v := .int .i64 t124))
                           have n2_ := Aside0.mk hs_.2.1
                           clear HO_5 HB HE8
                           have HO_5 := Aside0.mk n0_
                           have HB := n1_
                           have HE8 := n2_
                           clear n0_ n1_ n2_ hs_
                           (try simp only [← hl5_3])
                           go_roundg k3
                           case measure => have := HK1.out; have := HK2.out; have := HK3.out; omega
                           case rel => exact ⟨(y127), (wrap64 (x9_3 - 1)), (by first | rfl | (simp; done) | (simp [*]; done)), H', ⟨by have := HK1.out; have := HK2.out; have := HK3.out; omega⟩, ⟨by (try simp only [hl5_3]); (with_reducible repeat (first | apply Kd.S_alloc | apply Kd.S_drewN | apply Kd.S_drew)); exact HO_5.out⟩, ⟨by repeat (first | (with_reducible first | exact HB.out | apply below_alloc | apply pw_below_drewN | apply below_drew1) | exact HB.out)⟩, ⟨by exact HE8.out⟩⟩
                          ·
                           rw [if_neg c51] at H
                           exact absurd H (by simp)
                         ·
                          rw [if_neg c49] at H
                          exact absurd H (by simp)
                        ·
                         rw [if_neg c48] at H
                         have c48b0 : ((bt a0 x7_2) == (bt a1 x9_3)) = false := beq_eq_false_iff_ne.mpr c48
                         have c48b1 : ((bt a0 x7_2) != (bt a1 x9_3)) = true := bne_iff_ne.mpr c48
                         by_cases c55 : (ji40) < ((rd_L1 x5_3 (ji33)).length : Int)
                         ·
                          rw [if_pos c55] at H
                          have c55b0 : decide ((ji40) < ((rd_L1 x5_3 (ji33)).length : Int)) = true := decide_eq_true c55
                          (try (have c55b0_ := c55b0; rw [hl5_3] at c55b0_))
                          clear c55
                          replace H := Option.bind_eq_some_iff.mp H
                          obtain ⟨t131, A560, H⟩ := H
                          replace H : (if x9_3 < ((rd_L1 x5_3 x7_2).length : Int) then (spec_bkTable.l2 k3 a0 a1 (x5_3.set (x7_2 : Int).toNat ((rd_L1 x5_3 x7_2).set (x9_3 : Int).toNat t131)) x7_2 (wrap64 (x9_3 - 1))) else (none)) = some r := H
                          have A56 := Aside0.mk A560
                          clear A560
                          by_cases c57 : x9_3 < ((rd_L1 x5_3 x7_2).length : Int)
                          ·
                           rw [if_pos c57] at H
                           have c57b0 : decide (x9_3 < ((rd_L1 x5_3 x7_2).length : Int)) = true := decide_eq_true c57
                           (try (have c57b0_ := c57b0; rw [hl5_3] at c57b0_))
                           clear c57
                           obtain ⟨y132, hy132⟩ : ∃ y_ : List Int, y_ = ((rd_L1 x5_3 x7_2).set (x9_3 : Int).toNat t131) := ⟨_, rfl⟩
                           replace H : (spec_bkTable.l2 k3 a0 a1 (x5_3.set (x7_2 : Int).toNat y132) x7_2 (wrap64 (x9_3 - 1))) = some r := by first | (rw [hy132]; with_reducible exact H) | (have H2_ := (Option.bind_some _ _).symm.trans H; rw [hy132]; with_reducible exact H2_) | (have H2_ := (Option.bind_some _ _).symm.trans H; with_reducible exact H2_) | with_reducible exact H | (rw [hy132]; exact H) | exact H
                           have Ny132 := Aside0.mk hy132
                           clear hy132
                           obtain ⟨y134, hy134⟩ : ∃ y_ : List (List Int), y_ = (x5_3.set (x7_2 : Int).toNat y132) := ⟨_, rfl⟩
                           replace H : (spec_bkTable.l2 k3 a0 a1 y134 x7_2 (wrap64 (x9_3 - 1))) = some r := by first | (rw [hy134]; with_reducible exact H) | (have H2_ := (Option.bind_some _ _).symm.trans H; rw [hy134]; with_reducible exact H2_) | (have H2_ := (Option.bind_some _ _).symm.trans H; with_reducible exact H2_) | with_reducible exact H | (rw [hy134]; exact H) | exact H
                           have Ny134 := Aside0.mk hy134
                           clear hy134
                           have H' := Aside0.mk H
                           clear H
                           have p116 : 0 ≤ ((ji33) : Int) := of_decide_eq_true (by first | (with_reducible assumption) | assumption)
                           have q116 : (ji33) < (x5_3.length : Int) := of_decide_eq_true (by first | (with_reducible assumption) | assumption)
                           obtain ⟨ad116, A116_0, c116_0, e116, hx116_0, hl116_0, hi116_0⟩ := at_L1 (Kd.S_reads' HO_5.out).2.2 (ji33) p116 q116
                           obtain rfl : ad107 = ad116 := (by injection e116)
                           obtain ⟨ce116, hce116, hMe116, hcc116⟩ := Kd.S_get HO_5.out [] (ji33) p116 (by first | exact q116 | exact of_decide_eq_true (by first | (with_reducible assumption) | assumption) | (have e_ := (Kd.S_reads' HO_5.out).1; omega))
                           obtain ⟨ve116_0, rfl, ge116_0⟩ := hMe116
                           have hv116_0 := hcc116 0 _ rfl
                           rw [Nat.add_zero, show ((Kd.slice 3 (Kd.int .i64))).sz = 1 from rfl, Nat.mul_one] at hv116_0
                           replace hv116_0 := Option.some.inj (hv116_0.symm.trans hx116_0)
                           rw [hv116_0] at ge116_0
                           have HL116_0 := Aside0.mk (show Kd.R (Kd.int .i64) 3 _ _ _ _ (rd_L1 x5_3 (ji33)) from ge116_0)
                           clear hv116_0 ge116_0
                           have HX116_0 := Aside0.mk hx116_0
                           clear hcc116 hce116
                           have HR116_0 := Aside0.mk hi116_0
                           have HC116_0 := Aside0.mk hl116_0
                           clear hi116_0 hl116_0
                           replace p116 := eq_true p116
                           replace q116 := eq_true q116
                           have p117 : 0 ≤ (x9_3 : Int) := of_decide_eq_true (by first | (with_reducible assumption) | assumption)
                           have q117 : x9_3 < ((rd_L1 x5_3 (ji33)).length : Int) := of_decide_eq_true (by first | (with_reducible assumption) | assumption)
                           obtain ⟨ad117, e117, hx117_0⟩ := Kd.at_int (by repeat (first | (with_reducible exact HR116_0.out) | (with_reducible refine Kd.C_alloc ?_ _) | (with_reducible refine Kd.C_drewN ?_ _) | (with_reducible refine Kd.C_drew ?_) | exact HR116_0.out)) x9_3 p117 q117
                           cases e117
                           replace p117 := eq_true p117
                           replace q117 := eq_true q117
                           have p118 : 0 ≤ (x7_2 : Int) := of_decide_eq_true (by first | (with_reducible assumption) | assumption)
                           have q118 : x7_2 < (x5_3.length : Int) := of_decide_eq_true (by first | (with_reducible assumption) | assumption)
                           obtain ⟨ad118, A118_0, c118_0, e118, hx118_0, hl118_0, hi118_0⟩ := at_L1 (Kd.S_reads' HO_5.out).2.2 x7_2 p118 q118
                           obtain rfl : ad107 = ad118 := (by injection e118)
                           obtain ⟨ce118, hce118, hMe118, hcc118⟩ := Kd.S_get HO_5.out [] x7_2 p118 (by first | exact q118 | exact of_decide_eq_true (by first | (with_reducible assumption) | assumption) | (have e_ := (Kd.S_reads' HO_5.out).1; omega))
                           obtain ⟨ve118_0, rfl, ge118_0⟩ := hMe118
                           have hv118_0 := hcc118 0 _ rfl
                           rw [Nat.add_zero, show ((Kd.slice 3 (Kd.int .i64))).sz = 1 from rfl, Nat.mul_one] at hv118_0
                           replace hv118_0 := Option.some.inj (hv118_0.symm.trans hx118_0)
                           rw [hv118_0] at ge118_0
                           have HL118_0 := Aside0.mk (show Kd.R (Kd.int .i64) 3 _ _ _ _ (rd_L1 x5_3 x7_2) from ge118_0)
                           clear hv118_0 ge118_0
                           have HX118_0 := Aside0.mk hx118_0
                           (try (have eal_ := Option.some.inj (HE8.out.symm.trans hx118_0)))
                           (try subst eal_)
                           clear hcc118 hce118
                           have HR118_0 := Aside0.mk hi118_0
                           have HC118_0 := Aside0.mk hl118_0
                           clear hi118_0 hl118_0
                           replace p118 := eq_true p118
                           replace q118 := eq_true q118
                           have p119 : 0 ≤ ((ji40) : Int) := of_decide_eq_true (by first | (with_reducible assumption) | assumption)
                           have q119 : (ji40) < ((rd_L1 x5_3 x7_2).length : Int) := of_decide_eq_true (by first | (with_reducible assumption) | assumption)
                           obtain ⟨ad119, e119, hx119_0⟩ := Kd.at_int (by repeat (first | (with_reducible exact HR118_0.out) | (with_reducible refine Kd.C_alloc ?_ _) | (with_reducible refine Kd.C_drewN ?_ _) | (with_reducible refine Kd.C_drew ?_) | exact HR118_0.out)) (ji40) p119 q119
                           cases e119
                           replace p119 := eq_true p119
                           replace q119 := eq_true q119
                           go_wp2_with (first | (go_at_call 60; (with_reducible refine (spec_l1Least.calls (rd (rd_L1 x5_3 (ji33)) x9_3) (rd (rd_L1 x5_3 x7_2) (ji40)) t120 _ A43.out).mono ?_); rintro e w' ⟨rfl, ⟨nd, rfl⟩⟩; (try first | exact ⟨rfl, _, World.drewN_drewN _ _ _⟩ | exact ⟨rfl, _, Eq.trans (World.drewN_drewN _ _ _) (congrArg (World.drewN _) (Nat.add_assoc _ _ _))⟩); have p45 : 0 ≤ (x7_2 : Int) := of_decide_eq_true (by first | (with_reducible assumption) | assumption); have q45 : x7_2 < (a0.size : Int) := of_decide_eq_true (by first | (with_reducible assumption) | assumption); have hx45 := bt_at a0 x7_2; replace p45 := eq_true p45; replace q45 := eq_true q45; have p47 : 0 ≤ (x9_3 : Int) := of_decide_eq_true (by first | (with_reducible assumption) | assumption); have q47 : x9_3 < (a1.size : Int) := of_decide_eq_true (by first | (with_reducible assumption) | assumption); have hx47 := bt_at a1 x9_3; replace p47 := eq_true p47; replace q47 := eq_true q47; have p128 : 0 ≤ (x7_2 : Int) := of_decide_eq_true (by first | (with_reducible assumption) | assumption); have q128 : x7_2 < (x5_3.length : Int) := of_decide_eq_true (by first | (with_reducible assumption) | assumption); obtain ⟨ad128, A128_0, c128_0, e128, hx128_0, hl128_0, hi128_0⟩ := at_L1 (Kd.S_reads' HO_5.out).2.2 x7_2 p128 q128; obtain rfl : ad107 = ad128 := (by injection e128); obtain ⟨ce128, hce128, hMe128, hcc128⟩ := Kd.S_get HO_5.out [] x7_2 p128 (by first | exact q128 | exact of_decide_eq_true (by first | (with_reducible assumption) | assumption) | (have e_ := (Kd.S_reads' HO_5.out).1; omega)); obtain ⟨ve128_0, rfl, ge128_0⟩ := hMe128; have hv128_0 := hcc128 0 _ rfl; rw [Nat.add_zero, show ((Kd.slice 3 (Kd.int .i64))).sz = 1 from rfl, Nat.mul_one] at hv128_0; replace hv128_0 := Option.some.inj (hv128_0.symm.trans hx128_0); rw [hv128_0] at ge128_0; have HL128_0 := Aside0.mk (show Kd.R (Kd.int .i64) 3 _ _ _ _ (rd_L1 x5_3 x7_2) from ge128_0); clear hv128_0 ge128_0; have HX128_0 := Aside0.mk hx128_0; (try (have eal_ := Option.some.inj (HE8.out.symm.trans hx128_0))); (try subst eal_); clear hcc128 hce128; have HR128_0 := Aside0.mk hi128_0; have HC128_0 := Aside0.mk hl128_0; clear hi128_0 hl128_0; replace p128 := eq_true p128; replace q128 := eq_true q128; have ea_ := Option.some.inj (hx118_0.symm.trans hx128_0); injection ea_ with ea_ en_ ec_; subst ea_; subst ec_; clear en_; have p129 : 0 ≤ ((ji33) : Int) := of_decide_eq_true (by first | (with_reducible assumption) | assumption); have q129 : (ji33) < (x5_3.length : Int) := of_decide_eq_true (by first | (with_reducible assumption) | assumption); obtain ⟨ad129, A129_0, c129_0, e129, hx129_0, hl129_0, hi129_0⟩ := at_L1 (Kd.S_reads' HO_5.out).2.2 (ji33) p129 q129; obtain rfl : ad107 = ad129 := (by injection e129); obtain ⟨ce129, hce129, hMe129, hcc129⟩ := Kd.S_get HO_5.out [] (ji33) p129 (by first | exact q129 | exact of_decide_eq_true (by first | (with_reducible assumption) | assumption) | (have e_ := (Kd.S_reads' HO_5.out).1; omega)); obtain ⟨ve129_0, rfl, ge129_0⟩ := hMe129; have hv129_0 := hcc129 0 _ rfl; rw [Nat.add_zero, show ((Kd.slice 3 (Kd.int .i64))).sz = 1 from rfl, Nat.mul_one] at hv129_0; replace hv129_0 := Option.some.inj (hv129_0.symm.trans hx129_0); rw [hv129_0] at ge129_0; have HL129_0 := Aside0.mk (show Kd.R (Kd.int .i64) 3 _ _ _ _ (rd_L1 x5_3 (ji33)) from ge129_0); clear hv129_0 ge129_0; have HX129_0 := Aside0.mk hx129_0; clear hcc129 hce129; have HR129_0 := Aside0.mk hi129_0; have HC129_0 := Aside0.mk hl129_0; clear hi129_0 hl129_0; replace p129 := eq_true p129; replace q129 := eq_true q129; have ea_ := Option.some.inj (hx116_0.symm.trans hx129_0); injection ea_ with ea_ en_ ec_; subst ea_; subst ec_; clear en_; have p130 : 0 ≤ ((ji40) : Int) := of_decide_eq_true (by first | (with_reducible assumption) | assumption); have q130 : (ji40) < ((rd_L1 x5_3 (ji33)).length : Int) := of_decide_eq_true (by first | (with_reducible assumption) | assumption); obtain ⟨ad130, e130, hx130_0⟩ := Kd.at_int (by repeat (first | (with_reducible exact HR129_0.out) | (with_reducible refine Kd.C_alloc ?_ _) | (with_reducible refine Kd.C_drewN ?_ _) | (with_reducible refine Kd.C_drew ?_) | exact HR129_0.out)) (ji40) p130 q130; cases e130; replace p130 := eq_true p130; replace q130 := eq_true q130) | (go_at_call 60; (with_reducible refine (spec_l1Least.calls (wrap64 (t120 + 1)) (wrap64 ((rd (rd_L1 x5_3 (ji33)) (ji40)) + 1)) t131 _ A56.out).mono ?_); rintro e w' ⟨rfl, ⟨nd, rfl⟩⟩; (try first | exact ⟨rfl, _, World.drewN_drewN _ _ _⟩ | exact ⟨rfl, _, Eq.trans (World.drewN_drewN _ _ _) (congrArg (World.drewN _) (Nat.add_assoc _ _ _))⟩); have p58 : 0 ≤ (x9_3 : Int) := of_decide_eq_true (by first | (with_reducible assumption) | assumption); have q58 : (x9_3 : Int) < (((rd_L1 x5_3 x7_2).length : Int) : Int) := of_decide_eq_true (by first | (with_reducible assumption) | assumption); obtain ⟨go58, co58, eo58, gb58, gl58, cl58, HG58⟩ := Kd.R_form HL128_0.out (by omega); (first | cases eo58 | (injection eo58 with ea_ en_ ec_; (first | subst ea_ | (injection ea_ with ea_; subst ea_)); subst ec_; clear en_)); have GB58 := Aside0.mk gb58; have GG58 := Aside0.mk HG58; clear gb58 gl58 HG58; (first | simp only [add_plain] at hx119_0 | skip); obtain ⟨hx58_0, hf58_0⟩ := Kd.R_celln 0 HL128_0.out (x9_3 : Int) p58 q58; replace p58 := eq_true p58; replace q58 := eq_true q58; have hq59 : (x7_2 : Int) < (x5_3.length : Int) := (by have h_ : (x7_2 : Int) < ((x5_3.length : Int) : Int) := of_decide_eq_true (by first | (with_reducible assumption) | assumption); first | exact h_ | (have e_ := (Kd.S_reads' HO_5.out).1; omega) | simpa only [List.length_set, List.length_set] using h_); obtain ⟨oki59, ce59, hcl59, hM59, hcc59, hok59, hbk59⟩ := Kd.S_borrow HO_5.out [] (x7_2 : Int) (of_decide_eq_true (by first | (with_reducible assumption) | assumption)) hq59; obtain ⟨ve59_0, rfl, ge59_0⟩ := hM59; have hv59 := hcc59 0 _ rfl; rw [Nat.add_zero, show ((Kd.slice 3 (Kd.int .i64))).sz = 1 from rfl, Nat.mul_one] at hv59; replace hv59 := Option.some.inj (hv59.symm.trans HX128_0.out); subst hv59; clear hcc59 hcl59; replace ge59_0 := (show Kd.R (Kd.int .i64) 3 _ _ _ _ (rd_L1 x5_3 x7_2) from ge59_0); have HP59 := Kd.R_putg ge59_0 (x9_3 : Int) t131) | ((with_reducible refine gate_store (t := 3) (p := 78) rfl ?_); (try (rw [drewN_self wr]; generalize hq_ : World.drewN wr _ = wr; have n0_ := Aside0.mk (Kd.S_at hq_ HO_5.out); have n1_ := Aside0.mk (Kd.R_at hq_ HL128_0.out); have n2_ := Aside0.mk (below_at hq_ HB.out); have nx_ := Aside0.mk (cell_at hq_ HX128_0.out); clear HX128_0; have HX128_0 := nx_; clear nx_; have nf_ := spec_bkTable_alfr hq_ hf58_0; clear hf58_0; have hf58_0 := nf_; clear nf_; have ne8_ := Aside0.mk (cell_at hq_ HE8.out); clear HE8; have HE8 := ne8_; clear ne8_; clear hq_ HO_5 HL128_0 HB; have HO_5 := n0_; have HL128_0 := n1_; have HB := n2_; clear n0_ n1_ n2_; (try (have hq59 : (x7_2 : Int) < (x5_3.length : Int) := (by have h_ : (x7_2 : Int) < ((x5_3.length : Int) : Int) := of_decide_eq_true (by first | (with_reducible assumption) | assumption); first | exact h_ | (have e_ := (Kd.S_reads' HO_5.out).1; omega) | simpa only [List.length_set, List.length_set] using h_))); (try (obtain ⟨oki59, ce59, hcl59, hM59, hcc59, hok59, hbk59⟩ := Kd.S_borrow HO_5.out [] (x7_2 : Int) (of_decide_eq_true (by first | (with_reducible assumption) | assumption)) hq59)); (try (obtain ⟨ve59_0, rfl, ge59_0⟩ := hM59)); (try (have hv59 := hcc59 0 _ rfl)); (try (rw [Nat.add_zero, show ((Kd.slice 3 (Kd.int .i64))).sz = 1 from rfl, Nat.mul_one] at hv59)); (try (replace hv59 := Option.some.inj (hv59.symm.trans HX128_0.out))); (try (subst hv59)); (try (clear hcc59 hcl59)); (try (replace ge59_0 := (show Kd.R (Kd.int .i64) 3 _ _ _ _ (rd_L1 x5_3 x7_2) from ge59_0))); (try (have HP59 := Kd.R_putg ge59_0 (x9_3 : Int) t131)))); refine store_event (t := 3) (p := 78) (v := ?vo_w60) (w1 := (wr.setCell ⟨go58, (x9_3 : Int).toNat, none⟩ (.int .i64 t131))) ?hg ?ho ?hn ?hr ?_; (case ho => rfl); (case hg => rfl); (case hn => rfl); (case hr => first | (go_simp; done) | (go_simp; rfl)); intro w60 hw; have hg : wr.grownBy w60 (some go58) := (by rw [hw]; exact HP59.2); have hz_ : Kd.R (Kd.int .i64) 3 w60 w.heap.size oki59 (.slice (some ⟨go58, 0, none⟩) (rd_L1 x5_3 x7_2).length c118_0) y132 := (by rw [hw, Ny132.out]; exact HP59.1); have hp_ : Kd.S (Kd.slice 3 (Kd.int .i64)) 43 w60 w.heap.size (fun _ => True) (.slice (some ad107) x5_3.length co15) y134 := (by rw [Ny134.out]; exact hbk59 hg (fun k_ e_ => by injection e_ with e_; subst e_; exact ge59_0.1 _ rfl) (Kd.M_row hz_)); have hm_ := Kd.R_mono hz_ hok59; clear HP59 hbk59; have n0_ := Aside0.mk (hp_); have n1_ := Aside0.mk ((by rw [hw]; exact below_set (HB.out) GB58.out : Below w.heap.size w w60)); have n2_ := Aside0.mk (hm_); have n3_ := Aside0.mk ((Kd.R_reads' hm_).2.1); clear HO_5; clear HB; clear HL116_0; clear HL118_0; clear HL128_0; clear HL129_0; have HO_5 := n0_; have HB := n1_; have HL138 := n2_; have HC133 := n3_; clear n0_ n1_ n2_ n3_; have ne8_ := Aside0.mk (spec_bkTable_alkeep hg (spec_bkTable_alne (hok59 _ (ge59_0.1 _ rfl)).2) HE8.out); clear HE8; have HE8 := ne8_; clear ne8_; clear hg hw hp_ hz_ hm_ hok59))
                           repeat (go_quiet (first | (go_at_call 60; (with_reducible refine (spec_l1Least.calls (rd (rd_L1 x5_3 (ji33)) x9_3) (rd (rd_L1 x5_3 x7_2) (ji40)) t120 _ A43.out).mono ?_); rintro e w' ⟨rfl, ⟨nd, rfl⟩⟩; (try first | exact ⟨rfl, _, World.drewN_drewN _ _ _⟩ | exact ⟨rfl, _, Eq.trans (World.drewN_drewN _ _ _) (congrArg (World.drewN _) (Nat.add_assoc _ _ _))⟩); have p45 : 0 ≤ (x7_2 : Int) := of_decide_eq_true (by first | (with_reducible assumption) | assumption); have q45 : x7_2 < (a0.size : Int) := of_decide_eq_true (by first | (with_reducible assumption) | assumption); have hx45 := bt_at a0 x7_2; replace p45 := eq_true p45; replace q45 := eq_true q45; have p47 : 0 ≤ (x9_3 : Int) := of_decide_eq_true (by first | (with_reducible assumption) | assumption); have q47 : x9_3 < (a1.size : Int) := of_decide_eq_true (by first | (with_reducible assumption) | assumption); have hx47 := bt_at a1 x9_3; replace p47 := eq_true p47; replace q47 := eq_true q47; have p128 : 0 ≤ (x7_2 : Int) := of_decide_eq_true (by first | (with_reducible assumption) | assumption); have q128 : x7_2 < (x5_3.length : Int) := of_decide_eq_true (by first | (with_reducible assumption) | assumption); obtain ⟨ad128, A128_0, c128_0, e128, hx128_0, hl128_0, hi128_0⟩ := at_L1 (Kd.S_reads' HO_5.out).2.2 x7_2 p128 q128; obtain rfl : ad107 = ad128 := (by injection e128); obtain ⟨ce128, hce128, hMe128, hcc128⟩ := Kd.S_get HO_5.out [] x7_2 p128 (by first | exact q128 | exact of_decide_eq_true (by first | (with_reducible assumption) | assumption) | (have e_ := (Kd.S_reads' HO_5.out).1; omega)); obtain ⟨ve128_0, rfl, ge128_0⟩ := hMe128; have hv128_0 := hcc128 0 _ rfl; rw [Nat.add_zero, show ((Kd.slice 3 (Kd.int .i64))).sz = 1 from rfl, Nat.mul_one] at hv128_0; replace hv128_0 := Option.some.inj (hv128_0.symm.trans hx128_0); rw [hv128_0] at ge128_0; have HL128_0 := Aside0.mk (show Kd.R (Kd.int .i64) 3 _ _ _ _ (rd_L1 x5_3 x7_2) from ge128_0); clear hv128_0 ge128_0; have HX128_0 := Aside0.mk hx128_0; (try (have eal_ := Option.some.inj (HE8.out.symm.trans hx128_0))); (try subst eal_); clear hcc128 hce128; have HR128_0 := Aside0.mk hi128_0; have HC128_0 := Aside0.mk hl128_0; clear hi128_0 hl128_0; replace p128 := eq_true p128; replace q128 := eq_true q128; have ea_ := Option.some.inj (hx118_0.symm.trans hx128_0); injection ea_ with ea_ en_ ec_; subst ea_; subst ec_; clear en_; have p129 : 0 ≤ ((ji33) : Int) := of_decide_eq_true (by first | (with_reducible assumption) | assumption); have q129 : (ji33) < (x5_3.length : Int) := of_decide_eq_true (by first | (with_reducible assumption) | assumption); obtain ⟨ad129, A129_0, c129_0, e129, hx129_0, hl129_0, hi129_0⟩ := at_L1 (Kd.S_reads' HO_5.out).2.2 (ji33) p129 q129; obtain rfl : ad107 = ad129 := (by injection e129); obtain ⟨ce129, hce129, hMe129, hcc129⟩ := Kd.S_get HO_5.out [] (ji33) p129 (by first | exact q129 | exact of_decide_eq_true (by first | (with_reducible assumption) | assumption) | (have e_ := (Kd.S_reads' HO_5.out).1; omega)); obtain ⟨ve129_0, rfl, ge129_0⟩ := hMe129; have hv129_0 := hcc129 0 _ rfl; rw [Nat.add_zero, show ((Kd.slice 3 (Kd.int .i64))).sz = 1 from rfl, Nat.mul_one] at hv129_0; replace hv129_0 := Option.some.inj (hv129_0.symm.trans hx129_0); rw [hv129_0] at ge129_0; have HL129_0 := Aside0.mk (show Kd.R (Kd.int .i64) 3 _ _ _ _ (rd_L1 x5_3 (ji33)) from ge129_0); clear hv129_0 ge129_0; have HX129_0 := Aside0.mk hx129_0; clear hcc129 hce129; have HR129_0 := Aside0.mk hi129_0; have HC129_0 := Aside0.mk hl129_0; clear hi129_0 hl129_0; replace p129 := eq_true p129; replace q129 := eq_true q129; have ea_ := Option.some.inj (hx116_0.symm.trans hx129_0); injection ea_ with ea_ en_ ec_; subst ea_; subst ec_; clear en_; have p130 : 0 ≤ ((ji40) : Int) := of_decide_eq_true (by first | (with_reducible assumption) | assumption); have q130 : (ji40) < ((rd_L1 x5_3 (ji33)).length : Int) := of_decide_eq_true (by first | (with_reducible assumption) | assumption); obtain ⟨ad130, e130, hx130_0⟩ := Kd.at_int (by repeat (first | (with_reducible exact HR129_0.out) | (with_reducible refine Kd.C_alloc ?_ _) | (with_reducible refine Kd.C_drewN ?_ _) | (with_reducible refine Kd.C_drew ?_) | exact HR129_0.out)) (ji40) p130 q130; cases e130; replace p130 := eq_true p130; replace q130 := eq_true q130) | (go_at_call 60; (with_reducible refine (spec_l1Least.calls (wrap64 (t120 + 1)) (wrap64 ((rd (rd_L1 x5_3 (ji33)) (ji40)) + 1)) t131 _ A56.out).mono ?_); rintro e w' ⟨rfl, ⟨nd, rfl⟩⟩; (try first | exact ⟨rfl, _, World.drewN_drewN _ _ _⟩ | exact ⟨rfl, _, Eq.trans (World.drewN_drewN _ _ _) (congrArg (World.drewN _) (Nat.add_assoc _ _ _))⟩); have p58 : 0 ≤ (x9_3 : Int) := of_decide_eq_true (by first | (with_reducible assumption) | assumption); have q58 : (x9_3 : Int) < (((rd_L1 x5_3 x7_2).length : Int) : Int) := of_decide_eq_true (by first | (with_reducible assumption) | assumption); obtain ⟨go58, co58, eo58, gb58, gl58, cl58, HG58⟩ := Kd.R_form HL128_0.out (by omega); (first | cases eo58 | (injection eo58 with ea_ en_ ec_; (first | subst ea_ | (injection ea_ with ea_; subst ea_)); subst ec_; clear en_)); have GB58 := Aside0.mk gb58; have GG58 := Aside0.mk HG58; clear gb58 gl58 HG58; (first | simp only [add_plain] at hx119_0 | skip); obtain ⟨hx58_0, hf58_0⟩ := Kd.R_celln 0 HL128_0.out (x9_3 : Int) p58 q58; replace p58 := eq_true p58; replace q58 := eq_true q58; have hq59 : (x7_2 : Int) < (x5_3.length : Int) := (by have h_ : (x7_2 : Int) < ((x5_3.length : Int) : Int) := of_decide_eq_true (by first | (with_reducible assumption) | assumption); first | exact h_ | (have e_ := (Kd.S_reads' HO_5.out).1; omega) | simpa only [List.length_set, List.length_set] using h_); obtain ⟨oki59, ce59, hcl59, hM59, hcc59, hok59, hbk59⟩ := Kd.S_borrow HO_5.out [] (x7_2 : Int) (of_decide_eq_true (by first | (with_reducible assumption) | assumption)) hq59; obtain ⟨ve59_0, rfl, ge59_0⟩ := hM59; have hv59 := hcc59 0 _ rfl; rw [Nat.add_zero, show ((Kd.slice 3 (Kd.int .i64))).sz = 1 from rfl, Nat.mul_one] at hv59; replace hv59 := Option.some.inj (hv59.symm.trans HX128_0.out); subst hv59; clear hcc59 hcl59; replace ge59_0 := (show Kd.R (Kd.int .i64) 3 _ _ _ _ (rd_L1 x5_3 x7_2) from ge59_0); have HP59 := Kd.R_putg ge59_0 (x9_3 : Int) t131) | ((with_reducible refine gate_store (t := 3) (p := 78) rfl ?_); (try (rw [drewN_self wr]; generalize hq_ : World.drewN wr _ = wr; have n0_ := Aside0.mk (Kd.S_at hq_ HO_5.out); have n1_ := Aside0.mk (Kd.R_at hq_ HL138.out); have n2_ := Aside0.mk (below_at hq_ HB.out); clear hq_ HO_5 HL138 HB; have HO_5 := n0_; have HL138 := n1_; have HB := n2_; clear n0_ n1_ n2_; (try (have hq59 : (x7_2 : Int) < (x5_3.length : Int) := (by have h_ : (x7_2 : Int) < ((x5_3.length : Int) : Int) := of_decide_eq_true (by first | (with_reducible assumption) | assumption); first | exact h_ | (have e_ := (Kd.S_reads' HO_5.out).1; omega) | simpa only [List.length_set, List.length_set] using h_))); (try (obtain ⟨oki59, ce59, hcl59, hM59, hcc59, hok59, hbk59⟩ := Kd.S_borrow HO_5.out [] (x7_2 : Int) (of_decide_eq_true (by first | (with_reducible assumption) | assumption)) hq59)); (try (obtain ⟨ve59_0, rfl, ge59_0⟩ := hM59)); (try (have hv59 := hcc59 0 _ rfl)); (try (rw [Nat.add_zero, show ((Kd.slice 3 (Kd.int .i64))).sz = 1 from rfl, Nat.mul_one] at hv59)); (try (replace hv59 := Option.some.inj (hv59.symm.trans HX128_0.out))); (try (subst hv59)); (try (clear hcc59 hcl59)); (try (replace ge59_0 := (show Kd.R (Kd.int .i64) 3 _ _ _ _ (rd_L1 x5_3 x7_2) from ge59_0))); (try (have HP59 := Kd.R_putg ge59_0 (x9_3 : Int) t131)))); refine store_event (t := 3) (p := 78) (v := ?vo_w60) (w1 := (wr.setCell ⟨go58, (x9_3 : Int).toNat, none⟩ (.int .i64 t131))) ?hg ?ho ?hn ?hr ?_; (case ho => rfl); (case hg => rfl); (case hn => rfl); (case hr => first | (go_simp; done) | (go_simp; rfl)); intro w60 hw; have hg : wr.grownBy w60 (some go58) := (by rw [hw]; exact HP59.2); have hz_ : Kd.R (Kd.int .i64) 3 w60 w.heap.size oki59 (.slice (some ⟨go58, 0, none⟩) (rd_L1 x5_3 x7_2).length c118_0) y132 := (by rw [hw, Ny132.out]; exact HP59.1); have hp_ : Kd.S (Kd.slice 3 (Kd.int .i64)) 43 w60 w.heap.size (fun _ => True) (.slice (some ad107) x5_3.length co15) y134 := (by rw [Ny134.out]; exact hbk59 hg (fun k_ e_ => by injection e_ with e_; subst e_; exact ge59_0.1 _ rfl) (Kd.M_row hz_)); have hm_ := Kd.R_mono hz_ hok59; clear HP59 hbk59; have n0_ := Aside0.mk (hp_); have n1_ := Aside0.mk ((by rw [hw]; exact below_set (HB.out) GB58.out : Below w.heap.size w w60)); have n2_ := Aside0.mk (hm_); have n3_ := Aside0.mk ((Kd.R_reads' hm_).2.1); clear HO_5; clear HB; clear HL116_0; clear HL118_0; clear HL128_0; clear HL129_0; have HO_5 := n0_; have HB := n1_; have HL138 := n2_; have HC133 := n3_; clear n0_ n1_ n2_ n3_; clear hg hw hp_ hz_ hm_ hok59)); try go_wp2_with (first | (go_at_call 60; (with_reducible refine (spec_l1Least.calls (rd (rd_L1 x5_3 (ji33)) x9_3) (rd (rd_L1 x5_3 x7_2) (ji40)) t120 _ A43.out).mono ?_); rintro e w' ⟨rfl, ⟨nd, rfl⟩⟩; (try first | exact ⟨rfl, _, World.drewN_drewN _ _ _⟩ | exact ⟨rfl, _, Eq.trans (World.drewN_drewN _ _ _) (congrArg (World.drewN _) (Nat.add_assoc _ _ _))⟩); have p45 : 0 ≤ (x7_2 : Int) := of_decide_eq_true (by first | (with_reducible assumption) | assumption); have q45 : x7_2 < (a0.size : Int) := of_decide_eq_true (by first | (with_reducible assumption) | assumption); have hx45 := bt_at a0 x7_2; replace p45 := eq_true p45; replace q45 := eq_true q45; have p47 : 0 ≤ (x9_3 : Int) := of_decide_eq_true (by first | (with_reducible assumption) | assumption); have q47 : x9_3 < (a1.size : Int) := of_decide_eq_true (by first | (with_reducible assumption) | assumption); have hx47 := bt_at a1 x9_3; replace p47 := eq_true p47; replace q47 := eq_true q47; have p128 : 0 ≤ (x7_2 : Int) := of_decide_eq_true (by first | (with_reducible assumption) | assumption); have q128 : x7_2 < (x5_3.length : Int) := of_decide_eq_true (by first | (with_reducible assumption) | assumption); obtain ⟨ad128, A128_0, c128_0, e128, hx128_0, hl128_0, hi128_0⟩ := at_L1 (Kd.S_reads' HO_5.out).2.2 x7_2 p128 q128; obtain rfl : ad107 = ad128 := (by injection e128); obtain ⟨ce128, hce128, hMe128, hcc128⟩ := Kd.S_get HO_5.out [] x7_2 p128 (by first | exact q128 | exact of_decide_eq_true (by first | (with_reducible assumption) | assumption) | (have e_ := (Kd.S_reads' HO_5.out).1; omega)); obtain ⟨ve128_0, rfl, ge128_0⟩ := hMe128; have hv128_0 := hcc128 0 _ rfl; rw [Nat.add_zero, show ((Kd.slice 3 (Kd.int .i64))).sz = 1 from rfl, Nat.mul_one] at hv128_0; replace hv128_0 := Option.some.inj (hv128_0.symm.trans hx128_0); rw [hv128_0] at ge128_0; have HL128_0 := Aside0.mk (show Kd.R (Kd.int .i64) 3 _ _ _ _ (rd_L1 x5_3 x7_2) from ge128_0); clear hv128_0 ge128_0; have HX128_0 := Aside0.mk hx128_0; (try (have eal_ := Option.some.inj (HE8.out.symm.trans hx128_0))); (try subst eal_); clear hcc128 hce128; have HR128_0 := Aside0.mk hi128_0; have HC128_0 := Aside0.mk hl128_0; clear hi128_0 hl128_0; replace p128 := eq_true p128; replace q128 := eq_true q128; have ea_ := Option.some.inj (hx118_0.symm.trans hx128_0); injection ea_ with ea_ en_ ec_; subst ea_; subst ec_; clear en_; have p129 : 0 ≤ ((ji33) : Int) := of_decide_eq_true (by first | (with_reducible assumption) | assumption); have q129 : (ji33) < (x5_3.length : Int) := of_decide_eq_true (by first | (with_reducible assumption) | assumption); obtain ⟨ad129, A129_0, c129_0, e129, hx129_0, hl129_0, hi129_0⟩ := at_L1 (Kd.S_reads' HO_5.out).2.2 (ji33) p129 q129; obtain rfl : ad107 = ad129 := (by injection e129); obtain ⟨ce129, hce129, hMe129, hcc129⟩ := Kd.S_get HO_5.out [] (ji33) p129 (by first | exact q129 | exact of_decide_eq_true (by first | (with_reducible assumption) | assumption) | (have e_ := (Kd.S_reads' HO_5.out).1; omega)); obtain ⟨ve129_0, rfl, ge129_0⟩ := hMe129; have hv129_0 := hcc129 0 _ rfl; rw [Nat.add_zero, show ((Kd.slice 3 (Kd.int .i64))).sz = 1 from rfl, Nat.mul_one] at hv129_0; replace hv129_0 := Option.some.inj (hv129_0.symm.trans hx129_0); rw [hv129_0] at ge129_0; have HL129_0 := Aside0.mk (show Kd.R (Kd.int .i64) 3 _ _ _ _ (rd_L1 x5_3 (ji33)) from ge129_0); clear hv129_0 ge129_0; have HX129_0 := Aside0.mk hx129_0; clear hcc129 hce129; have HR129_0 := Aside0.mk hi129_0; have HC129_0 := Aside0.mk hl129_0; clear hi129_0 hl129_0; replace p129 := eq_true p129; replace q129 := eq_true q129; have ea_ := Option.some.inj (hx116_0.symm.trans hx129_0); injection ea_ with ea_ en_ ec_; subst ea_; subst ec_; clear en_; have p130 : 0 ≤ ((ji40) : Int) := of_decide_eq_true (by first | (with_reducible assumption) | assumption); have q130 : (ji40) < ((rd_L1 x5_3 (ji33)).length : Int) := of_decide_eq_true (by first | (with_reducible assumption) | assumption); obtain ⟨ad130, e130, hx130_0⟩ := Kd.at_int (by repeat (first | (with_reducible exact HR129_0.out) | (with_reducible refine Kd.C_alloc ?_ _) | (with_reducible refine Kd.C_drewN ?_ _) | (with_reducible refine Kd.C_drew ?_) | exact HR129_0.out)) (ji40) p130 q130; cases e130; replace p130 := eq_true p130; replace q130 := eq_true q130) | (go_at_call 60; (with_reducible refine (spec_l1Least.calls (wrap64 (t120 + 1)) (wrap64 ((rd (rd_L1 x5_3 (ji33)) (ji40)) + 1)) t131 _ A56.out).mono ?_); rintro e w' ⟨rfl, ⟨nd, rfl⟩⟩; (try first | exact ⟨rfl, _, World.drewN_drewN _ _ _⟩ | exact ⟨rfl, _, Eq.trans (World.drewN_drewN _ _ _) (congrArg (World.drewN _) (Nat.add_assoc _ _ _))⟩); have p58 : 0 ≤ (x9_3 : Int) := of_decide_eq_true (by first | (with_reducible assumption) | assumption); have q58 : (x9_3 : Int) < (((rd_L1 x5_3 x7_2).length : Int) : Int) := of_decide_eq_true (by first | (with_reducible assumption) | assumption); obtain ⟨go58, co58, eo58, gb58, gl58, cl58, HG58⟩ := Kd.R_form HL128_0.out (by omega); (first | cases eo58 | (injection eo58 with ea_ en_ ec_; (first | subst ea_ | (injection ea_ with ea_; subst ea_)); subst ec_; clear en_)); have GB58 := Aside0.mk gb58; have GG58 := Aside0.mk HG58; clear gb58 gl58 HG58; (first | simp only [add_plain] at hx119_0 | skip); obtain ⟨hx58_0, hf58_0⟩ := Kd.R_celln 0 HL128_0.out (x9_3 : Int) p58 q58; replace p58 := eq_true p58; replace q58 := eq_true q58; have hq59 : (x7_2 : Int) < (x5_3.length : Int) := (by have h_ : (x7_2 : Int) < ((x5_3.length : Int) : Int) := of_decide_eq_true (by first | (with_reducible assumption) | assumption); first | exact h_ | (have e_ := (Kd.S_reads' HO_5.out).1; omega) | simpa only [List.length_set, List.length_set] using h_); obtain ⟨oki59, ce59, hcl59, hM59, hcc59, hok59, hbk59⟩ := Kd.S_borrow HO_5.out [] (x7_2 : Int) (of_decide_eq_true (by first | (with_reducible assumption) | assumption)) hq59; obtain ⟨ve59_0, rfl, ge59_0⟩ := hM59; have hv59 := hcc59 0 _ rfl; rw [Nat.add_zero, show ((Kd.slice 3 (Kd.int .i64))).sz = 1 from rfl, Nat.mul_one] at hv59; replace hv59 := Option.some.inj (hv59.symm.trans HX128_0.out); subst hv59; clear hcc59 hcl59; replace ge59_0 := (show Kd.R (Kd.int .i64) 3 _ _ _ _ (rd_L1 x5_3 x7_2) from ge59_0); have HP59 := Kd.R_putg ge59_0 (x9_3 : Int) t131) | ((with_reducible refine gate_store (t := 3) (p := 78) rfl ?_); (try (rw [drewN_self wr]; generalize hq_ : World.drewN wr _ = wr; have n0_ := Aside0.mk (Kd.S_at hq_ HO_5.out); have n1_ := Aside0.mk (Kd.R_at hq_ HL138.out); have n2_ := Aside0.mk (below_at hq_ HB.out); clear hq_ HO_5 HL138 HB; have HO_5 := n0_; have HL138 := n1_; have HB := n2_; clear n0_ n1_ n2_; (try (have hq59 : (x7_2 : Int) < (x5_3.length : Int) := (by have h_ : (x7_2 : Int) < ((x5_3.length : Int) : Int) := of_decide_eq_true (by first | (with_reducible assumption) | assumption); first | exact h_ | (have e_ := (Kd.S_reads' HO_5.out).1; omega) | simpa only [List.length_set, List.length_set] using h_))); (try (obtain ⟨oki59, ce59, hcl59, hM59, hcc59, hok59, hbk59⟩ := Kd.S_borrow HO_5.out [] (x7_2 : Int) (of_decide_eq_true (by first | (with_reducible assumption) | assumption)) hq59)); (try (obtain ⟨ve59_0, rfl, ge59_0⟩ := hM59)); (try (have hv59 := hcc59 0 _ rfl)); (try (rw [Nat.add_zero, show ((Kd.slice 3 (Kd.int .i64))).sz = 1 from rfl, Nat.mul_one] at hv59)); (try (replace hv59 := Option.some.inj (hv59.symm.trans HX128_0.out))); (try (subst hv59)); (try (clear hcc59 hcl59)); (try (replace ge59_0 := (show Kd.R (Kd.int .i64) 3 _ _ _ _ (rd_L1 x5_3 x7_2) from ge59_0))); (try (have HP59 := Kd.R_putg ge59_0 (x9_3 : Int) t131)))); refine store_event (t := 3) (p := 78) (v := ?vo_w60) (w1 := (wr.setCell ⟨go58, (x9_3 : Int).toNat, none⟩ (.int .i64 t131))) ?hg ?ho ?hn ?hr ?_; (case ho => rfl); (case hg => rfl); (case hn => rfl); (case hr => first | (go_simp; done) | (go_simp; rfl)); intro w60 hw; have hg : wr.grownBy w60 (some go58) := (by rw [hw]; exact HP59.2); have hz_ : Kd.R (Kd.int .i64) 3 w60 w.heap.size oki59 (.slice (some ⟨go58, 0, none⟩) (rd_L1 x5_3 x7_2).length c118_0) y132 := (by rw [hw, Ny132.out]; exact HP59.1); have hp_ : Kd.S (Kd.slice 3 (Kd.int .i64)) 43 w60 w.heap.size (fun _ => True) (.slice (some ad107) x5_3.length co15) y134 := (by rw [Ny134.out]; exact hbk59 hg (fun k_ e_ => by injection e_ with e_; subst e_; exact ge59_0.1 _ rfl) (Kd.M_row hz_)); have hm_ := Kd.R_mono hz_ hok59; clear HP59 hbk59; have n0_ := Aside0.mk (hp_); have n1_ := Aside0.mk ((by rw [hw]; exact below_set (HB.out) GB58.out : Below w.heap.size w w60)); have n2_ := Aside0.mk (hm_); have n3_ := Aside0.mk ((Kd.R_reads' hm_).2.1); clear HO_5; clear HB; clear HL116_0; clear HL118_0; clear HL128_0; clear HL129_0; have HO_5 := n0_; have HB := n1_; have HL138 := n2_; have HC133 := n3_; clear n0_ n1_ n2_ n3_; clear hg hw hp_ hz_ hm_ hok59)))
                           generalize hq_ : World.drewN wr _ = wq_
                           have hs_ := spec_bkTable_alst (k := x9_3) (x := t131) (Kd.S_at hq_ HO_5.out) (of_eq_true p128) (of_eq_true q128) (cell_at hq_ HE8.out)
                           have n0_ := hs_.1
                           rw [← Ny132.out, ← Ny134.out] at n0_
                           have n1_ := Aside0.mk (below_set (below_at hq_ HB.out) hs_.2.2 (j := (x9_3 : Int).toNat) (v := .int .i64 t131))
                           have n2_ := Aside0.mk hs_.2.1
                           clear HO_5 HB HE8
                           have HO_5 := Aside0.mk n0_
                           have HB := n1_
                           have HE8 := n2_
                           clear n0_ n1_ n2_ hs_
                           (try simp only [← hl5_3])
                           go_roundg k3
                           case measure => have := HK1.out; have := HK2.out; have := HK3.out; omega
                           case rel => exact ⟨(y134), (wrap64 (x9_3 - 1)), (by first | rfl | (simp; done) | (simp [*]; done)), H', ⟨by have := HK1.out; have := HK2.out; have := HK3.out; omega⟩, ⟨by (try simp only [hl5_3]); (with_reducible repeat (first | apply Kd.S_alloc | apply Kd.S_drewN | apply Kd.S_drew)); exact HO_5.out⟩, ⟨by repeat (first | (with_reducible first | exact HB.out | apply below_alloc | apply pw_below_drewN | apply below_drew1) | exact HB.out)⟩, ⟨by exact HE8.out⟩⟩
                          ·
                           rw [if_neg c57] at H
                           exact absurd H (by simp)
                         ·
                          rw [if_neg c55] at H
                          exact absurd H (by simp)
                       ·
                        rw [if_neg c46] at H
                        exact absurd H (by simp)
                      ·
                       rw [if_neg c44] at H
                       exact absurd H (by simp)
                     ·
                      rw [if_neg c42] at H
                      exact absurd H (by simp)
                    ·
                     rw [if_neg c41] at H
                     exact absurd H (by simp)
                   ·
                    rw [if_neg c39] at H
                    exact absurd H (by simp)
                  ·
                   rw [if_neg c38] at H
                   exact absurd H (by simp)
                 ·
                  rw [if_neg c37] at H
                  exact absurd H (by simp)
                ·
                 rw [if_neg c36] at H
                 exact absurd H (by simp)
               ·
                rw [if_neg c35] at H
                exact absurd H (by simp)
              ·
               rw [if_neg c34] at H
               exact absurd H (by simp)
           ·
            rw [if_neg c16] at H
            have c16b0 : decide (0 ≤ x9_3) = false := decide_eq_false c16
            clear c16
            have H' := Aside0.mk H
            clear H
            go_wp2
            repeat (go_quiet (fail); try go_wp2)
            (try simp only [← hl5_3])
            go_roundg k3
            case measure => have := HK1.out; have := HK2.out; have := HK3.out; omega
            case rel => exact ⟨(x5_3), (wrap64 (x7_2 - 1)), (by first | rfl | (simp; done) | (simp [*]; done)), H', ⟨by have := HK1.out; have := HK2.out; have := HK3.out; omega⟩, ⟨by (try simp only [hl5_3]); (with_reducible repeat (first | apply Kd.S_alloc | apply Kd.S_drewN | apply Kd.S_drew)); exact HO_5.out⟩, ⟨by repeat (first | (with_reducible first | exact HB.out | apply below_alloc | apply pw_below_drewN | apply below_drew1) | exact HB.out)⟩⟩
        ·
         rw [if_neg c14] at H
         exact absurd H (by simp)
       ·
        rw [if_neg c13] at H
        exact absurd H (by simp)
      ·
       rw [if_neg c12] at H
       have c12b0 : decide (0 ≤ x7_2) = false := decide_eq_false c12
       clear c12
       obtain rfl := Option.some.inj H
       go_wp2
       repeat (go_quiet (fail); try go_wp2)
       go_ret
       exact ⟨_, by first | rfl | (simp [errW_none, errW_some] <;> rfl) | (simp [*, errW_none, errW_some] <;> rfl), by (with_reducible repeat (first | apply Kd.S_alloc | apply Kd.S_drewN | apply Kd.S_drew)); exact HO_5.out, by repeat (first | (with_reducible first | exact HB.out | apply below_alloc | apply pw_below_drewN | apply below_drew1) | exact HB.out)⟩

end Go.Proofs.YtamhlbdjjfdbiaaDoor.P

-- printed by xprint.py
namespace Go.Proofs.YtamhlbdjjfdbiaaDoor.P
open Go.RowKit Go.Proofs.YtamhlbdjjfdbiaaDoorW.PrintWords Go.Proofs.YtamhlbdjjfdbiaaDoorW.PrintLast Go.Proofs.YtamhlbdjjfdbiaaDoorW.PrintMore
attribute [local go_sem] max2_int min2_int max_two min_two max_three min_three max_four min_four   -- for this text's walks alone
set_option linter.unusedVariables false
set_option linter.unusedSimpArgs false

/-! ### spec_bkFar: function 36 -/
def spec_bkFar.f (k : Nat) (a0 : ByteArray) (a1 : ByteArray) : Option (Int) := (spec_bkTable.f k a0 a1).bind fun t101 => (if 0 < (t101.length : Int) then (if 0 < ((rd_L1 t101 0).length : Int) then (some (rd (rd_L1 t101 0) 0)) else (none)) else (none))
theorem spec_bkFar.mono : ∀ y0 y1 k, LeO (spec_bkFar.f k y0 y1) (spec_bkFar.f (k + 1) y0 y1) := by
 intro y0 y1 k
 unfold spec_bkFar.f
 repeat' first
   | (with_reducible exact spec_bkTable.mono _ _ _)
   | (with_reducible exact LeO.refl _)
   | (with_reducible exact LeO.none _)
   | (with_reducible refine LeO.ite ?_ ?_)
   | (with_reducible refine LeO.bind ?_ (fun _ => ?_))
   | exact spec_bkTable.mono _ _ _
   | exact LeO.none _
   | refine LeO.ite ?_ ?_
   | refine LeO.bind ?_ (fun _ => ?_)
set_option maxHeartbeats 8000000 in
set_option maxRecDepth 100000 in
theorem spec_bkFar.calls (k : Nat) (a0 : ByteArray) (a1 : ByteArray) (r : Int) (w : World) (h : spec_bkFar.f k a0 a1 = some r) :
  Calls Tryd.prog 36 #[.string a0, .string a1] w fun e w' => e = .returned (.int .i64 r) ∧ Below w.heap.size w w' := by
 have HB := Aside0.mk (Below.refl w.heap.size w)
 have H : ((spec_bkTable.f k a0 a1).bind fun t101 => (if 0 < (t101.length : Int) then (if 0 < ((rd_L1 t101 0).length : Int) then (some (rd (rd_L1 t101 0) 0)) else (none)) else (none))) = some r := h
 clear h
 replace H := Option.bind_eq_some_iff.mp H
 obtain ⟨t101, A30, H⟩ := H
 replace H : (if 0 < (t101.length : Int) then (if 0 < ((rd_L1 t101 0).length : Int) then (some (rd (rd_L1 t101 0) 0)) else (none)) else (none)) = some r := H
 have A3 := Aside0.mk A30
 clear A30
 by_cases c4 : 0 < (t101.length : Int)
 ·
  rw [if_pos c4] at H
  have c4b0 : decide (0 < (t101.length : Int)) = true := decide_eq_true c4
  have c4b1 : decide (0 < t101.length) = true := decide_eq_true (by omega)
  clear c4
  by_cases c5 : 0 < ((rd_L1 t101 0).length : Int)
  ·
   rw [if_pos c5] at H
   have c5b0 : decide (0 < ((rd_L1 t101 0).length : Int)) = true := decide_eq_true c5
   have c5b1 : decide (0 < (rd_L1 t101 0).length) = true := decide_eq_true (by omega)
   clear c5
   obtain rfl := Option.some.inj H
   go_enter Tryd.func36, Tryd.ntmps36
   go_wp2_with (first | ((with_reducible refine gate_callee (f := 39) rfl ?_); refine goesL_ (some 7) rfl rfl Tryd.func39 (by kernel_rfl) rfl #[.string a0, .string a1] rfl (by (try simp only [List.map_toArray, List.map_cons, List.map_nil]); first | done | rfl | (simp only [List.length_drop, List.length_take]; rfl)) ?_; (with_reducible refine (spec_bkTable.calls k a0 a1 t101 _ A3.out).mono ?_); rintro e w6 ⟨v102, rfl, ho0, hb⟩; refine ⟨_, rfl, ?_⟩; have n0_ := Aside0.mk (Kd.S_lower ho0 (below_size (by repeat (first | (with_reducible first | exact HB.out | apply below_alloc | apply pw_below_drewN | apply below_drew1) | exact HB.out)))); have n1_ := Aside0.mk (below_step (by repeat (first | (with_reducible first | exact HB.out | apply below_alloc | apply pw_below_drewN | apply below_drew1) | exact HB.out)) hb); clear HB; have HO103 := n0_; have HB := n1_; clear n0_ n1_; (try clear hb); (try clear hb2); (try clear hk); (try clear hi); (try clear ho0); obtain ⟨Ao7, co7, eo7⟩ := Kd.S_slice HO103.out; subst eo7; have p104 : 0 ≤ (0 : Int) := (by omega); have q104 : 0 < (t101.length : Int) := of_decide_eq_true (by first | (with_reducible assumption) | assumption); obtain ⟨ad104, A104_0, c104_0, e104, hx104_0, hl104_0, hi104_0⟩ := at_L1 (Kd.S_reads' HO103.out).2.2 0 p104 q104; cases e104; obtain ⟨ce104, hce104, hMe104, hcc104⟩ := Kd.S_get HO103.out [] 0 p104 (by first | exact q104 | exact of_decide_eq_true (by first | (with_reducible assumption) | assumption) | (have e_ := (Kd.S_reads' HO103.out).1; omega)); obtain ⟨ve104_0, rfl, ge104_0⟩ := hMe104; have hv104_0 := hcc104 0 _ rfl; rw [Nat.add_zero, show ((Kd.slice 3 (Kd.int .i64))).sz = 1 from rfl, Nat.mul_one] at hv104_0; replace hv104_0 := Option.some.inj (hv104_0.symm.trans hx104_0); rw [hv104_0] at ge104_0; have HL104_0 := Aside0.mk (show Kd.R (Kd.int .i64) 3 _ _ _ _ (rd_L1 t101 0) from ge104_0); clear hv104_0 ge104_0; clear hcc104 hce104; have qi104 : (0 < t101.length) = True := eq_true (by omega); (try rw [show ((0 : Int)).toNat = 0 from rfl] at hx104_0); (try rw [Addr.add_zero'] at hx104_0); have HR104_0 := Aside0.mk hi104_0; have HC104_0 := Aside0.mk hl104_0; clear hi104_0 hl104_0; replace p104 := eq_true p104; replace q104 := eq_true q104; have p105 : 0 ≤ (0 : Int) := (by omega); have q105 : 0 < ((rd_L1 t101 0).length : Int) := of_decide_eq_true (by first | (with_reducible assumption) | assumption); obtain ⟨ad105, e105, hx105_0⟩ := Kd.at_int (by repeat (first | (with_reducible exact HR104_0.out) | (with_reducible refine Kd.C_alloc ?_ _) | (with_reducible refine Kd.C_drewN ?_ _) | (with_reducible refine Kd.C_drew ?_) | exact HR104_0.out)) 0 p105 q105; cases e105; have qi105 : (0 < (rd_L1 t101 0).length) = True := eq_true (by omega); (try rw [show ((0 : Int)).toNat = 0 from rfl] at hx105_0); (try rw [Addr.add_zero'] at hx105_0); replace p105 := eq_true p105; replace q105 := eq_true q105))
   go_ret
   exact ⟨by first | rfl | (simp [errW_none, errW_some] <;> rfl) | (simp [*, errW_none, errW_some] <;> rfl), by repeat (first | (with_reducible first | exact HB.out | apply below_alloc | apply pw_below_drewN | apply below_drew1) | exact HB.out)⟩
  ·
   rw [if_neg c5] at H
   exact absurd H (by simp)
 ·
  rw [if_neg c4] at H
  exact absurd H (by simp)

end Go.Proofs.YtamhlbdjjfdbiaaDoor.P

-- printed by xprint.py
namespace Go.Proofs.YtamhlbdjjfdbiaaDoor.P
open Go.RowKit Go.Proofs.YtamhlbdjjfdbiaaDoorW.PrintWords Go.Proofs.YtamhlbdjjfdbiaaDoorW.PrintLast Go.Proofs.YtamhlbdjjfdbiaaDoorW.PrintMore
attribute [local go_sem] max2_int min2_int max_two min_two max_three min_three max_four min_four   -- for this text's walks alone
set_option linter.unusedVariables false
set_option linter.unusedSimpArgs false

/-! ### spec_bkText: function 40 -/
def spec_bkText.l0 : Nat → ByteArray → Int → Option (Bool)
 | 0, _, _ => none
 | k + 1, x0, x3 => if x3 < (x0.size : Int) then (if 0 ≤ x3 then (if (bt x0 x3) < 97 then (some false) else (if (bt x0 x3) > 122 then (some false) else (spec_bkText.l0 k x0 (wrap64 (x3 + 1))))) else (none)) else (some true)
def spec_bkText.f (k : Nat) (a0 : ByteArray) : Option (Bool) := if (a0.size : Int) > 20 then (some false) else (spec_bkText.l0 k a0 0)
theorem spec_bkText.mono_l : ∀ k, (∀ y0 y1, LeO (spec_bkText.l0 k y0 y1) (spec_bkText.l0 (k + 1) y0 y1))
 | 0 => by intros; intro r h; simp [spec_bkText.l0] at h
 | k + 1 => by
  have ih0 := spec_bkText.mono_l k
  ·
   intro y0 y1
   unfold spec_bkText.l0
   repeat' first
   | (with_reducible exact ih0 _ _)
   | (with_reducible exact LeO.refl _)
   | (with_reducible exact LeO.none _)
   | (with_reducible refine LeO.ite ?_ ?_)
   | (with_reducible refine LeO.bind ?_ (fun _ => ?_))
   | exact ih0 _ _
   | exact LeO.none _
   | refine LeO.ite ?_ ?_
   | refine LeO.bind ?_ (fun _ => ?_)
theorem spec_bkText.mono : ∀ y0 k, LeO (spec_bkText.f k y0) (spec_bkText.f (k + 1) y0) := by
 intro y0 k
 have ih0 := spec_bkText.mono_l k
 unfold spec_bkText.f
 repeat' first
   | (with_reducible exact ih0 _ _)
   | (with_reducible exact LeO.refl _)
   | (with_reducible exact LeO.none _)
   | (with_reducible refine LeO.ite ?_ ?_)
   | (with_reducible refine LeO.bind ?_ (fun _ => ?_))
   | exact ih0 _ _
   | exact LeO.none _
   | refine LeO.ite ?_ ?_
   | refine LeO.bind ?_ (fun _ => ?_)
set_option maxHeartbeats 8000000 in
set_option maxRecDepth 100000 in
theorem spec_bkText.calls (k : Nat) (a0 : ByteArray) (r : Bool) (w : World) (h : spec_bkText.f k a0 = some r) :
  Calls Tryd.prog 40 #[.string a0] w fun e w' => e = .returned (.bool r) ∧ Drawn0 w w' := by
 have H : (if (a0.size : Int) > 20 then (some false) else (spec_bkText.l0 k a0 0)) = some r := h
 clear h
 by_cases c2 : (a0.size : Int) > 20
 ·
  rw [if_pos c2] at H
  have c2b0 : decide (20 < (a0.size : Int)) = true := decide_eq_true c2
  have c2b1 : decide (20 < a0.size) = true := decide_eq_true (by omega)
  clear c2
  obtain rfl := Option.some.inj H
  go_enter Tryd.func40, Tryd.ntmps40
  go_wp2
  go_ret
  exact ⟨by first | rfl | (simp; done) | (simp [*]; done), by repeat (first | exact Drawn0.refl _ | apply Drawn0.step)⟩
 ·
  rw [if_neg c2] at H
  have c2b0 : decide (20 < (a0.size : Int)) = false := decide_eq_false c2
  have c2b1 : decide (20 < a0.size) = false := decide_eq_false (by omega)
  clear c2
  have H' := Aside0.mk H
  clear H
  go_enter Tryd.func40, Tryd.ntmps40
  go_wp2
  go_loopg [3] k (fun kq v3 w' => ∃ (x3_1 : Int), v3 = .int .i64 x3_1 ∧ Aside0 (spec_bkText.l0 kq a0 x3_1 = some r) ∧ Aside0 (kq ≤ k) ∧ Drawn0 w w')
  case atStart => exact ⟨(0), (by first | rfl | (simp; done) | (simp [*]; done)), H', ⟨Nat.le_refl _⟩, by repeat (first | exact Drawn0.refl _ | apply Drawn0.step)⟩
  case round =>
   clear H'
   try clear c2
   try clear c2b0
   try clear c2b1
   try clear p2
   obtain ⟨x3_1, rfl, HA, HK1, ⟨m1, rfl⟩⟩ := hrel
   cases gk with
   | zero => exact absurd HA.out (by simp [spec_bkText.l0])
   | succ k1 =>
    have H := HA.out
    clear HA
    simp only [spec_bkText.l0] at H
    by_cases c3 : x3_1 < (a0.size : Int)
    ·
     rw [if_pos c3] at H
     have c3b0 : decide (x3_1 < (a0.size : Int)) = true := decide_eq_true c3
     clear c3
     by_cases c4 : 0 ≤ x3_1
     ·
      rw [if_pos c4] at H
      have c4b0 : decide (0 ≤ x3_1) = true := decide_eq_true c4
      clear c4
      by_cases c6 : (bt a0 x3_1) < 97
      ·
       rw [if_pos c6] at H
       have c6b0 : decide ((bt a0 x3_1) < 97) = true := decide_eq_true c6
       clear c6
       obtain rfl := Option.some.inj H
       have p5 : 0 ≤ (x3_1 : Int) := of_decide_eq_true (by first | (with_reducible assumption) | assumption)
       have q5 : x3_1 < (a0.size : Int) := of_decide_eq_true (by first | (with_reducible assumption) | assumption)
       have hx5 := bt_at a0 x3_1
       replace p5 := eq_true p5
       replace q5 := eq_true q5
       go_wp2
       go_ret
       exact ⟨by first | rfl | (simp; done) | (simp [*]; done), by repeat (first | exact Drawn0.refl _ | apply Drawn0.step)⟩
      ·
       rw [if_neg c6] at H
       have c6b0 : decide ((bt a0 x3_1) < 97) = false := decide_eq_false c6
       clear c6
       by_cases c8 : (bt a0 x3_1) > 122
       ·
        rw [if_pos c8] at H
        have c8b0 : decide (122 < (bt a0 x3_1)) = true := decide_eq_true c8
        clear c8
        obtain rfl := Option.some.inj H
        have p5 : 0 ≤ (x3_1 : Int) := of_decide_eq_true (by first | (with_reducible assumption) | assumption)
        have q5 : x3_1 < (a0.size : Int) := of_decide_eq_true (by first | (with_reducible assumption) | assumption)
        have hx5 := bt_at a0 x3_1
        replace p5 := eq_true p5
        replace q5 := eq_true q5
        have p7 : 0 ≤ (x3_1 : Int) := of_decide_eq_true (by first | (with_reducible assumption) | assumption)
        have q7 : x3_1 < (a0.size : Int) := of_decide_eq_true (by first | (with_reducible assumption) | assumption)
        have hx7 := bt_at a0 x3_1
        replace p7 := eq_true p7
        replace q7 := eq_true q7
        go_wp2
        go_ret
        exact ⟨by first | rfl | (simp; done) | (simp [*]; done), by repeat (first | exact Drawn0.refl _ | apply Drawn0.step)⟩
       ·
        rw [if_neg c8] at H
        have c8b0 : decide (122 < (bt a0 x3_1)) = false := decide_eq_false c8
        clear c8
        have H' := Aside0.mk H
        clear H
        have p5 : 0 ≤ (x3_1 : Int) := of_decide_eq_true (by first | (with_reducible assumption) | assumption)
        have q5 : x3_1 < (a0.size : Int) := of_decide_eq_true (by first | (with_reducible assumption) | assumption)
        have hx5 := bt_at a0 x3_1
        replace p5 := eq_true p5
        replace q5 := eq_true q5
        have p7 : 0 ≤ (x3_1 : Int) := of_decide_eq_true (by first | (with_reducible assumption) | assumption)
        have q7 : x3_1 < (a0.size : Int) := of_decide_eq_true (by first | (with_reducible assumption) | assumption)
        have hx7 := bt_at a0 x3_1
        replace p7 := eq_true p7
        replace q7 := eq_true q7
        go_wp2
        go_roundg k1
        case measure => have := HK1.out; omega
        case rel => exact ⟨(wrap64 (x3_1 + 1)), (by first | rfl | (simp; done) | (simp [*]; done)), H', ⟨by have := HK1.out; omega⟩, by repeat (first | exact Drawn0.refl _ | apply Drawn0.step)⟩
     ·
      rw [if_neg c4] at H
      exact absurd H (by simp)
    ·
     rw [if_neg c3] at H
     have c3b0 : decide (x3_1 < (a0.size : Int)) = false := decide_eq_false c3
     clear c3
     obtain rfl := Option.some.inj H
     go_wp2
     go_ret
     exact ⟨by first | rfl | (simp; done) | (simp [*]; done), by repeat (first | exact Drawn0.refl _ | apply Drawn0.step)⟩

end Go.Proofs.YtamhlbdjjfdbiaaDoor.P

-- printed by xprint.py
namespace Go.Proofs.YtamhlbdjjfdbiaaDoor.P
open Go.RowKit Go.Proofs.YtamhlbdjjfdbiaaDoorW.PrintWords Go.Proofs.YtamhlbdjjfdbiaaDoorW.PrintLast Go.Proofs.YtamhlbdjjfdbiaaDoorW.PrintMore
attribute [local go_sem] max2_int min2_int max_two min_two max_three min_three max_four min_four   -- for this text's walks alone
set_option linter.unusedVariables false
set_option linter.unusedSimpArgs false

/-! ### spec_l1In: function 52 -/
def spec_l1In.f (a0 : Int) (a1 : Int) (a2 : Int) : Option (Bool) := if a0 ≥ a1 then (some (decide (a0 ≤ a2))) else (some false)
set_option maxHeartbeats 8000000 in
set_option maxRecDepth 100000 in
theorem spec_l1In.calls (a0 : Int) (a1 : Int) (a2 : Int) (r : Bool) (w : World) (h : spec_l1In.f a0 a1 a2 = some r) :
  Calls Tryd.prog 52 #[.int .i64 a0, .int .i64 a1, .int .i64 a2] w fun e w' => e = .returned (.bool r) ∧ Drawn0 w w' := by
 have H : (if a0 ≥ a1 then (some (decide (a0 ≤ a2))) else (some false)) = some r := h
 clear h
 by_cases c4 : a0 ≥ a1
 ·
  rw [if_pos c4] at H
  have c4b0 : decide (a1 ≤ a0) = true := decide_eq_true c4
  clear c4
  obtain rfl := Option.some.inj H
  go_enter Tryd.func52, Tryd.ntmps52
  go_wp2
  go_ret
  exact ⟨by first | rfl | (simp; done) | (simp [*]; done), by repeat (first | exact Drawn0.refl _ | apply Drawn0.step)⟩
 ·
  rw [if_neg c4] at H
  have c4b0 : decide (a1 ≤ a0) = false := decide_eq_false c4
  clear c4
  obtain rfl := Option.some.inj H
  go_enter Tryd.func52, Tryd.ntmps52
  go_wp2
  go_ret
  exact ⟨by first | rfl | (simp; done) | (simp [*]; done), by repeat (first | exact Drawn0.refl _ | apply Drawn0.step)⟩

end Go.Proofs.YtamhlbdjjfdbiaaDoor.P

-- printed by xprint.py
namespace Go.Proofs.YtamhlbdjjfdbiaaDoor.P
open Go.RowKit Go.Proofs.YtamhlbdjjfdbiaaDoorW.PrintWords Go.Proofs.YtamhlbdjjfdbiaaDoorW.PrintLast Go.Proofs.YtamhlbdjjfdbiaaDoorW.PrintMore
attribute [local go_sem] max2_int min2_int max_two min_two max_three min_three max_four min_four   -- for this text's walks alone
set_option linter.unusedVariables false
set_option linter.unusedSimpArgs false

/-! ### spec_prWord: function 75 -/
def spec_prWord.l0 : Nat → ByteArray → Int → Option (Bool)
 | 0, _, _ => none
 | k + 1, x0, x3 => if x3 < (x0.size : Int) then (if 0 ≤ x3 then (if (bt x0 x3) < 97 then (some false) else (if (bt x0 x3) > 122 then (some false) else (spec_prWord.l0 k x0 (wrap64 (x3 + 1))))) else (none)) else (some true)
def spec_prWord.f (k : Nat) (a0 : ByteArray) : Option (Bool) := (spec_l1In.f (a0.size : Int) 1 40).bind fun t101 => (if t101 = true then (spec_prWord.l0 k a0 0) else (some false))
theorem spec_prWord.mono_l : ∀ k, (∀ y0 y1, LeO (spec_prWord.l0 k y0 y1) (spec_prWord.l0 (k + 1) y0 y1))
 | 0 => by intros; intro r h; simp [spec_prWord.l0] at h
 | k + 1 => by
  have ih0 := spec_prWord.mono_l k
  ·
   intro y0 y1
   unfold spec_prWord.l0
   repeat' first
   | (with_reducible exact ih0 _ _)
   | (with_reducible exact LeO.refl _)
   | (with_reducible exact LeO.none _)
   | (with_reducible refine LeO.ite ?_ ?_)
   | (with_reducible refine LeO.bind ?_ (fun _ => ?_))
   | exact ih0 _ _
   | exact LeO.none _
   | refine LeO.ite ?_ ?_
   | refine LeO.bind ?_ (fun _ => ?_)
theorem spec_prWord.mono : ∀ y0 k, LeO (spec_prWord.f k y0) (spec_prWord.f (k + 1) y0) := by
 intro y0 k
 have ih0 := spec_prWord.mono_l k
 unfold spec_prWord.f
 repeat' first
   | (with_reducible exact ih0 _ _)
   | (with_reducible exact LeO.refl _)
   | (with_reducible exact LeO.none _)
   | (with_reducible refine LeO.ite ?_ ?_)
   | (with_reducible refine LeO.bind ?_ (fun _ => ?_))
   | exact ih0 _ _
   | exact LeO.none _
   | refine LeO.ite ?_ ?_
   | refine LeO.bind ?_ (fun _ => ?_)
set_option maxHeartbeats 8000000 in
set_option maxRecDepth 100000 in
theorem spec_prWord.calls (k : Nat) (a0 : ByteArray) (r : Bool) (w : World) (h : spec_prWord.f k a0 = some r) :
  Calls Tryd.prog 75 #[.string a0] w fun e w' => e = .returned (.bool r) ∧ Drawn0 w w' := by
 have H : ((spec_l1In.f (a0.size : Int) 1 40).bind fun t101 => (if t101 = true then (spec_prWord.l0 k a0 0) else (some false))) = some r := h
 clear h
 replace H := Option.bind_eq_some_iff.mp H
 obtain ⟨t101, A20, H⟩ := H
 replace H : (if t101 = true then (spec_prWord.l0 k a0 0) else (some false)) = some r := H
 have A2 := Aside0.mk A20
 clear A20
 by_cases c3 : t101 = true
 ·
  subst c3
  have H1 : (spec_prWord.l0 k a0 0) = some r := by rw [if_pos rfl] at H; exact H
  clear H
  have H := H1
  clear H1
  have H' := Aside0.mk H
  clear H
  go_enter Tryd.func75, Tryd.ntmps75
  go_wp2_with (first | ((with_reducible refine gate_callee (f := 52) rfl ?_); refine goesL_ (some 6) rfl rfl Tryd.func52 (by kernel_rfl) rfl #[.int .i64 (a0.size : Int), .int .i64 1, .int .i64 40] rfl (by (try simp only [List.map_toArray, List.map_cons, List.map_nil]); first | done | rfl | (simp only [List.length_drop, List.length_take]; rfl)) ?_; (with_reducible refine (spec_l1In.calls (a0.size : Int) 1 40 true _ A2.out).mono ?_); rintro e w' ⟨rfl, ⟨nd, rfl⟩⟩; refine ⟨_, rfl, ?_⟩))
  go_loopg [3] k (fun kq v3 w' => ∃ (x3_1 : Int), v3 = .int .i64 x3_1 ∧ Aside0 (spec_prWord.l0 kq a0 x3_1 = some r) ∧ Aside0 (kq ≤ k) ∧ Drawn0 w w')
  case atStart => exact ⟨(0), (by first | rfl | (simp; done) | (simp [*]; done)), H', ⟨Nat.le_refl _⟩, by repeat (first | exact Drawn0.refl _ | apply Drawn0.step)⟩
  case round =>
   clear H'
   try clear p2
   try clear c3
   obtain ⟨x3_1, rfl, HA, HK1, ⟨m1, rfl⟩⟩ := hrel
   cases gk with
   | zero => exact absurd HA.out (by simp [spec_prWord.l0])
   | succ k1 =>
    have H := HA.out
    clear HA
    simp only [spec_prWord.l0] at H
    by_cases c4 : x3_1 < (a0.size : Int)
    ·
     rw [if_pos c4] at H
     have c4b0 : decide (x3_1 < (a0.size : Int)) = true := decide_eq_true c4
     clear c4
     by_cases c5 : 0 ≤ x3_1
     ·
      rw [if_pos c5] at H
      have c5b0 : decide (0 ≤ x3_1) = true := decide_eq_true c5
      clear c5
      by_cases c7 : (bt a0 x3_1) < 97
      ·
       rw [if_pos c7] at H
       have c7b0 : decide ((bt a0 x3_1) < 97) = true := decide_eq_true c7
       clear c7
       obtain rfl := Option.some.inj H
       have p6 : 0 ≤ (x3_1 : Int) := of_decide_eq_true (by first | (with_reducible assumption) | assumption)
       have q6 : x3_1 < (a0.size : Int) := of_decide_eq_true (by first | (with_reducible assumption) | assumption)
       have hx6 := bt_at a0 x3_1
       replace p6 := eq_true p6
       replace q6 := eq_true q6
       go_wp2
       go_ret
       exact ⟨by first | rfl | (simp; done) | (simp [*]; done), by repeat (first | exact Drawn0.refl _ | apply Drawn0.step)⟩
      ·
       rw [if_neg c7] at H
       have c7b0 : decide ((bt a0 x3_1) < 97) = false := decide_eq_false c7
       clear c7
       by_cases c9 : (bt a0 x3_1) > 122
       ·
        rw [if_pos c9] at H
        have c9b0 : decide (122 < (bt a0 x3_1)) = true := decide_eq_true c9
        clear c9
        obtain rfl := Option.some.inj H
        have p6 : 0 ≤ (x3_1 : Int) := of_decide_eq_true (by first | (with_reducible assumption) | assumption)
        have q6 : x3_1 < (a0.size : Int) := of_decide_eq_true (by first | (with_reducible assumption) | assumption)
        have hx6 := bt_at a0 x3_1
        replace p6 := eq_true p6
        replace q6 := eq_true q6
        have p8 : 0 ≤ (x3_1 : Int) := of_decide_eq_true (by first | (with_reducible assumption) | assumption)
        have q8 : x3_1 < (a0.size : Int) := of_decide_eq_true (by first | (with_reducible assumption) | assumption)
        have hx8 := bt_at a0 x3_1
        replace p8 := eq_true p8
        replace q8 := eq_true q8
        go_wp2
        go_ret
        exact ⟨by first | rfl | (simp; done) | (simp [*]; done), by repeat (first | exact Drawn0.refl _ | apply Drawn0.step)⟩
       ·
        rw [if_neg c9] at H
        have c9b0 : decide (122 < (bt a0 x3_1)) = false := decide_eq_false c9
        clear c9
        have H' := Aside0.mk H
        clear H
        have p6 : 0 ≤ (x3_1 : Int) := of_decide_eq_true (by first | (with_reducible assumption) | assumption)
        have q6 : x3_1 < (a0.size : Int) := of_decide_eq_true (by first | (with_reducible assumption) | assumption)
        have hx6 := bt_at a0 x3_1
        replace p6 := eq_true p6
        replace q6 := eq_true q6
        have p8 : 0 ≤ (x3_1 : Int) := of_decide_eq_true (by first | (with_reducible assumption) | assumption)
        have q8 : x3_1 < (a0.size : Int) := of_decide_eq_true (by first | (with_reducible assumption) | assumption)
        have hx8 := bt_at a0 x3_1
        replace p8 := eq_true p8
        replace q8 := eq_true q8
        go_wp2
        go_roundg k1
        case measure => have := HK1.out; omega
        case rel => exact ⟨(wrap64 (x3_1 + 1)), (by first | rfl | (simp; done) | (simp [*]; done)), H', ⟨by have := HK1.out; omega⟩, by repeat (first | exact Drawn0.refl _ | apply Drawn0.step)⟩
     ·
      rw [if_neg c5] at H
      exact absurd H (by simp)
    ·
     rw [if_neg c4] at H
     have c4b0 : decide (x3_1 < (a0.size : Int)) = false := decide_eq_false c4
     clear c4
     obtain rfl := Option.some.inj H
     go_wp2
     go_ret
     exact ⟨by first | rfl | (simp; done) | (simp [*]; done), by repeat (first | exact Drawn0.refl _ | apply Drawn0.step)⟩
 ·
  replace c3 := Bool.eq_false_iff.mpr c3
  subst c3
  have H1 : (some false) = some r := by rw [if_neg (show ¬ (false = true) by decide)] at H; exact H
  clear H
  have H := H1
  clear H1
  obtain rfl := Option.some.inj H
  go_enter Tryd.func75, Tryd.ntmps75
  go_wp2_with (first | ((with_reducible refine gate_callee (f := 52) rfl ?_); refine goesL_ (some 6) rfl rfl Tryd.func52 (by kernel_rfl) rfl #[.int .i64 (a0.size : Int), .int .i64 1, .int .i64 40] rfl (by (try simp only [List.map_toArray, List.map_cons, List.map_nil]); first | done | rfl | (simp only [List.length_drop, List.length_take]; rfl)) ?_; (with_reducible refine (spec_l1In.calls (a0.size : Int) 1 40 false _ A2.out).mono ?_); rintro e w' ⟨rfl, ⟨nd, rfl⟩⟩; refine ⟨_, rfl, ?_⟩))
  go_ret
  exact ⟨by first | rfl | (simp; done) | (simp [*]; done), by repeat (first | exact Drawn0.refl _ | apply Drawn0.step)⟩

end Go.Proofs.YtamhlbdjjfdbiaaDoor.P

-- printed by xprint.py
namespace Go.Proofs.YtamhlbdjjfdbiaaDoor.P
open Go.RowKit Go.Proofs.YtamhlbdjjfdbiaaDoorW.PrintWords Go.Proofs.YtamhlbdjjfdbiaaDoorW.PrintLast Go.Proofs.YtamhlbdjjfdbiaaDoorW.PrintMore
attribute [local go_sem] max2_int min2_int max_two min_two max_three min_three max_four min_four   -- for this text's walks alone
set_option linter.unusedVariables false
set_option linter.unusedSimpArgs false

/-! ### spec_wdWord: function 67 -/
def spec_wdWord.f (k : Nat) (a0 : ByteArray) : Option (Bool) := (spec_prWord.f k a0).bind fun t101 => (if t101 = true then (some (decide ((a0.size : Int) ≤ 10))) else (some false))
theorem spec_wdWord.mono : ∀ y0 k, LeO (spec_wdWord.f k y0) (spec_wdWord.f (k + 1) y0) := by
 intro y0 k
 unfold spec_wdWord.f
 repeat' first
   | (with_reducible exact spec_prWord.mono _ _)
   | (with_reducible exact LeO.refl _)
   | (with_reducible exact LeO.none _)
   | (with_reducible refine LeO.ite ?_ ?_)
   | (with_reducible refine LeO.bind ?_ (fun _ => ?_))
   | exact spec_prWord.mono _ _
   | exact LeO.none _
   | refine LeO.ite ?_ ?_
   | refine LeO.bind ?_ (fun _ => ?_)
set_option maxHeartbeats 8000000 in
set_option maxRecDepth 100000 in
theorem spec_wdWord.calls (k : Nat) (a0 : ByteArray) (r : Bool) (w : World) (h : spec_wdWord.f k a0 = some r) :
  Calls Tryd.prog 67 #[.string a0] w fun e w' => e = .returned (.bool r) ∧ Drawn0 w w' := by
 have H : ((spec_prWord.f k a0).bind fun t101 => (if t101 = true then (some (decide ((a0.size : Int) ≤ 10))) else (some false))) = some r := h
 clear h
 replace H := Option.bind_eq_some_iff.mp H
 obtain ⟨t101, A20, H⟩ := H
 replace H : (if t101 = true then (some (decide ((a0.size : Int) ≤ 10))) else (some false)) = some r := H
 have A2 := Aside0.mk A20
 clear A20
 by_cases c3 : t101 = true
 ·
  subst c3
  have H1 : (some (decide ((a0.size : Int) ≤ 10))) = some r := by rw [if_pos rfl] at H; exact H
  clear H
  have H := H1
  clear H1
  obtain rfl := Option.some.inj H
  go_enter Tryd.func67, Tryd.ntmps67
  go_wp2_with (first | ((with_reducible refine gate_callee (f := 75) rfl ?_); refine goesL_ (some 4) rfl rfl Tryd.func75 (by kernel_rfl) rfl #[.string a0] rfl (by (try simp only [List.map_toArray, List.map_cons, List.map_nil]); first | done | rfl | (simp only [List.length_drop, List.length_take]; rfl)) ?_; (with_reducible refine (spec_prWord.calls k a0 true _ A2.out).mono ?_); rintro e w' ⟨rfl, ⟨nd, rfl⟩⟩; refine ⟨_, rfl, ?_⟩))
  go_ret
  exact ⟨by first | rfl | (simp; done) | (simp [*]; done), by repeat (first | exact Drawn0.refl _ | apply Drawn0.step)⟩
 ·
  replace c3 := Bool.eq_false_iff.mpr c3
  subst c3
  have H1 : (some false) = some r := by rw [if_neg (show ¬ (false = true) by decide)] at H; exact H
  clear H
  have H := H1
  clear H1
  obtain rfl := Option.some.inj H
  go_enter Tryd.func67, Tryd.ntmps67
  go_wp2_with (first | ((with_reducible refine gate_callee (f := 75) rfl ?_); refine goesL_ (some 4) rfl rfl Tryd.func75 (by kernel_rfl) rfl #[.string a0] rfl (by (try simp only [List.map_toArray, List.map_cons, List.map_nil]); first | done | rfl | (simp only [List.length_drop, List.length_take]; rfl)) ?_; (with_reducible refine (spec_prWord.calls k a0 false _ A2.out).mono ?_); rintro e w' ⟨rfl, ⟨nd, rfl⟩⟩; refine ⟨_, rfl, ?_⟩))
  go_ret
  exact ⟨by first | rfl | (simp; done) | (simp [*]; done), by repeat (first | exact Drawn0.refl _ | apply Drawn0.step)⟩

end Go.Proofs.YtamhlbdjjfdbiaaDoor.P

-- printed by xprint.py
namespace Go.Proofs.YtamhlbdjjfdbiaaDoor.P
open Go.RowKit Go.Proofs.YtamhlbdjjfdbiaaDoorW.PrintWords Go.Proofs.YtamhlbdjjfdbiaaDoorW.PrintLast Go.Proofs.YtamhlbdjjfdbiaaDoorW.PrintMore
attribute [local go_sem] max2_int min2_int max_two min_two max_three min_three max_four min_four   -- for this text's walks alone
set_option linter.unusedVariables false
set_option linter.unusedSimpArgs false

/-! ### spec_wdGood: function 51 -/
def spec_wdGood.l0 : Nat → List ByteArray → List ByteArray → Int → Int → Option (Bool)
 | 0, _, _, _, _ => none
 | k + 1, x0, x9, x10, x11 => if x11 < x10 then (if 0 ≤ x11 then (if x11 < (x9.length : Int) then ((spec_wdWord.f k (rdOf ByteArray.empty x9 x11)).bind fun t103 => (if t103 = true then (if x11 > 0 then (if 0 ≤ (wrap64 (x11 - 1)) then (if (wrap64 (x11 - 1)) < (x0.length : Int) then (if ((Op.bytesLess ((rdOf ByteArray.empty x0 (wrap64 (x11 - 1))).toList) ((rdOf ByteArray.empty x9 x11).toList)) = true) then (spec_wdGood.l0 k x0 x9 x10 (wrap64 (x11 + 1))) else (some false)) else (none)) else (none)) else (spec_wdGood.l0 k x0 x9 x10 (wrap64 (x11 + 1)))) else (some false))) else (none)) else (none)) else (some true)
def spec_wdGood.f (k : Nat) (l0 : List ByteArray) : Option (Bool) := (spec_l1In.f (l0.length : Int) 1 12).bind fun t101 => (if t101 = true then (spec_wdGood.l0 k l0 l0 (l0.length : Int) 0) else (some false))
theorem spec_wdGood.mono_l : ∀ k, (∀ y0 y1 y2 y3, LeO (spec_wdGood.l0 k y0 y1 y2 y3) (spec_wdGood.l0 (k + 1) y0 y1 y2 y3))
 | 0 => by intros; intro r h; simp [spec_wdGood.l0] at h
 | k + 1 => by
  have ih0 := spec_wdGood.mono_l k
  ·
   intro y0 y1 y2 y3
   unfold spec_wdGood.l0
   repeat' first
   | (with_reducible exact ih0 _ _ _ _)
   | (with_reducible exact spec_wdWord.mono _ _)
   | (with_reducible exact LeO.refl _)
   | (with_reducible exact LeO.none _)
   | (with_reducible refine LeO.ite ?_ ?_)
   | (with_reducible refine LeO.bind ?_ (fun _ => ?_))
   | exact ih0 _ _ _ _
   | exact spec_wdWord.mono _ _
   | exact LeO.none _
   | refine LeO.ite ?_ ?_
   | refine LeO.bind ?_ (fun _ => ?_)
theorem spec_wdGood.mono : ∀ y0 k, LeO (spec_wdGood.f k y0) (spec_wdGood.f (k + 1) y0) := by
 intro y0 k
 have ih0 := spec_wdGood.mono_l k
 unfold spec_wdGood.f
 repeat' first
   | (with_reducible exact ih0 _ _ _ _)
   | (with_reducible exact spec_wdWord.mono _ _)
   | (with_reducible exact LeO.refl _)
   | (with_reducible exact LeO.none _)
   | (with_reducible refine LeO.ite ?_ ?_)
   | (with_reducible refine LeO.bind ?_ (fun _ => ?_))
   | exact ih0 _ _ _ _
   | exact spec_wdWord.mono _ _
   | exact LeO.none _
   | refine LeO.ite ?_ ?_
   | refine LeO.bind ?_ (fun _ => ?_)
set_option maxHeartbeats 8000000 in
set_option maxRecDepth 100000 in
theorem spec_wdGood.calls (k : Nat) (A0 : Option Addr) (c0 : Nat) (l0 : List ByteArray) (r : Bool) (w : World) (hr0 : Kd.C Kd.string w A0 l0.length l0) (hc0 : l0.length ≤ c0) (h : spec_wdGood.f k l0 = some r) :
  Calls Tryd.prog 51 #[.slice A0 l0.length c0] w fun e w' => e = .returned (.bool r) ∧ Drawn0 w w' := by
 have HR0 := Aside0.mk hr0
 have HC0 := Aside0.mk hc0
 clear hr0 hc0
 have H : ((spec_l1In.f (l0.length : Int) 1 12).bind fun t101 => (if t101 = true then (spec_wdGood.l0 k l0 l0 (l0.length : Int) 0) else (some false))) = some r := h
 clear h
 replace H := Option.bind_eq_some_iff.mp H
 obtain ⟨t101, A20, H⟩ := H
 replace H : (if t101 = true then (spec_wdGood.l0 k l0 l0 (l0.length : Int) 0) else (some false)) = some r := H
 have A2 := Aside0.mk A20
 clear A20
 by_cases c3 : t101 = true
 ·
  subst c3
  have H1 : (spec_wdGood.l0 k l0 l0 (l0.length : Int) 0) = some r := by rw [if_pos rfl] at H; exact H
  clear H
  have H := H1
  clear H1
  have H' := Aside0.mk H
  clear H
  go_enter Tryd.func51, Tryd.ntmps51
  go_wp2_with (first | ((with_reducible refine gate_callee (f := 52) rfl ?_); refine goesL_ (some 7) rfl rfl Tryd.func52 (by kernel_rfl) rfl #[.int .i64 (l0.length : Int), .int .i64 1, .int .i64 12] rfl (by (try simp only [List.map_toArray, List.map_cons, List.map_nil]); first | done | rfl | (simp only [List.length_drop, List.length_take]; rfl)) ?_; (with_reducible refine (spec_l1In.calls (l0.length : Int) 1 12 true _ A2.out).mono ?_); rintro e w' ⟨rfl, ⟨nd, rfl⟩⟩; refine ⟨_, rfl, ?_⟩))
  go_loopg [11] k (fun kq v11 w' => ∃ (x11_1 : Int), v11 = .int .i64 x11_1 ∧ Aside0 (spec_wdGood.l0 kq l0 l0 (l0.length : Int) x11_1 = some r) ∧ Aside0 (kq ≤ k) ∧ Drawn0 w w')
  case atStart => exact ⟨(0), (by first | rfl | (simp; done) | (simp [*]; done)), H', ⟨Nat.le_refl _⟩, by repeat (first | exact Drawn0.refl _ | apply Drawn0.step)⟩
  case round =>
   clear H'
   try clear p2
   try clear c3
   obtain ⟨x11_1, rfl, HA, HK1, ⟨m1, rfl⟩⟩ := hrel
   cases gk with
   | zero => exact absurd HA.out (by simp [spec_wdGood.l0])
   | succ k1 =>
    have H := HA.out
    clear HA
    simp only [spec_wdGood.l0] at H
    by_cases c4 : x11_1 < (l0.length : Int)
    ·
     rw [if_pos c4] at H
     have c4b0 : decide (x11_1 < (l0.length : Int)) = true := decide_eq_true c4
     clear c4
     by_cases c5 : 0 ≤ x11_1
     ·
      rw [if_pos c5] at H
      have c5b0 : decide (0 ≤ x11_1) = true := decide_eq_true c5
      clear c5
      by_cases c6 : x11_1 < (l0.length : Int)
      ·
       rw [if_pos c6] at H
       have c6b0 : decide (x11_1 < (l0.length : Int)) = true := decide_eq_true c6
       clear c6
       replace H := Option.bind_eq_some_iff.mp H
       obtain ⟨t103, A70, H⟩ := H
       replace H : (if t103 = true then (if x11_1 > 0 then (if 0 ≤ (wrap64 (x11_1 - 1)) then (if (wrap64 (x11_1 - 1)) < (l0.length : Int) then (if ((Op.bytesLess ((rdOf ByteArray.empty l0 (wrap64 (x11_1 - 1))).toList) ((rdOf ByteArray.empty l0 x11_1).toList)) = true) then (spec_wdGood.l0 k1 l0 l0 (l0.length : Int) (wrap64 (x11_1 + 1))) else (some false)) else (none)) else (none)) else (spec_wdGood.l0 k1 l0 l0 (l0.length : Int) (wrap64 (x11_1 + 1)))) else (some false)) = some r := H
       have A7 := Aside0.mk A70
       clear A70
       by_cases c8 : t103 = true
       ·
        subst c8
        have H1 : (if x11_1 > 0 then (if 0 ≤ (wrap64 (x11_1 - 1)) then (if (wrap64 (x11_1 - 1)) < (l0.length : Int) then (if ((Op.bytesLess ((rdOf ByteArray.empty l0 (wrap64 (x11_1 - 1))).toList) ((rdOf ByteArray.empty l0 x11_1).toList)) = true) then (spec_wdGood.l0 k1 l0 l0 (l0.length : Int) (wrap64 (x11_1 + 1))) else (some false)) else (none)) else (none)) else (spec_wdGood.l0 k1 l0 l0 (l0.length : Int) (wrap64 (x11_1 + 1)))) = some r := by rw [if_pos rfl] at H; exact H
        clear H
        have H := H1
        clear H1
        by_cases c9 : x11_1 > 0
        ·
         rw [if_pos c9] at H
         have c9b0 : decide (0 < x11_1) = true := decide_eq_true c9
         clear c9
         obtain ⟨ji10, hji10⟩ : ∃ j_ : Int, (wrap64 (x11_1 - 1)) = j_ := ⟨_, rfl⟩
         replace H : (if 0 ≤ (ji10) then (if (ji10) < (l0.length : Int) then (if ((Op.bytesLess ((rdOf ByteArray.empty l0 (ji10)).toList) ((rdOf ByteArray.empty l0 x11_1).toList)) = true) then (spec_wdGood.l0 k1 l0 l0 (l0.length : Int) (wrap64 (x11_1 + 1))) else (some false)) else (none)) else (none)) = some r := by first | (rw [hji10] at H; exact H) | (simp only [hji10] at H ⊢; exact H)
         (try rw [hji10] at A7)
         have hji10w : (IntKind.i64.wrap (x11_1 - 1)) = ji10 := (i64_w _).trans hji10
         by_cases c11 : 0 ≤ (ji10)
         ·
          rw [if_pos c11] at H
          have c11b0 : decide (0 ≤ (ji10)) = true := decide_eq_true c11
          clear c11
          by_cases c12 : (ji10) < (l0.length : Int)
          ·
           rw [if_pos c12] at H
           have c12b0 : decide ((ji10) < (l0.length : Int)) = true := decide_eq_true c12
           clear c12
           by_cases c13 : ((Op.bytesLess ((rdOf ByteArray.empty l0 (ji10)).toList) ((rdOf ByteArray.empty l0 x11_1).toList)) = true)
           ·
            rw [if_pos c13] at H
            have c13b0 : (Op.bytesLess ((rdOf ByteArray.empty l0 (ji10)).toList) ((rdOf ByteArray.empty l0 x11_1).toList)) = true := c13
            clear c13
            have H' := Aside0.mk H
            clear H
            have p102 : 0 ≤ (x11_1 : Int) := of_decide_eq_true (by first | (with_reducible assumption) | assumption)
            have q102 : x11_1 < (l0.length : Int) := of_decide_eq_true (by first | (with_reducible assumption) | assumption)
            obtain ⟨ad102, e102, hx102_0⟩ := Kd.at_string HR0.out x11_1 p102 q102
            cases e102
            replace p102 := eq_true p102
            replace q102 := eq_true q102
            go_wp2_with (first | ((with_reducible refine gate_callee (f := 67) rfl ?_); refine goesL_ (some 17) rfl rfl Tryd.func67 (by kernel_rfl) rfl #[.string (rdOf ByteArray.empty l0 x11_1)] rfl (by (try simp only [List.map_toArray, List.map_cons, List.map_nil]); first | done | rfl | (simp only [List.length_drop, List.length_take]; rfl)) ?_; (with_reducible refine (spec_wdWord.calls k1 (rdOf ByteArray.empty l0 x11_1) true _ A7.out).mono ?_); rintro e w' ⟨rfl, ⟨nd, rfl⟩⟩; refine ⟨_, rfl, ?_⟩; have p104 : 0 ≤ ((ji10) : Int) := of_decide_eq_true (by first | (with_reducible assumption) | assumption); have q104 : (ji10) < (l0.length : Int) := of_decide_eq_true (by first | (with_reducible assumption) | assumption); obtain ⟨ad104, e104, hx104_0⟩ := Kd.at_string HR0.out (ji10) p104 q104; obtain rfl : ad102 = ad104 := (by injection e104); replace p104 := eq_true p104; replace q104 := eq_true q104))
            go_roundg k1
            case measure => have := HK1.out; omega
            case rel => exact ⟨(wrap64 (x11_1 + 1)), (by first | rfl | (simp; done) | (simp [*]; done)), H', ⟨by have := HK1.out; omega⟩, by repeat (first | exact Drawn0.refl _ | apply Drawn0.step)⟩
           ·
            rw [if_neg c13] at H
            have c13b0 : (Op.bytesLess ((rdOf ByteArray.empty l0 (ji10)).toList) ((rdOf ByteArray.empty l0 x11_1).toList)) = false := by simpa using c13
            clear c13
            obtain rfl := Option.some.inj H
            have p102 : 0 ≤ (x11_1 : Int) := of_decide_eq_true (by first | (with_reducible assumption) | assumption)
            have q102 : x11_1 < (l0.length : Int) := of_decide_eq_true (by first | (with_reducible assumption) | assumption)
            obtain ⟨ad102, e102, hx102_0⟩ := Kd.at_string HR0.out x11_1 p102 q102
            cases e102
            replace p102 := eq_true p102
            replace q102 := eq_true q102
            go_wp2_with (first | ((with_reducible refine gate_callee (f := 67) rfl ?_); refine goesL_ (some 17) rfl rfl Tryd.func67 (by kernel_rfl) rfl #[.string (rdOf ByteArray.empty l0 x11_1)] rfl (by (try simp only [List.map_toArray, List.map_cons, List.map_nil]); first | done | rfl | (simp only [List.length_drop, List.length_take]; rfl)) ?_; (with_reducible refine (spec_wdWord.calls k1 (rdOf ByteArray.empty l0 x11_1) true _ A7.out).mono ?_); rintro e w' ⟨rfl, ⟨nd, rfl⟩⟩; refine ⟨_, rfl, ?_⟩; have p104 : 0 ≤ ((ji10) : Int) := of_decide_eq_true (by first | (with_reducible assumption) | assumption); have q104 : (ji10) < (l0.length : Int) := of_decide_eq_true (by first | (with_reducible assumption) | assumption); obtain ⟨ad104, e104, hx104_0⟩ := Kd.at_string HR0.out (ji10) p104 q104; obtain rfl : ad102 = ad104 := (by injection e104); replace p104 := eq_true p104; replace q104 := eq_true q104))
            go_ret
            exact ⟨by first | rfl | (simp; done) | (simp only [← hji10] <;> (first | rfl | simp)) | (simp [*]; done), by repeat (first | exact Drawn0.refl _ | apply Drawn0.step)⟩
          ·
           rw [if_neg c12] at H
           exact absurd H (by simp)
         ·
          rw [if_neg c11] at H
          exact absurd H (by simp)
        ·
         rw [if_neg c9] at H
         have c9b0 : decide (0 < x11_1) = false := decide_eq_false c9
         clear c9
         have H' := Aside0.mk H
         clear H
         have p102 : 0 ≤ (x11_1 : Int) := of_decide_eq_true (by first | (with_reducible assumption) | assumption)
         have q102 : x11_1 < (l0.length : Int) := of_decide_eq_true (by first | (with_reducible assumption) | assumption)
         obtain ⟨ad102, e102, hx102_0⟩ := Kd.at_string HR0.out x11_1 p102 q102
         cases e102
         replace p102 := eq_true p102
         replace q102 := eq_true q102
         go_wp2_with (first | ((with_reducible refine gate_callee (f := 67) rfl ?_); refine goesL_ (some 17) rfl rfl Tryd.func67 (by kernel_rfl) rfl #[.string (rdOf ByteArray.empty l0 x11_1)] rfl (by (try simp only [List.map_toArray, List.map_cons, List.map_nil]); first | done | rfl | (simp only [List.length_drop, List.length_take]; rfl)) ?_; (with_reducible refine (spec_wdWord.calls k1 (rdOf ByteArray.empty l0 x11_1) true _ A7.out).mono ?_); rintro e w' ⟨rfl, ⟨nd, rfl⟩⟩; refine ⟨_, rfl, ?_⟩))
         go_roundg k1
         case measure => have := HK1.out; omega
         case rel => exact ⟨(wrap64 (x11_1 + 1)), (by first | rfl | (simp; done) | (simp [*]; done)), H', ⟨by have := HK1.out; omega⟩, by repeat (first | exact Drawn0.refl _ | apply Drawn0.step)⟩
       ·
        replace c8 := Bool.eq_false_iff.mpr c8
        subst c8
        have H1 : (some false) = some r := by rw [if_neg (show ¬ (false = true) by decide)] at H; exact H
        clear H
        have H := H1
        clear H1
        obtain rfl := Option.some.inj H
        have p102 : 0 ≤ (x11_1 : Int) := of_decide_eq_true (by first | (with_reducible assumption) | assumption)
        have q102 : x11_1 < (l0.length : Int) := of_decide_eq_true (by first | (with_reducible assumption) | assumption)
        obtain ⟨ad102, e102, hx102_0⟩ := Kd.at_string HR0.out x11_1 p102 q102
        cases e102
        replace p102 := eq_true p102
        replace q102 := eq_true q102
        go_wp2_with (first | ((with_reducible refine gate_callee (f := 67) rfl ?_); refine goesL_ (some 17) rfl rfl Tryd.func67 (by kernel_rfl) rfl #[.string (rdOf ByteArray.empty l0 x11_1)] rfl (by (try simp only [List.map_toArray, List.map_cons, List.map_nil]); first | done | rfl | (simp only [List.length_drop, List.length_take]; rfl)) ?_; (with_reducible refine (spec_wdWord.calls k1 (rdOf ByteArray.empty l0 x11_1) false _ A7.out).mono ?_); rintro e w' ⟨rfl, ⟨nd, rfl⟩⟩; refine ⟨_, rfl, ?_⟩))
        go_ret
        exact ⟨by first | rfl | (simp; done) | (simp [*]; done), by repeat (first | exact Drawn0.refl _ | apply Drawn0.step)⟩
      ·
       rw [if_neg c6] at H
       exact absurd H (by simp)
     ·
      rw [if_neg c5] at H
      exact absurd H (by simp)
    ·
     rw [if_neg c4] at H
     have c4b0 : decide (x11_1 < (l0.length : Int)) = false := decide_eq_false c4
     clear c4
     obtain rfl := Option.some.inj H
     go_wp2
     go_ret
     exact ⟨by first | rfl | (simp; done) | (simp [*]; done), by repeat (first | exact Drawn0.refl _ | apply Drawn0.step)⟩
 ·
  replace c3 := Bool.eq_false_iff.mpr c3
  subst c3
  have H1 : (some false) = some r := by rw [if_neg (show ¬ (false = true) by decide)] at H; exact H
  clear H
  have H := H1
  clear H1
  obtain rfl := Option.some.inj H
  go_enter Tryd.func51, Tryd.ntmps51
  go_wp2_with (first | ((with_reducible refine gate_callee (f := 52) rfl ?_); refine goesL_ (some 7) rfl rfl Tryd.func52 (by kernel_rfl) rfl #[.int .i64 (l0.length : Int), .int .i64 1, .int .i64 12] rfl (by (try simp only [List.map_toArray, List.map_cons, List.map_nil]); first | done | rfl | (simp only [List.length_drop, List.length_take]; rfl)) ?_; (with_reducible refine (spec_l1In.calls (l0.length : Int) 1 12 false _ A2.out).mono ?_); rintro e w' ⟨rfl, ⟨nd, rfl⟩⟩; refine ⟨_, rfl, ?_⟩))
  go_ret
  exact ⟨by first | rfl | (simp; done) | (simp [*]; done), by repeat (first | exact Drawn0.refl _ | apply Drawn0.step)⟩

end Go.Proofs.YtamhlbdjjfdbiaaDoor.P

-- printed by xprint.py
namespace Go.Proofs.YtamhlbdjjfdbiaaDoor.P
open Go.RowKit Go.Proofs.YtamhlbdjjfdbiaaDoorW.PrintWords Go.Proofs.YtamhlbdjjfdbiaaDoorW.PrintLast Go.Proofs.YtamhlbdjjfdbiaaDoorW.PrintMore
attribute [local go_sem] max2_int min2_int max_two min_two max_three min_three max_four min_four   -- for this text's walks alone
set_option linter.unusedVariables false
set_option linter.unusedSimpArgs false

/-! ### spec_NearestWords: function 33 -/
mutual
def spec_NearestWords.j0 : Nat → List ByteArray → ByteArray → Bool → Option (List ByteArray × Int × Bool)
 | 0, _, _, _ => none
 | k + 1, x0, x1, x19 => if x19 = true then (some (([] : List ByteArray), 0, false)) else (spec_NearestWords.l0 k x1 ([] : List ByteArray) 0 x0 (x0.length : Int) 0)
def spec_NearestWords.l0 : Nat → ByteArray → List ByteArray → Int → List ByteArray → Int → Int → Option (List ByteArray × Int × Bool)
 | 0, _, _, _, _, _, _ => none
 | k + 1, x1, x7, x8, x20, x21, x22 => if x22 < x21 then (if 0 ≤ x22 then (if x22 < (x20.length : Int) then ((spec_bkFar.f k x1 (rdOf ByteArray.empty x20 x22)).bind fun t104 => (if (x7.length : Int) = 0 then (spec_NearestWords.j2 k x1 x7 x8 (rdOf ByteArray.empty x20 x22) t104 x20 x21 x22 true) else (spec_NearestWords.j2 k x1 x7 x8 (rdOf ByteArray.empty x20 x22) t104 x20 x21 x22 (decide (t104 < x8))))) else (none)) else (none)) else (some (x7, x8, true))
def spec_NearestWords.j2 : Nat → ByteArray → List ByteArray → Int → ByteArray → Int → List ByteArray → Int → Int → Bool → Option (List ByteArray × Int × Bool)
 | 0, _, _, _, _, _, _, _, _, _ => none
 | k + 1, x1, x7, x8, x10, x11, x20, x21, x22, x36 => if x36 = true then (if x11 = x11 then (if ([] : List ByteArray).length < 8796093022208 then (spec_NearestWords.l0 k x1 (([] : List ByteArray) ++ [x10]) x11 x20 x21 (wrap64 (x22 + 1))) else (none)) else (spec_NearestWords.l0 k x1 ([] : List ByteArray) x11 x20 x21 (wrap64 (x22 + 1)))) else (if x11 = x8 then (if x7.length < 8796093022208 then (spec_NearestWords.l0 k x1 (x7 ++ [x10]) x8 x20 x21 (wrap64 (x22 + 1))) else (none)) else (spec_NearestWords.l0 k x1 x7 x8 x20 x21 (wrap64 (x22 + 1))))
end
def spec_NearestWords.f (k : Nat) (l0 : List ByteArray) (a1 : ByteArray) : Option (List ByteArray × Int × Bool) := (spec_wdGood.f k l0).bind fun t101 => (if t101 = true then ((spec_bkText.f k a1).bind fun t102 => (spec_NearestWords.j0 k l0 a1 (!t102))) else (spec_NearestWords.j0 k l0 a1 true))
theorem spec_NearestWords.mono_l : ∀ k, (∀ y0 y1 y2, LeO (spec_NearestWords.j0 k y0 y1 y2) (spec_NearestWords.j0 (k + 1) y0 y1 y2)) ∧ (∀ y0 y1 y2 y3 y4 y5, LeO (spec_NearestWords.l0 k y0 y1 y2 y3 y4 y5) (spec_NearestWords.l0 (k + 1) y0 y1 y2 y3 y4 y5)) ∧ (∀ y0 y1 y2 y3 y4 y5 y6 y7 y8, LeO (spec_NearestWords.j2 k y0 y1 y2 y3 y4 y5 y6 y7 y8) (spec_NearestWords.j2 (k + 1) y0 y1 y2 y3 y4 y5 y6 y7 y8))
 | 0 => ⟨by intros; intro r h; simp [spec_NearestWords.j0] at h, by intros; intro r h; simp [spec_NearestWords.l0] at h, by intros; intro r h; simp [spec_NearestWords.j2] at h⟩
 | k + 1 => by
  obtain ⟨ih0, ih1, ih2⟩ := spec_NearestWords.mono_l k
  refine ⟨?_, ?_, ?_⟩
  ·
   intro y0 y1 y2
   unfold spec_NearestWords.j0
   repeat' first
   | (with_reducible exact ih0 _ _ _)
   | (with_reducible exact ih1 _ _ _ _ _ _)
   | (with_reducible exact ih2 _ _ _ _ _ _ _ _ _)
   | (with_reducible exact spec_bkFar.mono _ _ _)
   | (with_reducible exact spec_bkText.mono _ _)
   | (with_reducible exact spec_wdGood.mono _ _)
   | (with_reducible exact LeO.refl _)
   | (with_reducible exact LeO.none _)
   | (with_reducible refine LeO.ite ?_ ?_)
   | (with_reducible refine LeO.bind ?_ (fun _ => ?_))
   | exact ih0 _ _ _
   | exact ih1 _ _ _ _ _ _
   | exact ih2 _ _ _ _ _ _ _ _ _
   | exact spec_bkFar.mono _ _ _
   | exact spec_bkText.mono _ _
   | exact spec_wdGood.mono _ _
   | exact LeO.none _
   | refine LeO.ite ?_ ?_
   | refine LeO.bind ?_ (fun _ => ?_)
  ·
   intro y0 y1 y2 y3 y4 y5
   unfold spec_NearestWords.l0
   repeat' first
   | (with_reducible exact ih0 _ _ _)
   | (with_reducible exact ih1 _ _ _ _ _ _)
   | (with_reducible exact ih2 _ _ _ _ _ _ _ _ _)
   | (with_reducible exact spec_bkFar.mono _ _ _)
   | (with_reducible exact spec_bkText.mono _ _)
   | (with_reducible exact spec_wdGood.mono _ _)
   | (with_reducible exact LeO.refl _)
   | (with_reducible exact LeO.none _)
   | (with_reducible refine LeO.ite ?_ ?_)
   | (with_reducible refine LeO.bind ?_ (fun _ => ?_))
   | exact ih0 _ _ _
   | exact ih1 _ _ _ _ _ _
   | exact ih2 _ _ _ _ _ _ _ _ _
   | exact spec_bkFar.mono _ _ _
   | exact spec_bkText.mono _ _
   | exact spec_wdGood.mono _ _
   | exact LeO.none _
   | refine LeO.ite ?_ ?_
   | refine LeO.bind ?_ (fun _ => ?_)
  ·
   intro y0 y1 y2 y3 y4 y5 y6 y7 y8
   unfold spec_NearestWords.j2
   repeat' first
   | (with_reducible exact ih0 _ _ _)
   | (with_reducible exact ih1 _ _ _ _ _ _)
   | (with_reducible exact ih2 _ _ _ _ _ _ _ _ _)
   | (with_reducible exact spec_bkFar.mono _ _ _)
   | (with_reducible exact spec_bkText.mono _ _)
   | (with_reducible exact spec_wdGood.mono _ _)
   | (with_reducible exact LeO.refl _)
   | (with_reducible exact LeO.none _)
   | (with_reducible refine LeO.ite ?_ ?_)
   | (with_reducible refine LeO.bind ?_ (fun _ => ?_))
   | exact ih0 _ _ _
   | exact ih1 _ _ _ _ _ _
   | exact ih2 _ _ _ _ _ _ _ _ _
   | exact spec_bkFar.mono _ _ _
   | exact spec_bkText.mono _ _
   | exact spec_wdGood.mono _ _
   | exact LeO.none _
   | refine LeO.ite ?_ ?_
   | refine LeO.bind ?_ (fun _ => ?_)
theorem spec_NearestWords.mono : ∀ y0 y1 k, LeO (spec_NearestWords.f k y0 y1) (spec_NearestWords.f (k + 1) y0 y1) := by
 intro y0 y1 k
 obtain ⟨ih0, ih1, ih2⟩ := spec_NearestWords.mono_l k
 unfold spec_NearestWords.f
 repeat' first
   | (with_reducible exact ih0 _ _ _)
   | (with_reducible exact ih1 _ _ _ _ _ _)
   | (with_reducible exact ih2 _ _ _ _ _ _ _ _ _)
   | (with_reducible exact spec_bkFar.mono _ _ _)
   | (with_reducible exact spec_bkText.mono _ _)
   | (with_reducible exact spec_wdGood.mono _ _)
   | (with_reducible exact LeO.refl _)
   | (with_reducible exact LeO.none _)
   | (with_reducible refine LeO.ite ?_ ?_)
   | (with_reducible refine LeO.bind ?_ (fun _ => ?_))
   | exact ih0 _ _ _
   | exact ih1 _ _ _ _ _ _
   | exact ih2 _ _ _ _ _ _ _ _ _
   | exact spec_bkFar.mono _ _ _
   | exact spec_bkText.mono _ _
   | exact spec_wdGood.mono _ _
   | exact LeO.none _
   | refine LeO.ite ?_ ?_
   | refine LeO.bind ?_ (fun _ => ?_)
set_option maxHeartbeats 8000000 in
set_option maxRecDepth 100000 in
theorem spec_NearestWords.calls (k : Nat) (A0 : Option Addr) (c0 : Nat) (l0 : List ByteArray) (a1 : ByteArray) (r1 : List ByteArray) (r2 : Int) (r3 : Bool) (w : World) (hr0 : Kd.C Kd.string w A0 l0.length l0) (hc0 : l0.length ≤ c0) (h : spec_NearestWords.f k l0 a1 = some (r1, r2, r3)) :
  Calls Tryd.prog 33 #[.slice A0 l0.length c0, .string a1] w fun e w' => ∃ v0_ : Value, e = .returned (.tuple #[v0_, .int .i64 r2, .bool r3]) ∧ Kd.R Kd.string 9 w' w.heap.size (fun _ => True) v0_ r1 ∧ Below w.heap.size w w' := by
 have HR0 := Aside0.mk hr0
 have HC0 := Aside0.mk hc0
 clear hr0 hc0
 have HB := Aside0.mk (Below.refl w.heap.size w)
 have H : ((spec_wdGood.f k l0).bind fun t101 => (if t101 = true then ((spec_bkText.f k a1).bind fun t102 => (spec_NearestWords.j0 k l0 a1 (!t102))) else (spec_NearestWords.j0 k l0 a1 true))) = some (r1, r2, r3) := h
 clear h
 have HC3 := Aside0.mk H
 clear H
 go_enter Tryd.func33, Tryd.ntmps33
 go_upto_region 1 with (fail)
 go_cut [19] (fun v19 wc => ∃ (kq : Nat) (x19_2 : Bool), v19 = .bool x19_2 ∧ Aside0 (spec_NearestWords.j0 kq l0 a1 x19_2 = some (r1, r2, r3)) ∧ Aside0 (kq ≤ k) ∧ Aside0 (Below w.heap.size w wc))
 case first =>
  have H := HC3.out
  clear HC3
  replace H := Option.bind_eq_some_iff.mp H
  obtain ⟨t101, A40, H⟩ := H
  replace H : (if t101 = true then ((spec_bkText.f k a1).bind fun t102 => (spec_NearestWords.j0 k l0 a1 (!t102))) else (spec_NearestWords.j0 k l0 a1 true)) = some (r1, r2, r3) := H
  have A4 := Aside0.mk A40
  clear A40
  by_cases c5 : t101 = true
  ·
   subst c5
   have H1 : ((spec_bkText.f k a1).bind fun t102 => (spec_NearestWords.j0 k l0 a1 (!t102))) = some (r1, r2, r3) := by first | (rw [if_pos rfl] at H; exact H) | (rw [if_pos rfl] at H; simpa using H)
   clear H
   have H := H1
   clear H1
   replace H := Option.bind_eq_some_iff.mp H
   obtain ⟨t102, A60, H⟩ := H
   replace H : (spec_NearestWords.j0 k l0 a1 (!t102)) = some (r1, r2, r3) := H
   have A6 := Aside0.mk A60
   clear A60
   have H' := Aside0.mk H
   clear H
   go_wp2_with (first | ((with_reducible refine gate_callee (f := 51) rfl ?_); refine goesL_ (some 13) rfl rfl Tryd.func51 (by kernel_rfl) rfl #[.slice A0 l0.length c0] rfl (by (try simp only [List.map_toArray, List.map_cons, List.map_nil]); first | done | rfl | (simp only [List.length_drop, List.length_take]; rfl)) ?_; (with_reducible refine (spec_wdGood.calls k _ _ l0 true _ ?side1 ?side2 A4.out).mono ?_); (case side1 => repeat (first | exact (Kd.C_below HR0.out HB.out) | (with_reducible refine Kd.C_alloc ?_ _) | (with_reducible refine Kd.C_drewN ?_ _) | (with_reducible refine Kd.C_drew ?_))); (case side2 => exact HC0.out); rintro e w' ⟨rfl, ⟨nd, rfl⟩⟩; refine ⟨_, rfl, ?_⟩) | (go_at_call 40; (with_reducible refine (spec_bkText.calls k a1 t102 _ A6.out).mono ?_); rintro e w' ⟨rfl, ⟨nd, rfl⟩⟩))
   go_meet
   case rel => exact ⟨_, (!t102), (by first | rfl | (simp; done) | (simp [*]; done)), H', ⟨by first | omega | exact Nat.le_refl _⟩, ⟨by repeat (first | (with_reducible first | exact HB.out | apply below_alloc | apply pw_below_drewN | apply below_drew1) | exact HB.out)⟩⟩
  ·
   replace c5 := Bool.eq_false_iff.mpr c5
   subst c5
   have H1 : (spec_NearestWords.j0 k l0 a1 true) = some (r1, r2, r3) := by rw [if_neg (show ¬ (false = true) by decide)] at H; exact H
   clear H
   have H := H1
   clear H1
   have H' := Aside0.mk H
   clear H
   go_wp2_with (first | ((with_reducible refine gate_callee (f := 51) rfl ?_); refine goesL_ (some 13) rfl rfl Tryd.func51 (by kernel_rfl) rfl #[.slice A0 l0.length c0] rfl (by (try simp only [List.map_toArray, List.map_cons, List.map_nil]); first | done | rfl | (simp only [List.length_drop, List.length_take]; rfl)) ?_; (with_reducible refine (spec_wdGood.calls k _ _ l0 false _ ?side1 ?side2 A4.out).mono ?_); (case side1 => repeat (first | exact (Kd.C_below HR0.out HB.out) | (with_reducible refine Kd.C_alloc ?_ _) | (with_reducible refine Kd.C_drewN ?_ _) | (with_reducible refine Kd.C_drew ?_))); (case side2 => exact HC0.out); rintro e w' ⟨rfl, ⟨nd, rfl⟩⟩; refine ⟨_, rfl, ?_⟩))
   go_meet
   case rel => exact ⟨_, (true), (by first | rfl | (simp; done) | (simp [*]; done)), H', ⟨by first | omega | exact Nat.le_refl _⟩, ⟨by repeat (first | (with_reducible first | exact HB.out | apply below_alloc | apply pw_below_drewN | apply below_drew1) | exact HB.out)⟩⟩
 case rest =>
  clear HC3
  try clear p2
  try clear c3
  try clear c5
  obtain ⟨kq, x19_2, rfl, HA, HJ2, HB⟩ := hcut
  cases kq with
  | zero => exact absurd HA.out (by simp [spec_NearestWords.j0])
  | succ kj2 =>
   have H := HA.out
   clear HA
   simp only [spec_NearestWords.j0] at H
   by_cases c7 : x19_2 = true
   ·
    subst c7
    have H1 : (some (([] : List ByteArray), 0, false)) = some (r1, r2, r3) := by first | (rw [if_pos rfl] at H; exact H) | (rw [if_pos rfl] at H; simpa using H)
    clear H
    have H := H1
    clear H1
    simp only [Option.some.injEq, Prod.mk.injEq] at H
    obtain ⟨rfl, rfl, rfl⟩ := H
    go_wp2
    go_ret3
    exact ⟨_, by first | rfl | (simp [errW_none, errW_some] <;> rfl) | (simp [*, errW_none, errW_some] <;> rfl), by first | exact Kd.R_nil _ _ _ _ _ | exact Kd.N_nil _ _ _ _ _ | exact Kd.V_nil _ _ _ _ _ | exact Kd.Q_nil _ _ _ _ _ | exact Kd.S_nil _ _ _ _ _, by repeat (first | (with_reducible first | exact HB.out | apply below_alloc | apply pw_below_drewN | apply below_drew1) | exact HB.out)⟩
   ·
    replace c7 := Bool.eq_false_iff.mpr c7
    subst c7
    have H1 : (spec_NearestWords.l0 kj2 a1 ([] : List ByteArray) 0 l0 (l0.length : Int) 0) = some (r1, r2, r3) := by rw [if_neg (show ¬ (false = true) by decide)] at H; exact H
    clear H
    have H := H1
    clear H1
    have H' := Aside0.mk H
    clear H
    go_wp2
    go_loopg [7, 8, 22] kj2 (fun kq v7 v8 v22 w' => ∃ (x7_2 : List ByteArray) (x8_2 : Int) (x22_2 : Int), v8 = .int .i64 x8_2 ∧ v22 = .int .i64 x22_2 ∧ Aside0 (spec_NearestWords.l0 kq a1 x7_2 x8_2 l0 (l0.length : Int) x22_2 = some (r1, r2, r3)) ∧ Aside0 (kq ≤ kj2) ∧ Aside0 (Kd.R Kd.string 9 w' w.heap.size (fun _ => True) v7 x7_2) ∧ Aside0 (Below w.heap.size w w'))
    case atStart => exact ⟨(([] : List ByteArray)), (0), (0), (by first | rfl | (simp; done) | (simp [*]; done)), (by first | rfl | (simp; done) | (simp [*]; done)), H', ⟨Nat.le_refl _⟩, ⟨by first | exact Kd.R_nil _ _ _ _ _ | exact Kd.N_nil _ _ _ _ _ | exact Kd.V_nil _ _ _ _ _ | exact Kd.Q_nil _ _ _ _ _ | exact Kd.S_nil _ _ _ _ _⟩, ⟨by repeat (first | (with_reducible first | exact HB.out | apply below_alloc | apply pw_below_drewN | apply below_drew1) | exact HB.out)⟩⟩
    case round =>
     clear H'
     try clear p2
     try clear c3
     try clear c5
     try clear c7
     try clear p2
     obtain ⟨x7_2, x8_2, x22_2, rfl, rfl, HA, HK2, HO_7, HB⟩ := hrel
     cases gk with
     | zero => exact absurd HA.out (by simp [spec_NearestWords.l0])
     | succ k2 =>
      have H := HA.out
      clear HA
      simp only [spec_NearestWords.l0] at H
      by_cases c8 : x22_2 < (l0.length : Int)
      ·
       rw [if_pos c8] at H
       have c8b0 : decide (x22_2 < (l0.length : Int)) = true := decide_eq_true c8
       clear c8
       by_cases c9 : 0 ≤ x22_2
       ·
        rw [if_pos c9] at H
        have c9b0 : decide (0 ≤ x22_2) = true := decide_eq_true c9
        clear c9
        by_cases c10 : x22_2 < (l0.length : Int)
        ·
         rw [if_pos c10] at H
         have c10b0 : decide (x22_2 < (l0.length : Int)) = true := decide_eq_true c10
         clear c10
         replace H := Option.bind_eq_some_iff.mp H
         obtain ⟨t104, A110, H⟩ := H
         replace H : (if (x7_2.length : Int) = 0 then (spec_NearestWords.j2 k2 a1 x7_2 x8_2 (rdOf ByteArray.empty l0 x22_2) t104 l0 (l0.length : Int) x22_2 true) else (spec_NearestWords.j2 k2 a1 x7_2 x8_2 (rdOf ByteArray.empty l0 x22_2) t104 l0 (l0.length : Int) x22_2 (decide (t104 < x8_2)))) = some (r1, r2, r3) := H
         have A11 := Aside0.mk A110
         clear A110
         have HC12 := Aside0.mk H
         clear H
         have p103 : 0 ≤ (x22_2 : Int) := of_decide_eq_true (by first | (with_reducible assumption) | assumption)
         have q103 : x22_2 < (l0.length : Int) := of_decide_eq_true (by first | (with_reducible assumption) | assumption)
         obtain ⟨ad103, e103, hx103_0⟩ := Kd.at_string HR0.out x22_2 p103 q103
         cases e103
         (try replace hx103_0 := (HB.out.cell (World.block_lt_of_cell? w _ hx103_0)).trans hx103_0)
         replace p103 := eq_true p103
         replace q103 := eq_true q103
         go_upto_region 9 with (first | ((with_reducible refine gate_callee (f := 36) rfl ?_); refine goesL_ (some 28) rfl rfl Tryd.func36 (by kernel_rfl) rfl #[.string a1, .string (rdOf ByteArray.empty l0 x22_2)] rfl (by (try simp only [List.map_toArray, List.map_cons, List.map_nil]); first | done | rfl | (simp only [List.length_drop, List.length_take]; rfl)) ?_; (with_reducible refine (spec_bkFar.calls k2 a1 (rdOf ByteArray.empty l0 x22_2) t104 _ A11.out).mono ?_); rintro e w13 ⟨rfl, hb⟩; refine ⟨_, rfl, ?_⟩; have n0_ := Aside0.mk (Kd.R_below (by (with_reducible repeat (first | apply Kd.R_alloc | apply Kd.R_drewN | apply Kd.R_drew)); exact HO_7.out) hb); have n1_ := Aside0.mk (below_step (by repeat (first | (with_reducible first | exact HB.out | apply below_alloc | apply pw_below_drewN | apply below_drew1) | exact HB.out)) hb); clear HO_7; clear HB; have HO_7 := n0_; have HB := n1_; clear n0_ n1_; (try clear hb); (try clear hb2); (try clear hk); (try clear hi)))
         (try simp only [Act.put, List.setIfInBounds_toArray, List.set_cons_zero, List.set_cons_succ])
         go_cut [36] (fun v36 wc => ∃ (kq : Nat) (x36_11 : Bool), v36 = .bool x36_11 ∧ Aside0 (spec_NearestWords.j2 kq a1 x7_2 x8_2 (rdOf ByteArray.empty l0 x22_2) t104 l0 (l0.length : Int) x22_2 x36_11 = some (r1, r2, r3)) ∧ Aside0 (kq ≤ k2) ∧ Aside0 (Kd.R Kd.string 9 wc w.heap.size (fun _ => True) u7 x7_2) ∧ Aside0 (Below w.heap.size w wc))
         case first =>
          have H := HC12.out
          clear HC12
          by_cases c14 : (x7_2.length : Int) = 0
          ·
           rw [if_pos c14] at H
           have c14b0 : ((x7_2.length : Int) == 0) = true := beq_iff_eq.mpr c14
           have c14b1 : ((x7_2.length : Int) != 0) = false := bne_eq_false_iff_eq.mpr c14
           clear c14
           (first | rw [c14b0] | (simp only [i64_w, i32_w]; rw [c14b0]) | skip)
           have H' := Aside0.mk H
           clear H
           obtain ⟨Ao15, co15, eo15⟩ := Kd.R_slice HO_7.out
           subst eo15
           go_wp2
           go_meet
           case rel => exact ⟨_, (true), (by first | rfl | (simp; done) | (simp [*]; done)), H', ⟨by have := HJ2.out; have := HK2.out; first | omega | exact Nat.le_refl _⟩, ⟨by (with_reducible repeat (first | apply Kd.R_alloc | apply Kd.R_drewN | apply Kd.R_drew)); exact HO_7.out⟩, ⟨by repeat (first | (with_reducible first | exact HB.out | apply below_alloc | apply pw_below_drewN | apply below_drew1) | exact HB.out)⟩⟩
          ·
           rw [if_neg c14] at H
           have c14b0 : ((x7_2.length : Int) == 0) = false := beq_eq_false_iff_ne.mpr c14
           have c14b1 : ((x7_2.length : Int) != 0) = true := bne_iff_ne.mpr c14
           have c14b2 : ¬ (x7_2 = []) := fun h_ => c14 (by rw [h_]; rfl)
           (first | rw [c14b0] | (simp only [i64_w, i32_w]; rw [c14b0]) | skip)
           have H' := Aside0.mk H
           clear H
           obtain ⟨Ao16, co16, eo16⟩ := Kd.R_slice HO_7.out
           subst eo16
           go_wp2
           go_meet
           case rel => exact ⟨_, (decide (t104 < x8_2)), (by first | rfl | (simp; done) | (simp [*]; done)), H', ⟨by have := HJ2.out; have := HK2.out; first | omega | exact Nat.le_refl _⟩, ⟨by (with_reducible repeat (first | apply Kd.R_alloc | apply Kd.R_drewN | apply Kd.R_drew)); exact HO_7.out⟩, ⟨by repeat (first | (with_reducible first | exact HB.out | apply below_alloc | apply pw_below_drewN | apply below_drew1) | exact HB.out)⟩⟩
         case rest =>
          clear HC12
          try clear c1
          try clear p1
          try clear q1
          try clear hx1
          try clear p2
          try clear c3
          try clear c5
          try clear c7
          try clear c8
          try clear c8b0
          try clear c9
          try clear c9b0
          try clear c10
          try clear c10b0
          try clear p10
          try clear q10
          try clear hx10
          try clear c14
          try clear c14b0
          try clear c14b1
          try clear c14b2
          try clear hx103_0
          try clear p103
          try clear p2
          try clear q103
          obtain ⟨kq, x36_11, rfl, HA, HJ11, HO_7, HB⟩ := hcut
          cases kq with
          | zero => exact absurd HA.out (by simp [spec_NearestWords.j2])
          | succ kj11 =>
           have H := HA.out
           clear HA
           simp only [spec_NearestWords.j2] at H
           by_cases c17 : x36_11 = true
           ·
            subst c17
            have H1 : (if t104 = t104 then (if ([] : List ByteArray).length < 8796093022208 then (spec_NearestWords.l0 kj11 a1 (([] : List ByteArray) ++ [(rdOf ByteArray.empty l0 x22_2)]) t104 l0 (l0.length : Int) (wrap64 (x22_2 + 1))) else (none)) else (spec_NearestWords.l0 kj11 a1 ([] : List ByteArray) t104 l0 (l0.length : Int) (wrap64 (x22_2 + 1)))) = some (r1, r2, r3) := by first | (rw [if_pos rfl] at H; exact H) | (rw [if_pos rfl] at H; simpa using H)
            clear H
            have H := H1
            clear H1
            by_cases c18 : t104 = t104
            ·
             rw [if_pos c18] at H
             have c18b0 : (t104 == t104) = true := beq_iff_eq.mpr c18
             have c18b1 : (t104 != t104) = false := bne_eq_false_iff_eq.mpr c18
             clear c18
             by_cases c19 : ([] : List ByteArray).length < 8796093022208
             ·
              rw [if_pos c19] at H
              have LMc19 := Aside0.mk c19
              clear c19
              obtain ⟨y105, hy105⟩ : ∃ y_ : List ByteArray, y_ = (([] : List ByteArray) ++ [(rdOf ByteArray.empty l0 x22_2)]) := ⟨_, rfl⟩
              replace H : (spec_NearestWords.l0 kj11 a1 y105 t104 l0 (l0.length : Int) (wrap64 (x22_2 + 1))) = some (r1, r2, r3) := by first | (rw [hy105]; with_reducible exact H) | (have H2_ := (Option.bind_some _ _).symm.trans H; rw [hy105]; with_reducible exact H2_) | (have H2_ := (Option.bind_some _ _).symm.trans H; with_reducible exact H2_) | with_reducible exact H | (rw [hy105]; exact H) | exact H
              have Ny105 := Aside0.mk hy105
              clear hy105
              have H' := Aside0.mk H
              clear H
              go_wp2_with (first | ((with_reducible refine gate_builtin (b := .append) (xs := #[.tmp 41, .tmp 43]) rfl ?_); at_builtin; refine Kd.R_append Kd.string (w0 := w) w.heap.size rfl (.tmp 41) (.tmp 43) 31 9 (.string ⟨#[]⟩) 16 rfl Tryd.underlying31 info9 rfl (by decide) (by omega) (.slice none 0 0) ([] : List ByteArray) (rdOf ByteArray.empty l0 x22_2) [.string (rdOf ByteArray.empty l0 x22_2)] (fun k_ => some k_ ≠ (u7 : Value).ownBlock) (fun _ => False) rfl rfl ?aP (fun _ hk => hk.elim) ?aF ?aO ?aB ?aS ?aL ?_; (case aP => exact rfl); (case aB => exact (by repeat (first | (with_reducible first | exact HB.out | apply below_alloc | apply pw_below_drewN | apply below_drew1) | exact HB.out))); (case aF => exact (fun k_ hk => Kd.fresh' (Kd.R_lt (by (with_reducible repeat (first | apply Kd.R_alloc | apply Kd.R_drewN | apply Kd.R_drew)); exact HO_7.out)) k_ hk)); (case aO => exact ((Kd.R_nil _ _ _ _ (fun k_ => some k_ ≠ (u7 : Value).ownBlock)))); (case aS => exact (below_size (by repeat (first | (with_reducible first | exact HB.out | apply below_alloc | apply pw_below_drewN | apply below_drew1) | exact HB.out)))); (case aL => have := LMc19.out; omega); intro v106 w20 ho hb hg hat; rw [← Ny105.out] at ho; have n0_ := Aside0.mk (Kd.R_after (Kd.R_apart_nil (by (with_reducible repeat (first | apply Kd.R_alloc | apply Kd.R_drewN | apply Kd.R_drew)); exact HO_7.out)) hg hat); have n1_ := Aside0.mk (hb); have n2_ := Aside0.mk (ho); clear HO_7; clear HB; have HO_7 := n0_; have HB := n1_; have HO107 := n2_; clear n0_ n1_ n2_; clear ho hb hg hat))
              go_roundg kj11
              case measure => have := HJ2.out; have := HK2.out; have := HJ11.out; omega
              case rel => exact ⟨(y105), (t104), (wrap64 (x22_2 + 1)), (by first | rfl | (simp; done) | (simp [*]; done)), (by first | rfl | (simp; done) | (simp [*]; done)), H', ⟨by have := HJ2.out; have := HK2.out; have := HJ11.out; omega⟩, ⟨by (with_reducible repeat (first | apply Kd.R_alloc | apply Kd.R_drewN | apply Kd.R_drew)); exact Kd.R_mono HO107.out (fun _ hk => trivial)⟩, ⟨by repeat (first | (with_reducible first | exact HB.out | apply below_alloc | apply pw_below_drewN | apply below_drew1) | exact HB.out)⟩⟩
             ·
              rw [if_neg c19] at H
              exact absurd H (by simp)
            ·
             exact absurd rfl c18
           ·
            replace c17 := Bool.eq_false_iff.mpr c17
            subst c17
            have H1 : (if t104 = x8_2 then (if x7_2.length < 8796093022208 then (spec_NearestWords.l0 kj11 a1 (x7_2 ++ [(rdOf ByteArray.empty l0 x22_2)]) x8_2 l0 (l0.length : Int) (wrap64 (x22_2 + 1))) else (none)) else (spec_NearestWords.l0 kj11 a1 x7_2 x8_2 l0 (l0.length : Int) (wrap64 (x22_2 + 1)))) = some (r1, r2, r3) := by rw [if_neg (show ¬ (false = true) by decide)] at H; exact H
            clear H
            have H := H1
            clear H1
            by_cases c21 : t104 = x8_2
            ·
             rw [if_pos c21] at H
             have c21b0 : (t104 == x8_2) = true := beq_iff_eq.mpr c21
             have c21b1 : (t104 != x8_2) = false := bne_eq_false_iff_eq.mpr c21
             clear c21
             by_cases c22 : x7_2.length < 8796093022208
             ·
              rw [if_pos c22] at H
              have LMc22 := Aside0.mk c22
              clear c22
              obtain ⟨y108, hy108⟩ : ∃ y_ : List ByteArray, y_ = (x7_2 ++ [(rdOf ByteArray.empty l0 x22_2)]) := ⟨_, rfl⟩
              replace H : (spec_NearestWords.l0 kj11 a1 y108 x8_2 l0 (l0.length : Int) (wrap64 (x22_2 + 1))) = some (r1, r2, r3) := by first | (rw [hy108]; with_reducible exact H) | (have H2_ := (Option.bind_some _ _).symm.trans H; rw [hy108]; with_reducible exact H2_) | (have H2_ := (Option.bind_some _ _).symm.trans H; with_reducible exact H2_) | with_reducible exact H | (rw [hy108]; exact H) | exact H
              have Ny108 := Aside0.mk hy108
              clear hy108
              have H' := Aside0.mk H
              clear H
              go_wp2_with (first | ((with_reducible refine gate_builtin (b := .append) (xs := #[.tmp 41, .tmp 43]) rfl ?_); at_builtin; refine Kd.R_append Kd.string (w0 := w) w.heap.size rfl (.tmp 41) (.tmp 43) 31 9 (.string ⟨#[]⟩) 16 rfl Tryd.underlying31 info9 rfl (by decide) (by omega) u7 x7_2 (rdOf ByteArray.empty l0 x22_2) [.string (rdOf ByteArray.empty l0 x22_2)] (fun _ => True) (fun _ => False) rfl rfl ?aP (fun _ hk => hk.elim) ?aF ?aO ?aB ?aS ?aL ?_; (case aP => exact rfl); (case aB => exact (by repeat (first | (with_reducible first | exact HB.out | apply below_alloc | apply pw_below_drewN | apply below_drew1) | exact HB.out))); (case aF => exact (fun _ _ => trivial)); (case aO => exact (by (with_reducible repeat (first | apply Kd.R_alloc | apply Kd.R_drewN | apply Kd.R_drew)); exact HO_7.out)); (case aS => exact (below_size (by repeat (first | (with_reducible first | exact HB.out | apply below_alloc | apply pw_below_drewN | apply below_drew1) | exact HB.out)))); (case aL => have := LMc22.out; omega); intro v109 w23 ho hb hg hat; rw [← Ny108.out] at ho; have n0_ := Aside0.mk (hb); have n1_ := Aside0.mk (ho); clear HB; clear HO_7; have HB := n0_; have HO110 := n1_; clear n0_ n1_; clear ho hb hg hat))
              go_roundg kj11
              case measure => have := HJ2.out; have := HK2.out; have := HJ11.out; omega
              case rel => exact ⟨(y108), (x8_2), (wrap64 (x22_2 + 1)), (by first | rfl | (simp; done) | (simp [*]; done)), (by first | rfl | (simp; done) | (simp [*]; done)), H', ⟨by have := HJ2.out; have := HK2.out; have := HJ11.out; omega⟩, ⟨by (with_reducible repeat (first | apply Kd.R_alloc | apply Kd.R_drewN | apply Kd.R_drew)); exact HO110.out⟩, ⟨by repeat (first | (with_reducible first | exact HB.out | apply below_alloc | apply pw_below_drewN | apply below_drew1) | exact HB.out)⟩⟩
             ·
              rw [if_neg c22] at H
              exact absurd H (by simp)
            ·
             rw [if_neg c21] at H
             have c21b0 : (t104 == x8_2) = false := beq_eq_false_iff_ne.mpr c21
             have c21b1 : (t104 != x8_2) = true := bne_iff_ne.mpr c21
             have H' := Aside0.mk H
             clear H
             go_wp2
             go_roundg kj11
             case measure => have := HJ2.out; have := HK2.out; have := HJ11.out; omega
             case rel => exact ⟨(x7_2), (x8_2), (wrap64 (x22_2 + 1)), (by first | rfl | (simp; done) | (simp [*]; done)), (by first | rfl | (simp; done) | (simp [*]; done)), H', ⟨by have := HJ2.out; have := HK2.out; have := HJ11.out; omega⟩, ⟨by (with_reducible repeat (first | apply Kd.R_alloc | apply Kd.R_drewN | apply Kd.R_drew)); exact HO_7.out⟩, ⟨by repeat (first | (with_reducible first | exact HB.out | apply below_alloc | apply pw_below_drewN | apply below_drew1) | exact HB.out)⟩⟩
        ·
         rw [if_neg c10] at H
         exact absurd H (by simp)
       ·
        rw [if_neg c9] at H
        exact absurd H (by simp)
      ·
       rw [if_neg c8] at H
       have c8b0 : decide (x22_2 < (l0.length : Int)) = false := decide_eq_false c8
       clear c8
       simp only [Option.some.injEq, Prod.mk.injEq] at H
       obtain ⟨rfl, rfl, rfl⟩ := H
       go_wp2
       go_ret3
       exact ⟨_, by first | rfl | (simp [errW_none, errW_some] <;> rfl) | (simp [*, errW_none, errW_some] <;> rfl), by (with_reducible repeat (first | apply Kd.R_alloc | apply Kd.R_drewN | apply Kd.R_drew)); exact HO_7.out, by repeat (first | (with_reducible first | exact HB.out | apply below_alloc | apply pw_below_drewN | apply below_drew1) | exact HB.out)⟩

end Go.Proofs.YtamhlbdjjfdbiaaDoor.P

