/- Part 3 of 3 of the proof of: FnExactFirstTyposCardSaid: the law 'FnExactFirstTypos' answers true for every input, and leaves its arguments as they were. The row and its tied card, over the walk of its calls and the pure statement. -/
import Derived.Test.YtgbkfhoildfaoaaDoorMFnExactFirstTypos2
import Derived.Test.YtgbkfhoildfaoaaDoorWMore
import Derived.WalkKit
import Derived.ProofKit
import Derived.OpenShut
import Derived.ShutString
import Derived.ChangeOld
import Derived.Below
import Derived.SizedLaws
import Derived.ChangeSlices
import Derived.SliceStrings
import Derived.Lib.SmallJoins
import Derived.LaidLaws
import Derived.LaidHandle
import Derived.LaidMore
import Derived.Test.YtgbkfhoildfaoaaDoorRows
import Derived.Test.YtgbkfhoildfaoaaDoorCards
import Derived.Test.YtgbkfhoildfaoaaDoorTie
import Derived.Handed
import Derived.SevenTiedAt
import Derived.Stop.Joined
/- FnExactFirstTypos: both sides go the same way through tables of the same distances: over the functions that the walk computes. -/
namespace Go.Proofs.YtgbkfhoildfaoaaDoor
open Go.RowKit Go.Proofs.YtgbkfhoildfaoaaDoor.P Go.Proofs.YtgbkfhoildfaoaaDoorW.PrintWords
set_option linter.unusedSimpArgs false
set_option linter.unusedVariables false
set_option linter.unusedSectionVars false
namespace FirstTypos
attribute [local irreducible] rd_L1 rd
section
variable (s t : ByteArray) (ls : (bl s).length ≤ 20) (lt : (bl t).length ≤ 20) (T : List (List Int)) (hT : DoneT (bl s) (bl t) T 0)
include ls lt hT
theorem sp3 (o : ByteArray) (ho : o.size ≤ 1000) (i k : Nat) (R : ByteArray × Bool) (hi : i ≤ (bl s).length) (hk : k < (bl t).length)
    (hm : Lv (bl s) (bl t) i (k + 1) + 1 = Lv (bl s) (bl t) i k → Ev (fun K => spec_FirstTypos.l0 K s t T (o ++ (⟨#[109]⟩ : ByteArray)) i ((k + 1 : Nat) : Int)) R)
    (hr : ¬ Lv (bl s) (bl t) i (k + 1) + 1 = Lv (bl s) (bl t) i k → Ev (fun K => spec_FirstTypos.l0 K s t T (o ++ (⟨#[114]⟩ : ByteArray)) ((i + 1 : Nat) : Int) ((k + 1 : Nat) : Int)) R) :
    Ev (fun K => spec_FirstTypos.j3 K s t T o i k (Lv (bl s) (bl t) i k) false) R := by
  obtain ⟨a1, a2, a3⟩ := hT.at_ i (k + 1) hi hk
  have es : (s.size : Int) = ((bl s).length : Int) := rfl
  have et : (t.size : Int) = ((bl t).length : Int) := rfl
  have e1 : wrap64 ((i : Int) + 1) = ((i + 1 : Nat) : Int) := by clear a1 a2 a3; rw [wrap_id (by omega) (by omega)]; omega
  have e2 : wrap64 ((k : Int) + 1) = ((k + 1 : Nat) : Int) := by clear a1 a2 a3; rw [wrap_id (by omega) (by omega)]; omega
  apply Ev.succ
  simp only [spec_FirstTypos.j3, e1, e2, a1, a2, a3]
  clear a1 a2 a3
  have b3 := Lv_nn (a := bl s) (b := bl t) i (k + 1)
  have g3 := Lv_le i (k + 1) ls lt
  rw [wrap_id (n := Lv (bl s) (bl t) i (k + 1) + 1) (by omega) (by omega)]
  refine Ev.neg (by simp) (Ev.pos (by omega) (Ev.pos (by omega) (Ev.pos (by omega) (Ev.pos (by omega) (Ev.pos (by omega) ?_)))))
  by_cases c : Lv (bl s) (bl t) i (k + 1) + 1 = Lv (bl s) (bl t) i k
  · exact Ev.pos c (Ev.pos (by omega) (hm c))
  · exact Ev.neg c (Ev.pos (by omega) (hr c))
theorem sp2 (o : ByteArray) (ho : o.size ≤ 1000) (i k : Nat) (R : ByteArray × Bool) (hi : i < (bl s).length) (hk : k ≤ (bl t).length)
    (hl : Lv (bl s) (bl t) (i + 1) k + 1 = Lv (bl s) (bl t) i k → Ev (fun K => spec_FirstTypos.l0 K s t T (o ++ (⟨#[108]⟩ : ByteArray)) ((i + 1 : Nat) : Int) k) R)
    (hr : ¬ Lv (bl s) (bl t) (i + 1) k + 1 = Lv (bl s) (bl t) i k → Ev (fun K => spec_FirstTypos.j3 K s t T o i k (Lv (bl s) (bl t) i k) false) R) :
    Ev (fun K => spec_FirstTypos.j2 K s t T o i k (Lv (bl s) (bl t) i k) false) R := by
  obtain ⟨a1, a2, a3⟩ := hT.at_ (i + 1) k hi hk
  have es : (s.size : Int) = ((bl s).length : Int) := rfl
  have et : (t.size : Int) = ((bl t).length : Int) := rfl
  have e1 : wrap64 ((i : Int) + 1) = ((i + 1 : Nat) : Int) := by clear a1 a2 a3; rw [wrap_id (by omega) (by omega)]; omega
  apply Ev.succ
  simp only [spec_FirstTypos.j2, e1, a1, a2, a3]
  clear a1 a2 a3
  have b3 := Lv_nn (a := bl s) (b := bl t) (i + 1) k
  have g3 := Lv_le (i + 1) k ls lt
  rw [wrap_id (n := Lv (bl s) (bl t) (i + 1) k + 1) (by omega) (by omega)]
  refine Ev.neg (by simp) (Ev.pos (by omega) (Ev.pos (by omega) (Ev.pos (by omega) (Ev.pos (by omega) (Ev.pos (by omega) ?_)))))
  by_cases c : Lv (bl s) (bl t) (i + 1) k + 1 = Lv (bl s) (bl t) i k
  · rw [beq_iff_eq.mpr c]
    apply Ev.succ
    simp only [spec_FirstTypos.j3, e1]
    exact Ev.pos (by trivial) (Ev.pos (by omega) (hl c))
  · rw [beq_eq_false_iff_ne.mpr c]
    exact hr c
theorem sp2n (o : ByteArray) (k : Nat) (R : ByteArray × Bool) 
    (hr : Ev (fun K => spec_FirstTypos.j3 K s t T o ((bl s).length : Nat) k (Lv (bl s) (bl t) (bl s).length k) false) R) :
    Ev (fun K => spec_FirstTypos.j2 K s t T o ((bl s).length : Nat) k (Lv (bl s) (bl t) (bl s).length k) false) R := by
  have es : (s.size : Int) = ((bl s).length : Int) := rfl
  apply Ev.succ
  simp only [spec_FirstTypos.j2]
  exact Ev.neg (by simp) (Ev.neg (by omega) hr)
theorem sp1 (o : ByteArray) (ho : o.size ≤ 1000) (i k : Nat) (R : ByteArray × Bool) (hi : i ≤ (bl s).length) (hk : k ≤ (bl t).length) (hor : i < (bl s).length ∨ k < (bl t).length)
    (he : ∀ (h1 : i < (bl s).length) (h2 : k < (bl t).length), (bl s)[i] = (bl t)[k] → Ev (fun K => spec_FirstTypos.l0 K s t T (o ++ (⟨#[107]⟩ : ByteArray)) ((i + 1 : Nat) : Int) ((k + 1 : Nat) : Int)) R)
    (hn : ¬ (∃ (h1 : i < (bl s).length) (h2 : k < (bl t).length), (bl s)[i] = (bl t)[k]) → Ev (fun K => spec_FirstTypos.j2 K s t T o i k (Lv (bl s) (bl t) i k) false) R) :
    Ev (fun K => spec_FirstTypos.l0 K s t T o i k) R := by
  obtain ⟨a1, a2, a3⟩ := hT.at_ i k hi hk
  have es : (s.size : Int) = ((bl s).length : Int) := rfl
  have et : (t.size : Int) = ((bl t).length : Int) := rfl
  have e1 : wrap64 ((i : Int) + 1) = ((i + 1 : Nat) : Int) := by clear a1 a2 a3; rw [wrap_id (by omega) (by omega)]; omega
  have e2 : wrap64 ((k : Int) + 1) = ((k + 1 : Nat) : Int) := by clear a1 a2 a3; rw [wrap_id (by omega) (by omega)]; omega
  have key : Ev (fun K => spec_FirstTypos.j1 K s t T o i k true) R := by
    by_cases c1 : i < (bl s).length
    · by_cases c2 : k < (bl t).length
      · obtain ⟨d1, d2, d3⟩ := hT.at_ (i + 1) (k + 1) c1 c2
        apply Ev.succ
        simp only [spec_FirstTypos.j1, e1, e2, a1, a2, a3, d2, d3]
        clear a1 a2 a3 d1 d2 d3
        refine Ev.pos (by trivial) (Ev.pos (by omega) (Ev.pos (by omega) (Ev.pos (by omega) (Ev.pos (by omega) (Ev.pos (by omega) (Ev.pos (by omega) ?_))))))
        rw [bt_nat s i c1, bt_nat t k c2]
        by_cases ce : (bl s)[i] = (bl t)[k]
        · have ll := Lv_step (a := bl s) (b := bl t) i k c1 c2
          rw [if_pos ce] at ll
          refine Ev.pos ((byte_eq _ _).2 ce) (Ev.pos (by omega) (Ev.pos (by omega) (Ev.pos (by omega) (Ev.pos (by omega) ?_))))
          rw [beq_iff_eq.mpr ll.symm]
          apply Ev.succ
          simp only [spec_FirstTypos.j2, e1, e2]
          exact Ev.pos (by trivial) (Ev.pos (by omega) (he c1 c2 ce))
        · refine Ev.neg (fun x => ce ((byte_eq _ _).1 x)) (hn (fun ⟨_, _, x⟩ => ce x))
      · apply Ev.succ
        simp only [spec_FirstTypos.j1, a1, a2, a3]
        clear a1 a2 a3
        exact Ev.pos (by trivial) (Ev.pos (by omega) (Ev.pos (by omega) (Ev.pos (by omega) (Ev.pos (by omega) (Ev.pos (by omega) (Ev.neg (by omega) (hn (fun ⟨_, x, _⟩ => c2 x))))))))
    · apply Ev.succ
      simp only [spec_FirstTypos.j1, a1, a2, a3]
      clear a1 a2 a3
      exact Ev.pos (by trivial) (Ev.pos (by omega) (Ev.pos (by omega) (Ev.pos (by omega) (Ev.pos (by omega) (Ev.neg (by omega) (hn (fun ⟨x, _, _⟩ => c1 x)))))))
  clear a1 a2 a3
  apply Ev.succ
  simp only [spec_FirstTypos.l0]
  by_cases c1 : i < (bl s).length
  · exact Ev.pos (by omega) key
  · refine Ev.neg (by omega) ?_
    rw [decide_eq_true (show (k : Int) < (t.size : Int) by omega)]
    exact key
theorem im3 (u : List Int) (ho : u.length ≤ 1000) (i k : Nat) (R : ByteArray × Bool) (hi : i ≤ (bl s).length) (hk : k < (bl t).length)
    (hm : Lv (bl s) (bl t) i (k + 1) + 1 = Lv (bl s) (bl t) i k → Ev (fun K => impl_FirstTypos.l0 K s t T (u ++ [109]) i ((k + 1 : Nat) : Int)) R)
    (hr : ¬ Lv (bl s) (bl t) i (k + 1) + 1 = Lv (bl s) (bl t) i k → Ev (fun K => impl_FirstTypos.l0 K s t T (u ++ [114]) ((i + 1 : Nat) : Int) ((k + 1 : Nat) : Int)) R) :
    Ev (fun K => impl_FirstTypos.j4 K s t T u i k (Lv (bl s) (bl t) i k - 1) true false) R := by
  obtain ⟨a1, a2, a3⟩ := hT.at_ i (k + 1) hi hk
  have es : (s.size : Int) = ((bl s).length : Int) := rfl
  have et : (t.size : Int) = ((bl t).length : Int) := rfl
  have e1 : wrap64 ((i : Int) + 1) = ((i + 1 : Nat) : Int) := by clear a1 a2 a3; rw [wrap_id (by omega) (by omega)]; omega
  have e2 : wrap64 ((k : Int) + 1) = ((k + 1 : Nat) : Int) := by clear a1 a2 a3; rw [wrap_id (by omega) (by omega)]; omega
  apply Ev.succ
  simp only [impl_FirstTypos.j4, e1, e2, a1, a2, a3]
  clear a1 a2 a3
  refine Ev.neg (by simp) (Ev.pos (by trivial) (Ev.pos (by omega) (Ev.pos (by omega) (Ev.pos (by omega) (Ev.pos (by omega) ?_)))))
  by_cases c : Lv (bl s) (bl t) i (k + 1) + 1 = Lv (bl s) (bl t) i k
  · exact Ev.pos (by omega) (Ev.pos (by omega) (hm c))
  · exact Ev.neg (by omega) (Ev.pos (by omega) (hr c))
theorem im2 (u : List Int) (ho : u.length ≤ 1000) (i k : Nat) (b : Bool) (R : ByteArray × Bool) (hi : i < (bl s).length) (hk : k ≤ (bl t).length)
    (hl : Lv (bl s) (bl t) (i + 1) k + 1 = Lv (bl s) (bl t) i k → Ev (fun K => impl_FirstTypos.l0 K s t T (u ++ [108]) ((i + 1 : Nat) : Int) k) R)
    (hr : ¬ Lv (bl s) (bl t) (i + 1) k + 1 = Lv (bl s) (bl t) i k → Ev (fun K => impl_FirstTypos.j4 K s t T u i k (Lv (bl s) (bl t) i k - 1) b false) R) :
    Ev (fun K => impl_FirstTypos.j3 K s t T u i k (Lv (bl s) (bl t) i k - 1) b true false) R := by
  obtain ⟨a1, a2, a3⟩ := hT.at_ (i + 1) k hi hk
  have es : (s.size : Int) = ((bl s).length : Int) := rfl
  have et : (t.size : Int) = ((bl t).length : Int) := rfl
  have e1 : wrap64 ((i : Int) + 1) = ((i + 1 : Nat) : Int) := by clear a1 a2 a3; rw [wrap_id (by omega) (by omega)]; omega
  apply Ev.succ
  simp only [impl_FirstTypos.j3, e1, a1, a2, a3]
  clear a1 a2 a3
  refine Ev.neg (by simp) (Ev.pos (by trivial) (Ev.pos (by omega) (Ev.pos (by omega) (Ev.pos (by omega) (Ev.pos (by omega) ?_)))))
  by_cases c : Lv (bl s) (bl t) (i + 1) k + 1 = Lv (bl s) (bl t) i k
  · rw [beq_iff_eq.mpr (show Lv (bl s) (bl t) (i + 1) k = Lv (bl s) (bl t) i k - 1 by omega)]
    apply Ev.succ
    simp only [impl_FirstTypos.j4, e1]
    exact Ev.pos (by trivial) (Ev.pos (by omega) (hl c))
  · rw [beq_eq_false_iff_ne.mpr (show ¬ Lv (bl s) (bl t) (i + 1) k = Lv (bl s) (bl t) i k - 1 by omega)]
    exact hr c
theorem im2n (u : List Int) (i k : Nat) (b : Bool) (R : ByteArray × Bool) (z : Int)
    (hr : Ev (fun K => impl_FirstTypos.j4 K s t T u i k z b false) R) :
    Ev (fun K => impl_FirstTypos.j3 K s t T u i k z b false false) R := by
  apply Ev.succ
  simp only [impl_FirstTypos.j3]
  exact Ev.neg (by simp) (Ev.neg (by simp) hr)
theorem im1 (u : List Int) (ho : u.length ≤ 1000) (i k : Nat) (R : ByteArray × Bool) (hi : i ≤ (bl s).length) (hk : k ≤ (bl t).length) (hor : i < (bl s).length ∨ k < (bl t).length)
    (he : ∀ (h1 : i < (bl s).length) (h2 : k < (bl t).length), (bl s)[i] = (bl t)[k] → Ev (fun K => impl_FirstTypos.l0 K s t T (u ++ [107]) ((i + 1 : Nat) : Int) ((k + 1 : Nat) : Int)) R)
    (hn : ¬ (∃ (h1 : i < (bl s).length) (h2 : k < (bl t).length), (bl s)[i] = (bl t)[k]) → Ev (fun K => impl_FirstTypos.j3 K s t T u i k (Lv (bl s) (bl t) i k - 1) (decide (k < (bl t).length)) (decide (i < (bl s).length)) false) R) :
    Ev (fun K => impl_FirstTypos.l0 K s t T u i k) R := by
  obtain ⟨a1, a2, a3⟩ := hT.at_ i k hi hk
  have es : (s.size : Int) = ((bl s).length : Int) := rfl
  have et : (t.size : Int) = ((bl t).length : Int) := rfl
  have e1 : wrap64 ((i : Int) + 1) = ((i + 1 : Nat) : Int) := by clear a1 a2 a3; rw [wrap_id (by omega) (by omega)]; omega
  have e2 : wrap64 ((k : Int) + 1) = ((k + 1 : Nat) : Int) := by clear a1 a2 a3; rw [wrap_id (by omega) (by omega)]; omega
  have f1 : decide ((k : Int) < (t.size : Int)) = decide (k < (bl t).length) := by clear a1 a2 a3; rw [decide_eq_decide]; omega
  have f2 : decide ((i : Int) < (s.size : Int)) = decide (i < (bl s).length) := by clear a1 a2 a3; rw [decide_eq_decide]; omega
  have b0 := Lv_nn (a := bl s) (b := bl t) i k
  have g0 := Lv_le i k ls lt
  have w1 : wrap64 (Lv (bl s) (bl t) i k - 1) = Lv (bl s) (bl t) i k - 1 := by clear a1 a2 a3; exact wrap_id (by omega) (by omega)
  have w2 : wrap64 (Lv (bl s) (bl t) i k - 1 + 1) = Lv (bl s) (bl t) i k := by clear a1 a2 a3; rw [wrap_id (by omega) (by omega)]; omega
  have key : Ev (fun K => impl_FirstTypos.j2 K s t T u i k true) R := by
    by_cases c2 : k < (bl t).length
    · by_cases c1 : i < (bl s).length
      · obtain ⟨d1, d2, d3⟩ := hT.at_ (i + 1) (k + 1) c1 c2
        apply Ev.succ
        simp only [impl_FirstTypos.j2, e1, e2, a1, a2, a3, d2, d3, f1, f2, w1, w2]
        clear a1 a2 a3 d1 d2 d3
        refine Ev.pos (by trivial) (Ev.pos (by omega) (Ev.pos (by omega) (Ev.pos (by omega) (Ev.pos (by omega) (Ev.pos (by omega) (Ev.pos (by omega) ?_))))))
        rw [bt_nat s i c1, bt_nat t k c2]
        by_cases ce : (bl s)[i] = (bl t)[k]
        · have ll := Lv_step (a := bl s) (b := bl t) i k c1 c2
          rw [if_pos ce] at ll
          refine Ev.pos ((byte_eq _ _).2 ce) (Ev.pos (by omega) (Ev.pos (by omega) (Ev.pos (by omega) (Ev.pos (by omega) ?_))))
          rw [beq_iff_eq.mpr ll.symm]
          apply Ev.succ
          simp only [impl_FirstTypos.j3, e1, e2]
          exact Ev.pos (by trivial) (Ev.pos (by omega) (he c1 c2 ce))
        · refine Ev.neg (fun x => ce ((byte_eq _ _).1 x)) (hn (fun ⟨_, _, x⟩ => ce x))
      · apply Ev.succ
        simp only [impl_FirstTypos.j2, a1, a2, a3, f1, f2, w1, w2]
        clear a1 a2 a3
        exact Ev.pos (by trivial) (Ev.pos (by omega) (Ev.pos (by omega) (Ev.pos (by omega) (Ev.pos (by omega) (Ev.pos (by omega) (Ev.neg (by omega) (hn (fun ⟨x, _, _⟩ => c1 x))))))))
    · apply Ev.succ
      simp only [impl_FirstTypos.j2, a1, a2, a3, f1, f2, w1, w2]
      clear a1 a2 a3
      exact Ev.pos (by trivial) (Ev.pos (by omega) (Ev.pos (by omega) (Ev.pos (by omega) (Ev.pos (by omega) (Ev.neg (by omega) (hn (fun ⟨_, x, _⟩ => c2 x)))))))
  clear a1 a2 a3
  apply Ev.succ
  simp only [impl_FirstTypos.l0]
  by_cases c1 : i < (bl s).length
  · exact Ev.pos (by omega) key
  · refine Ev.neg (by omega) ?_
    rw [decide_eq_true (show (k : Int) < (t.size : Int) by omega)]
    exact key
end
theorem nums_snoc (u : List Int) (c : Int) (z : UInt8) (h : UInt8.ofNat c.toNat = z) : strOfNums (u ++ [c]) = strOfNums u ++ (⟨#[z]⟩ : ByteArray) := by
  apply bl_inj
  rw [bl_append, bl_nums, bl_nums, List.map_append, List.map_singleton, h, bl_mk]
theorem go_ev (s t : ByteArray) (ls : (bl s).length ≤ 20) (lt : (bl t).length ≤ 20) (T U : List (List Int)) (hT : DoneT (bl s) (bl t) T 0) (hU : DoneT (bl s) (bl t) U 0) : ∀ (N i k : Nat) (u : List Int), ((bl s).length - i) + ((bl t).length - k) ≤ N → i ≤ (bl s).length → k ≤ (bl t).length → u.length + N ≤ 900 →
    ∃ w : ByteArray, Ev (fun K => spec_FirstTypos.l0 K s t T (strOfNums u) i k) (w, true) ∧ Ev (fun K => impl_FirstTypos.l0 K s t U u i k) (w, true) := by
  intro N
  induction N with
  | zero =>
    intro i k u h hi hk hu
    have es : (s.size : Int) = ((bl s).length : Int) := rfl
    have et : (t.size : Int) = ((bl t).length : Int) := rfl
    refine ⟨strOfNums u, ?_, ?_⟩
    · apply Ev.succ
      simp only [spec_FirstTypos.l0]
      refine Ev.neg (by omega) ?_
      rw [decide_eq_false (show ¬ (k : Int) < (t.size : Int) by omega)]
      apply Ev.succ
      simp only [spec_FirstTypos.j1]
      exact Ev.neg (by simp) (Ev.now _)
    · apply Ev.succ
      simp only [impl_FirstTypos.l0]
      refine Ev.neg (by omega) ?_
      rw [decide_eq_false (show ¬ (k : Int) < (t.size : Int) by omega)]
      apply Ev.succ
      simp only [impl_FirstTypos.j2]
      exact Ev.neg (by simp) (Ev.now _)
  | succ N ih =>
    intro i k u h hi hk hu
    by_cases hor : i < (bl s).length ∨ k < (bl t).length
    rotate_left
    · exact ih i k u (by omega) hi hk (by omega)
    have ho : (strOfNums u).size ≤ 1000 := by rw [bl_len, bl_nums, List.length_map]; omega
    by_cases ce : ∃ (h1 : i < (bl s).length) (h2 : k < (bl t).length), (bl s)[i] = (bl t)[k]
    · obtain ⟨h1, h2, ce⟩ := ce
      obtain ⟨w, hs, hm⟩ := ih (i + 1) (k + 1) (u ++ [107]) (by omega) (by omega) (by omega) (by rw [List.length_append]; simp; omega)
      rw [nums_snoc u 107 107 rfl] at hs
      exact ⟨w, sp1 s t ls lt T hT _ ho i k _ hi hk hor (fun _ _ _ => hs) (fun x => absurd ⟨h1, h2, ce⟩ x), im1 s t ls lt U hU u (by omega) i k _ hi hk hor (fun _ _ _ => hm) (fun x => absurd ⟨h1, h2, ce⟩ x)⟩
    -- equal letters don't stand here
    suffices hh : ∃ w : ByteArray, Ev (fun K => spec_FirstTypos.j2 K s t T (strOfNums u) i k (Lv (bl s) (bl t) i k) false) (w, true) ∧ Ev (fun K => impl_FirstTypos.j3 K s t U u i k (Lv (bl s) (bl t) i k - 1) (decide (k < (bl t).length)) (decide (i < (bl s).length)) false) (w, true) by
      obtain ⟨w, hs, hm⟩ := hh
      exact ⟨w, sp1 s t ls lt T hT _ ho i k _ hi hk hor (fun a b c => absurd ⟨a, b, c⟩ ce) (fun _ => hs), im1 s t ls lt U hU u (by omega) i k _ hi hk hor (fun a b c => absurd ⟨a, b, c⟩ ce) (fun _ => hm)⟩
    by_cases c1 : i < (bl s).length
    · rw [decide_eq_true c1]
      by_cases cl : Lv (bl s) (bl t) (i + 1) k + 1 = Lv (bl s) (bl t) i k
      · obtain ⟨w, hs, hm⟩ := ih (i + 1) k (u ++ [108]) (by omega) (by omega) hk (by rw [List.length_append]; simp; omega)
        rw [nums_snoc u 108 108 rfl] at hs
        exact ⟨w, sp2 s t ls lt T hT _ ho i k _ c1 hk (fun _ => hs) (fun x => absurd cl x), im2 s t ls lt U hU u (by omega) i k _ _ c1 hk (fun _ => hm) (fun x => absurd cl x)⟩
      · have c2 : k < (bl t).length := by
          rcases Nat.lt_or_ge k (bl t).length with h2 | h2
          · exact h2
          · obtain rfl : k = (bl t).length := by omega
            exact absurd (by rw [Lv_m (i + 1) (by omega), Lv_m i hi]; omega) cl
        rw [decide_eq_true c2]
        by_cases cm : Lv (bl s) (bl t) i (k + 1) + 1 = Lv (bl s) (bl t) i k
        · obtain ⟨w, hs, hm⟩ := ih i (k + 1) (u ++ [109]) (by omega) hi (by omega) (by rw [List.length_append]; simp; omega)
          rw [nums_snoc u 109 109 rfl] at hs
          exact ⟨w, sp2 s t ls lt T hT _ ho i k _ c1 hk (fun x => absurd x cl) (fun _ => sp3 s t ls lt T hT _ ho i k _ hi c2 (fun _ => hs) (fun x => absurd cm x)), im2 s t ls lt U hU u (by omega) i k _ _ c1 hk (fun x => absurd x cl) (fun _ => im3 s t ls lt U hU u (by omega) i k _ hi c2 (fun _ => hm) (fun x => absurd cm x))⟩
        · obtain ⟨w, hs, hm⟩ := ih (i + 1) (k + 1) (u ++ [114]) (by omega) (by omega) (by omega) (by rw [List.length_append]; simp; omega)
          rw [nums_snoc u 114 114 rfl] at hs
          exact ⟨w, sp2 s t ls lt T hT _ ho i k _ c1 hk (fun x => absurd x cl) (fun _ => sp3 s t ls lt T hT _ ho i k _ hi c2 (fun x => absurd x cm) (fun _ => hs)), im2 s t ls lt U hU u (by omega) i k _ _ c1 hk (fun x => absurd x cl) (fun _ => im3 s t ls lt U hU u (by omega) i k _ hi c2 (fun x => absurd x cm) (fun _ => hm))⟩
    · obtain rfl : i = (bl s).length := by omega
      have c2 : k < (bl t).length := by omega
      rw [decide_eq_false c1, decide_eq_true c2]
      have cm : Lv (bl s) (bl t) (bl s).length (k + 1) + 1 = Lv (bl s) (bl t) (bl s).length k := by rw [Lv_n (k + 1) (by omega), Lv_n k hk]; omega
      obtain ⟨w, hs, hm⟩ := ih (bl s).length (k + 1) (u ++ [109]) (by omega) hi (by omega) (by rw [List.length_append]; simp; omega)
      rw [nums_snoc u 109 109 rfl] at hs
      exact ⟨w, sp2n s t ls lt T hT _ k _ (sp3 s t ls lt T hT _ ho _ k _ hi c2 (fun _ => hs) (fun x => absurd cm x)), im2n s t ls lt U hU u _ k _ _ _ (im3 s t ls lt U hU u (by omega) _ k _ hi c2 (fun _ => hm) (fun x => absurd cm x))⟩
theorem both_ev (s t : ByteArray) (h1 : s.size ≤ 1048576) (h2 : t.size ≤ 1048576) : ∃ r : ByteArray × Bool, Ev (fun k => spec_FirstTypos.f k s t) r ∧ Ev (fun k => impl_FirstTypos.f k s t) r := by
  have fi : Ev (fun k => impl_FirstTypos.j0 k s t true) ((⟨#[]⟩ : ByteArray), false) := by
    apply Ev.succ; simp only [impl_FirstTypos.j0]; exact Ev.pos (by trivial) (Ev.now _)
  unfold spec_FirstTypos.f impl_FirstTypos.f
  cases hs : textB (bl s) with
  | false =>
    exact ⟨(_, false), Ev.bind (bkPair_ev s t) (by rw [hs]; exact Ev.no (Ev.now _)), Ev.bindc (by rw [isText_eq s (by omega), hs]) (Ev.no fi)⟩
  | true =>
    cases ht : textB (bl t) with
    | false =>
      exact ⟨(_, false), Ev.bind (bkPair_ev s t) (by rw [hs, ht]; exact Ev.no (Ev.now _)), Ev.bindc (by rw [isText_eq s (by omega), hs]) (Ev.yes (Ev.bindc (x := false) (by rw [isText_eq t (by omega), ht]) fi))⟩
    | true =>
      have ls := textB_len hs
      have lt := textB_len ht
      obtain ⟨T, hT, eT⟩ := bkTable_ev s t ls lt
      obtain ⟨U, hU, eU⟩ := dist_ev s t ls lt
      obtain ⟨w, g1, g2⟩ := go_ev s t ls lt T U hT hU 40 0 0 [] (by omega) (by omega) (by omega) (by simp)
      refine ⟨(w, true), Ev.bind (bkPair_ev s t) ?_, Ev.bindc (by rw [isText_eq s (by omega), hs]) (Ev.yes (Ev.bindc (by rw [isText_eq t (by omega), ht]) (Ev.succ ?_)))⟩
      · rw [hs, ht]
        exact Ev.yes (Ev.bind eT g1)
      · simp only [impl_FirstTypos.j0]
        exact Ev.neg (by simp) (Ev.bind eU g2)
end FirstTypos
open FirstTypos in
theorem pure_FnExactFirstTypos : PureFnExactFirstTypos := by
  intro s t
  intros
  refine Ev.rounds (g := fun k => laws_FnExactFirstTypos.f k s t) ?_
  unfold laws_FnExactFirstTypos.f
  by_cases c1 : s.size ≤ 1048576
  · by_cases c2 : t.size ≤ 1048576
    · obtain ⟨r, hs, hi⟩ := both_ev s t c1 c2
      exact Ev.neg (by omega) (Ev.neg (by omega) (Ev.bind hs (Ev.bind hi (Ev.pos (by trivial) (Ev.neg (by simp) (Ev.now _))))))
    · exact Ev.neg (by omega) (Ev.pos (by omega) (Ev.now _))
  · exact Ev.pos (by omega) (Ev.now _)
end Go.Proofs.YtgbkfhoildfaoaaDoor

namespace Go.Proofs.YtgbkfhoildfaoaaDoor
open Go.RowKit Go.Proofs.YtgbkfhoildfaoaaDoorW.PrintWords Go.ChangeShapes Go.WideShapes

theorem C_scalar {α : Type} {enc : α → Value} {h1 : ∀ x, (enc x).oneCell' = true} {w : World} {A : Option Addr} {l : List α} (hn : l.length ≤ 9223372036854775807)
    (hcell : 0 < l.length → ∃ ad, A = some ad ∧ ∀ j x, l[j]? = some x → w.cell? (ad.add j) = some (enc x)) : (Kd.scalar enc h1).C w A l.length l := by
  refine ⟨rfl, hn, fun hp => ?_⟩
  obtain ⟨ad, hA, hc⟩ := hcell hp
  refine ⟨ad, hA, fun j x hx => ⟨[enc x], rfl, rfl, fun i u hu => ?_⟩⟩
  match i, hu with
  | 0, hu =>
    have : enc x = u := by simpa using hu
    subst this
    show w.cell? (ad.add (j * 1 + 0)) = _
    rw [Nat.mul_one, Nat.add_zero]
    exact hc j x hx
  | i + 1, hu => simp at hu

section
variable {H : Type} {enc : TypeId × Value → H} {P : Program} {w : World} {base : Nat} {spare : Nat → Bool} {held : Bool}

/-- A cell that reads at a slice of whole numbers. -/
theorem read_ints {t e : TypeId} {k : IntKind} {fuel : Nat} {v : Value} {y : DataW H × List MemPlace} (ht : P.underlying t = some (.slice e)) (he : P.underlying e = some (.int k)) (hc : P.cellsOf e = 1)
    (hf : DataW.trod enc P w base spare held fuel t [v] = some y) :
    ∃ (A : Option Addr) (c : Nat) (l : List Int), v = .slice A l.length c ∧ l.length ≤ c ∧ (∀ x ∈ l, (Lit.int k x).wf = true) ∧ (Kd.int k).C w A l.length l := by
  rcases open_ints ht he hc hf with ⟨hcs, _⟩ | ⟨a, len, cap, zs, hcs, _, hl, hm, hz, _, hcell, hwf⟩
  · obtain rfl : v = .slice none 0 0 := by simpa using hcs
    exact ⟨none, 0, [], rfl, Nat.le_refl _, fun x hx => by simp at hx, rfl, by simp, fun h => absurd h (by simp)⟩
  · obtain rfl : v = .slice (some a) len cap := by simpa using hcs
    have hlz : len ≤ zs.length := by rw [hz]; split <;> omega
    have hlen : (zs.take len).length = len := by rw [List.length_take]; omega
    refine ⟨some a, cap, zs.take len, by rw [hlen], by rw [hlen]; exact hl, fun x hx => hwf x (List.mem_of_mem_take hx), ?_⟩
    refine C_scalar (by rw [hlen]; unfold maxLen at hm; omega) (fun hp => ⟨a, rfl, fun j x hj => ?_⟩)
    have hj' : j < len := by have := (List.getElem?_eq_some_iff.1 hj).1; rw [hlen] at this; exact this
    rw [hcell j (by omega)]
    rw [List.getElem?_take_of_lt hj'] at hj
    rw [List.getD_eq_getElem?_getD, hj]; rfl

/-- A cell that reads at a slice of strings. -/
theorem read_strs {t e : TypeId} {fuel : Nat} {v : Value} {y : DataW H × List MemPlace} (ht : P.underlying t = some (.slice e)) (he : P.underlying e = some .string) (hc : P.cellsOf e = 1)
    (hf : DataW.trod enc P w base spare held fuel t [v] = some y) :
    ∃ (A : Option Addr) (c : Nat) (l : List ByteArray), v = .slice A l.length c ∧ l.length ≤ c ∧ (∀ s ∈ l, s.size ≤ 9223372036854775807) ∧ Kd.string.C w A l.length l := by
  rcases open_strings ht he hc hf with ⟨hcs, _⟩ | ⟨a, len, cap, zs, hcs, _, hl, hm, hz, _, hcell, hwf⟩
  · obtain rfl : v = .slice none 0 0 := by simpa using hcs
    exact ⟨none, 0, [], rfl, Nat.le_refl _, fun x hx => by simp at hx, rfl, by simp, fun h => absurd h (by simp)⟩
  · obtain rfl : v = .slice (some a) len cap := by simpa using hcs
    have hlz : len ≤ zs.length := by rw [hz]; split <;> omega
    have hlen : (zs.take len).length = len := by rw [List.length_take]; omega
    refine ⟨some a, cap, zs.take len, by rw [hlen], by rw [hlen]; exact hl, fun x hx => by have := hwf x (List.mem_of_mem_take hx); unfold maxLen at this; omega, ?_⟩
    refine C_scalar (by rw [hlen]; unfold maxLen at hm; omega) (fun hp => ⟨a, rfl, fun j x hj => ?_⟩)
    have hj' : j < len := by have := (List.getElem?_eq_some_iff.1 hj).1; rw [hlen] at this; exact this
    rw [hcell j (by omega)]
    rw [List.getElem?_take_of_lt hj'] at hj
    rw [List.getD_eq_getElem?_getD, hj]; rfl

theorem read_int {t : TypeId} {k : IntKind} {fuel : Nat} {v : Value} {y : DataW H × List MemPlace} (ht : P.underlying t = some (.int k))
    (hf : DataW.trod enc P w base spare held fuel t [v] = some y) : ∃ n : Int, v = .int k n ∧ (Lit.int k n).wf = true := by
  obtain ⟨n, e1, _, h⟩ := DataW.trod_int ht hf
  exact ⟨n, by simpa using e1, h⟩
end

/-- The cells of a datum that holds numbers alone, an array's elements being numbers or structs of numbers. -/
def litsOf : DataW Unit → List Value
  | .lit (.int k n) => [.int k n]
  | .agg l => l.flatMap fun
    | .lit (.int k n) => [.int k n]
    | .agg l2 => l2.flatMap fun
      | .lit (.int k n) => [.int k n]
      | _ => []
    | _ => []
  | _ => []
end Go.Proofs.YtgbkfhoildfaoaaDoor

/- FnExactFirstTyposCardSaid: the law 'FnExactFirstTypos' answers true for every input, and leaves its arguments as they were. The row and its tied card, over the walk of its calls and the pure statement. -/
namespace Go.Proofs.YtgbkfhoildfaoaaDoor.fnExactFirstTypos
open Go.ChangeShapes Go.WideShapes Go.ChangeAt Go.RowKit Go.Proofs.YtgbkfhoildfaoaaDoor.P Go.Proofs.YtgbkfhoildfaoaaDoorW.PrintWords
open Go.ChangeMaps (open_string shut_string)
set_option linter.unusedVariables false
theorem own : ownKnob Tryd.prog.godebug = none := by kernel_rfl
/-- What the row lists of package-level variables. -/
noncomputable def laidList : List (String × DataW Unit) := [("unicode/utf8.acceptRanges", Rows.laid_unicode_utf8_acceptRanges), ("unicode/utf8.first", Rows.laid_unicode_utf8_first)]
/-- A world that meets it: the settled one, the listed variables laid. -/
noncomputable def laidWorld (os : Os) : World :=
  let w0 := World.holding Tryd.prog os ⟨#[], #[], []⟩
  { w0 with heap := ((w0.heap.modify 2 fun o => match o with | .cells _ t frozen => .cells (litsOf Rows.laid_unicode_utf8_acceptRanges).toArray t frozen | o => o).modify 1 fun o => match o with | .cells _ t frozen => .cells (litsOf Rows.laid_unicode_utf8_first).toArray t frozen | o => o) }
theorem laidWorld_met (os : Os) (args : Array Value) : laidMetH Tryd.prog laidList ((laidWorld os).forCall (fun _ _ => 0) ⟨#[], args, []⟩).memory :=
  laidMetH_of_parts3 (fuel := 8) (laidMet_of_run' 8 (by kernel_rfl) (by kernel_rfl)) (by kernel_rfl) (by kernel_rfl)
set_option maxRecDepth 100000 in
theorem lifted (os : Os) (started : os.Started) (H : Type) (enc : TypeId × Value → H) :
    ReturnsInHanded {} Tryd.checked os 5 .any (fun w args => (Rows.fnExactFirstTyposSpec.pre enc Tryd.prog Tryd.f5 [] false w args ∧ laidMetH Tryd.prog laidList w) ∧ sizedMet enc Tryd.prog Tryd.f5 (OpenSpec.ofChange Rows.fnExactFirstTyposSpec) false w args)
      (Rows.fnExactFirstTyposSpec.post enc Tryd.prog Tryd.f5 false true false false) := by
  refine returnsInHanded_of_change_and (C := Tryd.checked) (X := fun w _ => laidMetH Tryd.prog laidList w) (fun _ _ _ hh h => h.of_heap hh) own started (by kernel_rfl) Tryd.func5
    (ChangeSpec.witness_at (enc := enc) (C := Tryd.checked) (os := os) (X := fun w _ => laidMetH Tryd.prog laidList w) false (laidWorld os) #[.string ByteArray.empty, .string ByteArray.empty] 8 rfl (by kernel_rfl) (by kernel_rfl) (by kernel_rfl) (by kernel_rfl) (by kernel_rfl) (laidWorld_met os _)) ?_
  intro W base args ds gs before hval0 hW _ _ hL _
  have hval : ∀ (j : Nat) t v, Tryd.f5.params[j]? = some t → args[j]? = some v → Value.okWide Tryd.prog W .any base t v := hval0
  have hW' := hW
  obtain ⟨p, q, hA0, hV, rfl, hfz, hnd⟩ := hW
  have hA : DataW.TrodAll enc Tryd.prog W 0 (fun _ => true) true Tryd.f5.params.toList args.toList ds p := hA0
  rw [Tryd.params5] at hA hval
  obtain ⟨v0, vs0, d0, ds0, p0, q0, hargs, rfl, rfl, h0, r0⟩ := trodAll_cons hA
  obtain ⟨v1, vs1, d1, ds1, p1, q1, rfl, rfl, rfl, h1, r1⟩ := trodAll_cons r0
  obtain ⟨rfl, rfl, rfl⟩ := trodAll_nil r1
  obtain rfl : args = #[v0, v1] := by cases args; simp_all
  obtain ⟨rfl, rfl⟩ := trodVars_none hV
  obtain ⟨a0, rfl, rfl, rfl, y0⟩ := open_string Tryd.underlying9 (hval 0 9 v0 rfl rfl) h0
  have z0 : a0.size ≤ 9223372036854775807 := by unfold maxLen at y0; omega
  obtain ⟨a1, rfl, rfl, rfl, y1⟩ := open_string Tryd.underlying9 (hval 1 9 v1 rfl rfl) h1
  have z1 : a1.size ≤ 9223372036854775807 := by unfold maxLen at y1; omega
  clear hA0 hval0
  simp only [List.append_nil] at hW'
  obtain ⟨k, hk⟩ := pure_FnExactFirstTypos a0 a1 z0 z1
  refine (laws_FnExactFirstTypos.calls k a0 a1 true W  hk).mono fun e W' ⟨he, bel0⟩ => ?_
  have bel : Below W.heap.size W W' := bel0
  subst he
  exact ⟨_, rfl, _, _, _, [], _, [], hW', trodAll_mk1 (shut_bool Tryd.underlying4 _), (trodAll_cons_mk (shut_string Tryd.underlying9 y0) (trodAll_cons_mk (shut_string Tryd.underlying9 y1) trodAll_mk0)), rfl, bel.frame _, fun h => by cases h⟩
theorem over : Rows.fnExactFirstTyposRow.holds Tryd.pinned (OpenSpec.ofChange Rows.fnExactFirstTyposSpec) :=
  OpenClaim.holds_of_wide 5 Tryd.f5 rfl rfl rfl rfl rfl rfl rfl ⟨rfl, rfl, rfl, rfl, rfl⟩ rfl rfl rfl rfl rfl (by kernel_rfl) Tryd.func5 (by kernel_rfl)
    (of_decide_eq_true (by kernel_rfl)) (by unfold Func.isWrapper; first | (rw [if_pos (by decide +kernel)]; kernel_rfl) | (rw [if_neg (by decide +kernel)]; exact ⟨rfl, rfl⟩))
    (fun os started H enc _ => lifted os started H enc)
theorem proved : Rows.FnExactFirstTyposSaid := over
theorem card : Rows.FnExactFirstTyposCardSaid :=
  Claim7.holds_tied_plain_at .later [] [.data, .pinned] true (true, "69ec990f0d04a2270e1a60eea2b9271187082f2b1a0c859620343dada80cc5eb") false
    proved (fun _ h => by cases h) (by kernel_rfl) (fun _ h => by cases h) fnExactFirstTypos_row_tie rfl ⟨rfl, rfl⟩ (by kernel_rfl) rfl
    (fun f fn hf hfn => by
      obtain rfl : f = 5 := Option.some.inj ((show Tryd.prog.funcNamed "loop.example/g01350/laws.FnExactFirstTypos" = some 5 by kernel_rfl).symm.trans hf) |>.symm
      obtain rfl : fn = Tryd.f5 := (Option.some.inj (Tryd.func5.symm.trans hfn)).symm
      exact ⟨by kernel_rfl, fun j t ht => by
        rw [Tryd.params5] at ht
        have hm : t ∈ #[9, 9] := Array.mem_of_getElem? ht
        have hm : t ∈ [9, 9] := by simpa using hm
        have hall : ([9, 9].all fun u => !Tryd.prog.wantsStandIn u) = true := by kernel_rfl
        exact (show Tryd.prog.wantsStandIn t = false by simpa using List.all_eq_true.1 hall t hm)⟩)
    (by kernel_rfl)
#print axioms card
end Go.Proofs.YtgbkfhoildfaoaaDoor.fnExactFirstTypos
namespace Go.Proofs.YtgbkfhoildfaoaaDoor
theorem fnExactFirstTypos_holds : Rows.FnExactFirstTyposCardSaid := fnExactFirstTypos.card
end Go.Proofs.YtgbkfhoildfaoaaDoor

