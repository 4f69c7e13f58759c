import Derived.Test.YtijfgnkcgbedgaaLmInts
import Derived.Test.YtijfgnkcgbedgaaPxlawsszScheme
import Derived.Test.YtijfgnkcgbedgaaPxlawstoScheme
import Derived.Test.YtijfgnkcgbedgaaPxlawseqScheme
import Derived.Test.YtijfgnkcgbedgaaPxspecckGood
import Derived.Test.YtijfgnkcgbedgaaPximplIsScheme
namespace Go.Proofs.Ytijfgnkcgbedgaa
open Go.RowKit Go.Proofs.Ytijfgnkcgbedgaa.P Go.Proofs.YtijfgnkcgbedgaaW.PrintWords
theorem szScheme_eq (m : Int) (l : List Int) (h : l.length ≤ 9223372036854775807) : laws_szScheme.f m l 1048576 = some (if l.length ≤ 1048576 then 1048576 - (l.length : Int) else -1) := by
  unfold laws_szScheme.f
  rw [szIntS_eq l h]
  simp only [Option.bind_some]
  by_cases c : l.length ≤ 1048576
  · rw [if_pos c, if_neg (by omega)]
  · rw [if_neg c, if_pos (by omega)]
theorem toScheme_ev (m : Int) (l : List Int) (h : l.length ≤ 1048576) : Ev (fun k => laws_toScheme.f k m l) (m, l) := by
  unfold laws_toScheme.f
  exact Ev.bind (toIntS_ev l h) (Ev.now _)
theorem eqScheme_ev (m : Int) (l : List Int) (h : l.length ≤ 1048576) : Ev (fun k => laws_eqScheme.f k m l m l) true := by
  unfold laws_eqScheme.f
  refine Ev.pos rfl (Ev.bind (eqIntS_ev l l (by omega)) ?_)
  simp only [decide_true, if_true]
  exact Ev.now _
theorem l1In_eq (n a b : Int) : spec_l1In.f n a b = some (decide (a ≤ n) && decide (n ≤ b)) := by
  unfold spec_l1In.f
  by_cases h : a ≤ n
  · rw [if_pos h]; simp [h]
  · rw [if_neg h]; simp [h]
theorem l1All_l0 (lo hi : Int) (l : List Int) (hl : l.length ≤ 9223372036854775806) : ∀ (d i : Nat), i + d = l.length → Ev (fun k => spec_l1All.l0 k lo hi l (l.length : Int) i) ((l.drop i).all fun x => decide (lo ≤ x) && decide (x ≤ hi))
  | 0, i, hi => by
    apply Ev.succ
    simp only [spec_l1All.l0]
    refine Ev.neg (by omega) (Ev.const ?_)
    rw [List.drop_of_length_le (by omega)]; rfl
  | d + 1, i, he => by
    apply Ev.succ
    simp only [spec_l1All.l0]
    refine Ev.pos (by omega) (Ev.pos (by omega) (Ev.pos (by omega) (Ev.bindc (l1In_eq _ _ _) ?_)))
    rw [wrap_id (by omega) (by omega), rd_nat l i (by omega), List.drop_eq_getElem_cons (l := l) (by omega), List.all_cons]
    cases hc : (decide (lo ≤ l[i]) && decide (l[i] ≤ hi)) with
    | true =>
      refine Ev.pos rfl ?_
      have := l1All_l0 lo hi l hl d (i + 1) (by omega)
      simp only [Bool.true_and]
      exact_mod_cast this
    | false => exact Ev.neg (by decide) (Ev.now _)
theorem l1All_ev (lo hi : Int) (l : List Int) (hl : l.length ≤ 9223372036854775806) : Ev (fun k => spec_l1All.f k l lo hi) (l.all fun x => decide (lo ≤ x) && decide (x ≤ hi)) := by
  unfold spec_l1All.f
  exact l1All_l0 lo hi l hl l.length 0 (by omega)
/-- Is a scheme right? -/
def goodB (m : Int) (l : List Int) : Bool := decide (2 ≤ m) && decide (m ≤ 13) && (decide (1 ≤ l.length) && decide (l.length ≤ 12)) && l.all fun x => decide (0 ≤ x) && decide (x ≤ m - 1)
theorem ckGood_ev (m : Int) (l : List Int) (hl : l.length ≤ 1048576) : Ev (fun k => spec_ckGood.f k m l) (goodB m l) := by
  unfold spec_ckGood.f goodB
  refine Ev.bindc (l1In_eq _ _ _) ?_
  cases h1 : (decide (2 ≤ m) && decide (m ≤ 13)) with
  | false => exact Ev.neg (by decide) (Ev.now _)
  | true =>
    refine Ev.pos rfl (Ev.bindc (l1In_eq _ _ _) ?_)
    have hm : 2 ≤ m ∧ m ≤ 13 := by simpa using h1
    have e : (decide ((1 : Int) ≤ (l.length : Int)) && decide ((l.length : Int) ≤ 12)) = (decide (1 ≤ l.length) && decide (l.length ≤ 12)) := by
      congr 1 <;> (rw [decide_eq_decide]; omega)
    rw [e]
    cases h2 : (decide (1 ≤ l.length) && decide (l.length ≤ 12)) with
    | false => exact Ev.neg (by decide) (Ev.now _)
    | true =>
      refine Ev.pos rfl (Ev.bind (l1All_ev _ _ l (by omega)) ?_)
      rw [wrap_id (by omega) (by omega)]
      simp only [Bool.true_and]
      exact Ev.now _
theorem implIsScheme_good (m : Int) (l : List Int) : impl_IsScheme.f m l = some (goodB m l) := by
  unfold impl_IsScheme.f goodB
  by_cases h1 : 2 ≤ m ∧ m ≤ 13
  · rw [wrap_id (by omega) (by omega)]
    congr 1
    rw [← Bool.and_assoc (decide (2 ≤ m) && decide (m ≤ 13))]
    congr 1
    rw [List.not_any_eq_all_not]
    simp
  · have : (decide (2 ≤ m) && decide (m ≤ 13)) = false := by
      rw [Bool.and_eq_false_iff]; simp only [decide_eq_false_iff_not]; omega
    simp [this]
end Go.Proofs.Ytijfgnkcgbedgaa
